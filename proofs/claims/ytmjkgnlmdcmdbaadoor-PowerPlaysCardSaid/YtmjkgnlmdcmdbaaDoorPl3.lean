/- Law 42's plain plant: use that is done. -/
import Derived.Test.YtmjkgnlmdcmdbaaDoorPl2
namespace Go.Proofs.YtmjkgnlmdcmdbaaDoor.Power
open Go.RowKit Go.Proofs.YtmjkgnlmdcmdbaaDoorW.PrintWords Go.Proofs.YtmjkgnlmdcmdbaaDoorW.PrintLast Go.Proofs.YtmjkgnlmdcmdbaaDoorW.PrintMore Go.Proofs.YtmjkgnlmdcmdbaaDoor.Row Go.Proofs.YtmjkgnlmdcmdbaaDoor.Sets Go.Proofs.YtmjkgnlmdcmdbaaDoor.Node Go.Proofs.YtmjkgnlmdcmdbaaDoor.Each
set_option linter.unusedVariables false
set_option linter.unusedSimpArgs false
set_option maxRecDepth 100000
theorem PQ.setu {w : World} {b : Nat} {p : Pl} {us : Nat → Bool} (h : PQ w b p us) (x : Nat) : PQ w b { p with u := x } us := ⟨h.cI, h.cW, h.cS, h.cn, h.ct, h.cs, h.cu, h.cw, h.ce, h.ca, h.fz⟩
theorem and_bit (x y : Nat) (h : x &&& y = 0) (i : Nat) (hb : x.testBit i = true) : y.testBit i = false := by
  have h1 : (x &&& y).testBit i = false := by rw [h, Nat.zero_testBit]
  rw [Nat.testBit_and, hb] at h1
  simpa using h1
theorem without_if (s k j : Nat) (hj : j < 64) : (withoutS s (k : Int)).testBit j = if j = k then false else s.testBit j := by
  rw [withoutS_bit _ _ _ hj]
  by_cases e : j = k
  · subst e; simp
  · rw [if_neg e]
    have : ¬ ((j : Int) = (k : Int)) := by omega
    simp [this]
set_option maxHeartbeats 4000000 in
theorem use_yes_pl (b s : Nat) (p : Pl) (w : World) (h : PQ w b p (fun k => p.u.testBit k)) (ho : PlOk p) (hs : s < 18446744073709551616) (hs0 : s ≠ 0) (hm0 : minus s (allS p.N) = 0) (hm : s &&& p.u = 0) :
    Calls Tryd.prog 100 #[.pointer (some ⟨b, 0, none⟩), .int .u64 (s : Int)] w fun e w' => e = .returned (.tuple #[.int .i64 (useAt p s (lenS s)).2, .int .i64 0]) ∧ PQ w' b (useP p s) (fun k => (useP p s).u.testBit k) ∧ Upd b w w' := by
  have e0 : ((s : Int) == 0) = false := (neq_b s hs0).2
  have KA := Lib.hid (fun W => all_any (p.N : Int) W)
  have hv := minus_val s (allS p.N) hs (allS_lt _)
  have HIN := Lib.hid (in_all s p.N hs hm0)
  rw [hm0] at hv
  obtain ⟨a, ha⟩ : ∃ a, allS p.N = a := ⟨_, rfl⟩
  rw [ha] at hv KA
  have HOK := Lib.hid ho
  have HM := Lib.hid hm
  have HN := Lib.hid ho.hN
  have H := Lib.hid h
  have HSN := Lib.hid (useN_same p s)
  have HNok := Lib.hid (fun k hk => useN_ok p s k hk ho)
  have HAL := Lib.hid (useN_all p s p.N ho.hN.2 (in_all s p.N hs hm0))
  have c3 := h.cn
  have c4 := h.ct
  have KH := Lib.hid (fun k (hk : k < 64) W => has42_any s k W hs hk)
  obtain ⟨N, hNe⟩ : ∃ N, p.N = N := ⟨_, rfl⟩
  rw [hNe] at c3 HN KA HIN HAL
  have HNE := Lib.hid hNe
  obtain ⟨t, ht⟩ : ∃ t, p.t = t := ⟨_, rfl⟩
  rw [ht] at c4
  have HTE := Lib.hid ht
  have hN := HN.out
  clear h ho ha hm hs0 hm0 hs hNe ht
  go_enter Tryd.func100, Tryd.ntmps100
  go_upto_region 3 with (go_at_call 26; refine (KA.out _).mono ?_; rintro e w2 ⟨rfl, rfl⟩)
  go_wp2
  go_loop [6] (fun v6 => ∃ i : Nat, v6 = .int .i64 i ∧ i ≤ N) (fun v6 => N - (intOf v6).toNat)
  case atStart => exact ⟨0, rfl, by omega⟩
  case round =>
    obtain ⟨i, rfl, hi⟩ := hrel
    by_cases c1 : i < N
    · have b1 : decide (i < N) = true := decide_eq_true c1
      have b2 : decide ((i : Int) < (N : Int)) = true := decide_eq_true (by omega)
      have hi64 : i < 64 := by omega
      have K := Lib.hid (KH.out i hi64)
      have x0 : ((i : Int) < 64) = True := eq_true (by omega)
      have xt : ((i : Int)).toNat = i := by omega
      have cu := H.out.cu i hi64
      have hno := and_bit s p.u HM.out i
      obtain ⟨sb, hsb⟩ : ∃ x, s.testBit i = x := ⟨_, rfl⟩
      obtain ⟨ub, hub⟩ : ∃ x, p.u.testBit i = x := ⟨_, rfl⟩
      rw [hsb] at K hno
      rw [hub] at cu hno
      clear hsb hub
      cases sb with
      | false =>
        clear hno
        go_wp2_with (go_at_call 116; refine (K.out _).mono ?_; rintro e w2 ⟨rfl, rfl⟩)
        go_round
        case rel => exact ⟨i + 1, by go_num, by omega⟩
        case measure => simp [intOf]; omega
      | true =>
        obtain rfl := hno rfl
        clear hno
        go_wp2_with (go_at_call 116; refine (K.out _).mono ?_; rintro e w2 ⟨rfl, rfl⟩)
        go_round
        case rel => exact ⟨i + 1, by go_num, by omega⟩
        case measure => simp [intOf]; omega
    · obtain rfl : i = N := by omega
      have b1 : decide (i < i) = false := decide_eq_false c1
      clear KA hv e0
      go_wp2
      go_loopg [7, 8] (i + 1) (fun kq v7 v8 w' => ∃ (k : Nat), v7 = .int .i64 (useN p s k).2 ∧ v8 = .int .i64 k ∧ Aside0 (k + kq = i + 1 ∧ 1 ≤ kq) ∧ Aside0 (PQ w' b (useN p s k).1 (fun j => p.u.testBit j || (decide (j < k) && s.testBit j))) ∧ Aside0 (Upd b w w'))
      case atStart => exact ⟨0, by show _ = Value.int .i64 p.t; rw [HTE.out], rfl, ⟨by omega, by omega⟩, ⟨by exact H.out.congr fun j hj => by simp⟩, ⟨Upd.refl _ _⟩⟩
      case round =>
        clear H c3 c4 c1 b1
        obtain ⟨k, rfl, rfl, HK, HI, HU⟩ := hrel
        obtain ⟨k1, rfl⟩ : ∃ k1, gk = k1 + 1 := ⟨gk - 1, by have := HK.out; omega⟩
        have hcn := HI.out.cn
        have hsame := HSN.out k (by have := HK.out; omega)
        rw [hsame.2.2, HNE.out] at hcn
        by_cases ck : k < i
        · have b2 : decide ((k : Int) < (i : Int)) = true := decide_eq_true (by omega)
          have b3 : decide (k < i) = true := decide_eq_true ck
          have hk64 : k < 64 := by omega
          have x0 : ((k : Int) < 64) = True := eq_true (by omega)
          have xt : ((k : Int)).toNat = k := by omega
          have K := Lib.hid (KH.out k hk64)
          have hok := HNok.out k (by omega)
          have hst : useN p s (k + 1) = if s.testBit k = true then (useStep (useN p s k).1 k, later (useN p s k).2 ((useStep (useN p s k).1 k).wk k)) else useN p s k := rfl
          obtain ⟨q, hq⟩ : ∃ q, (useN p s k).1 = q := ⟨_, rfl⟩
          obtain ⟨tm, htm⟩ : ∃ q, (useN p s k).2 = q := ⟨_, rfl⟩
          have hpa : useN p s k = (q, tm) := by rw [← hq, ← htm]
          rw [hpa] at hst
          rw [hq] at hok HI
          rw [htm]
          obtain ⟨us, hus⟩ : ∃ u : Nat → Bool, (fun j => p.u.testBit j || (decide (j < k) && s.testBit j)) = u := ⟨_, rfl⟩
          have HUS1 : Hid (s.testBit k = true → ∀ j, j < 64 → (if j = k then true else us j) = (p.u.testBit j || (decide (j < k + 1) && s.testBit j))) := Lib.hid (fun hb j hj => by
            rw [← hus]
            by_cases e : j = k
            · subst e; rw [if_pos rfl, hb, decide_eq_true (by omega)]; simp
            · rw [if_neg e]
              have e2 : decide (j < k) = decide (j < k + 1) := decide_eq_decide.2 ⟨fun h => by omega, fun h => by omega⟩
              show (p.u.testBit j || (decide (j < k) && s.testBit j)) = _
              rw [e2])
          have HUS0 : Hid (s.testBit k = false → ∀ j, j < 64 → us j = (p.u.testBit j || (decide (j < k + 1) && s.testBit j))) := Lib.hid (fun hb j hj => by
            rw [← hus]
            by_cases e : j = k
            · subst e; rw [hb]; simp
            · have e2 : decide (j < k) = decide (j < k + 1) := decide_eq_decide.2 ⟨fun h => by omega, fun h => by omega⟩
              show (p.u.testBit j || (decide (j < k) && s.testBit j)) = _
              rw [e2])
          rw [hus] at HI
          have hadd : addS q.t q.W = q.t + q.W := by unfold addS; rw [if_pos (by have h1 := hok.ht; have h2 := hok.hW; omega)]
          have hadr : -9223372036854775808 ≤ q.t + q.W ∧ q.t + q.W ≤ 9223372036854775807 := by have h1 := hok.ht; have h2 := hok.hW; omega
          have WA := Lib.hid (wrapB (show q.t + q.W = q.t + q.W from rfl) hadr.1 hadr.2)
          have HADD := Lib.hid hadd
          clear hq htm hpa hus hok hadd hadr hsame
          obtain ⟨sb, hsb⟩ : ∃ x, s.testBit k = x := ⟨_, rfl⟩
          rw [hsb] at K HUS1 HUS0 hst
          have HST := Lib.hid hst
          clear hsb hst
          cases sb with
          | false =>
            have HS2 : Hid (useN p s (k + 1) = (q, tm)) := Lib.hid (HST.out.trans (if_neg (by simp)))
            have HUSX := Lib.hid (HUS0.out rfl)
            clear HST HUS0 HUS1
            go_wp2_with (go_at_call 116; refine (K.out _).mono ?_; rintro e w2 ⟨rfl, rfl⟩)
            go_roundg k1
            case measure => have := HK.out; omega
            case rel => exact ⟨k + 1, by rw [HS2.out], by go_num, ⟨by have := HK.out; omega, by have := HK.out; omega⟩, ⟨by rw [HS2.out]; exact HI.out.congr HUSX.out⟩, ⟨HU.out⟩⟩
          | true =>
            have HS2 : Hid (useN p s (k + 1) = (useStep q k, later tm ((useStep q k).wk k))) := Lib.hid (HST.out.trans (if_pos rfl))
            have HUSX := Lib.hid (HUS1.out rfl)
            clear HST HUS0 HUS1
            have cs := HI.out.cs k hk64
            have fs := HI.out.fz (5 + k)
            obtain ⟨zb, hzb⟩ : ∃ x, q.s.testBit k = x := ⟨_, rfl⟩
            rw [hzb] at cs
            cases zb with
            | false =>
              have HQ : Hid (useStep q k = q) := Lib.hid (by unfold useStep; rw [if_neg (by rw [hzb]; simp)])
              obtain ⟨y, hy⟩ : ∃ y, q.wk k = y := ⟨_, rfl⟩
              have HWY := Lib.hid hy
              clear hzb hy
              have cw : wr.cell? ⟨b, 133 + k, none⟩ = some (.int .i64 y) := (HI.out.cw k hk64).trans (by rw [HWY.out])
              have cu := HI.out.cu k hk64
              have fu := HI.out.fz (69 + k)
              obtain ⟨ob, hob⟩ : ∃ o, us k = o := ⟨_, rfl⟩
              rw [hob] at cu
              clear hob
              by_cases cy : tm < y
              · have e1 : decide (tm < y) = true := decide_eq_true cy
                have HS3 : Hid (useN p s (k + 1) = (q, y)) := Lib.hid (by rw [HS2.out, HQ.out, HWY.out]; unfold later; rw [if_pos cy])
                clear cy
                go_wp2_with (go_at_call 116; refine (K.out _).mono ?_; rintro e w2 ⟨rfl, rfl⟩)
                go_roundg k1
                case measure => have := HK.out; omega
                case rel => exact ⟨k + 1, by rw [HS3.out], by go_num, ⟨by have := HK.out; omega, by have := HK.out; omega⟩, ⟨by rw [HS3.out]; exact (HI.out.setU k hk64 true).congr HUSX.out⟩, ⟨HU.out.setCell _ _⟩⟩
              · have e1 : decide (tm < y) = false := decide_eq_false cy
                have HS3 : Hid (useN p s (k + 1) = (q, tm)) := Lib.hid (by rw [HS2.out, HQ.out, HWY.out]; unfold later; rw [if_neg cy])
                clear cy
                go_wp2_with (go_at_call 116; refine (K.out _).mono ?_; rintro e w2 ⟨rfl, rfl⟩)
                go_roundg k1
                case measure => have := HK.out; omega
                case rel => exact ⟨k + 1, by rw [HS3.out], by go_num, ⟨by have := HK.out; omega, by have := HK.out; omega⟩, ⟨by rw [HS3.out]; exact (HI.out.setU k hk64 true).congr HUSX.out⟩, ⟨HU.out.setCell _ _⟩⟩
            | true =>
              have HQ0 : Hid (useStep q k = { q with s := withoutS q.s (k : Int), wk := Power.upd q.wk k (q.t + q.W) }) := Lib.hid (by unfold useStep; rw [if_pos hzb, HADD.out])
              have HXB : Hid (∀ j, j < 64 → (withoutS q.s (k : Int)).testBit j = if j = k then false else q.s.testBit j) := Lib.hid (fun j hj => without_if q.s k j hj)
              clear hzb
              go_upto_region 15 with (go_at_call 116; refine (K.out _).mono ?_; rintro e w2 ⟨rfl, rfl⟩)
              have n_ := Lib.hid (HI.out.setS k hk64 false _ HXB.out)
              have n2_ := Lib.hid (HU.out.setCell (5 + k) (.bool false))
              clear HI HU HXB cs fs
              have HI := n_
              have HU := n2_
              clear n_ n2_
              generalize wr.setCell ⟨b, 5 + k, none⟩ (.bool false) = w5 at HI HU ⊢
              have wa1 := WA.out.1
              have wa2 := WA.out.2
              refine start_ (n := 16) (S := fun w' => w'.cell? ⟨b, 4, none⟩ = some (.int .i64 q.t) ∧ w'.cell? ⟨b, 1, none⟩ = some (.int .i64 q.W) ∧ w'.cell? ⟨b, 133 + k, none⟩ = some (.int .i64 (q.wk k))) (ds := [15]) #[false, false, false, false, false, false, false, false, false, false, false, false, false, false, false, false] (by kernel_rfl) rfl rfl ⟨HI.out.ct, HI.out.cW, (HI.out.cw k hk64)⟩ (fun hHeld => ?_)
              have n_ := Lib.hid HI.out.drew
              have n2_ := Lib.hid (Upd.drew HU.out (Nat.le_of_lt HI.out.lt))
              clear HI HU
              have HI := n_
              have HU := n2_
              clear n_ n2_
              generalize w5.drew = w6 at HI HU hHeld ⊢
              have fw := HI.out.fz (133 + k)
              refine pure_ (i := 0) (N := some 67) (v := ?_) (a' := ?_) #[true, false, false, false, false, false, false, false, false, false, false, false, false, false, false, false] rfl rfl (by kernel_rfl) (fun _ _ _ h => h) (Or.inl ⟨by rfl, ?_⟩) ?_ ?_
              rotate_left
              · intro w'
                go_simp
                with_reducible rfl
              rotate_left
              · simp only [Act.put, List.setIfInBounds_toArray, List.set_cons_zero, List.set_cons_succ, i64_w, i32_w]
                rfl
              refine pure_ (i := 1) (N := some 68) (v := ?_) (a' := ?_) #[true, true, false, false, false, false, false, false, false, false, false, false, false, false, false, false] rfl rfl (by kernel_rfl) (fun _ _ _ h => h) (Or.inl ⟨by rfl, ?_⟩) ?_ ?_
              rotate_left
              · intro w'
                go_simp
                with_reducible rfl
              rotate_left
              · simp only [Act.put, List.setIfInBounds_toArray, List.set_cons_zero, List.set_cons_succ, i64_w, i32_w]
                rfl
              refine pure_ (i := 2) (N := some 69) (v := ?_) (a' := ?_) #[true, true, true, false, false, false, false, false, false, false, false, false, false, false, false, false] rfl rfl (by kernel_rfl) (fun _ _ _ h => h) (Or.inl ⟨by rfl, ?_⟩) ?_ ?_
              rotate_left
              · intro w'
                go_simp
                with_reducible rfl
              rotate_left
              · simp only [Act.put, List.setIfInBounds_toArray, List.set_cons_zero, List.set_cons_succ, i64_w, i32_w]
                rfl
              refine pure_ (i := 3) (N := some 70) (v := ?_) (a' := ?_) #[true, true, true, true, false, false, false, false, false, false, false, false, false, false, false, false] rfl rfl (by kernel_rfl) (fun _ _ _ h => h) (Or.inl ⟨by rfl, ?_⟩) ?_ ?_
              rotate_left
              · intro w'
                go_simp
                with_reducible rfl
              rotate_left
              · simp only [Act.put, List.setIfInBounds_toArray, List.set_cons_zero, List.set_cons_succ, i64_w, i32_w]
                rfl
              refine pure_ (i := 4) (N := some 71) (v := ?_) (a' := ?_) #[true, true, true, true, true, false, false, false, false, false, false, false, false, false, false, false] rfl rfl (by kernel_rfl) (fun _ _ _ h => h) (Or.inl ⟨by rfl, ?_⟩) ?_ ?_
              rotate_left
              · intro w'
                go_simp
                with_reducible rfl
              rotate_left
              · simp only [Act.put, List.setIfInBounds_toArray, List.set_cons_zero, List.set_cons_succ, i64_w, i32_w]
                rfl
              refine pure_ (i := 6) (N := some 73) (v := ?_) (a' := ?_) #[true, true, true, true, true, false, true, false, false, false, false, false, false, false, false, false] rfl rfl (by kernel_rfl) (fun _ _ _ h => h) (Or.inl ⟨by rfl, ?_⟩) ?_ ?_
              rotate_left
              · intro w'
                go_simp
                with_reducible rfl
              rotate_left
              · simp only [Act.put, List.setIfInBounds_toArray, List.set_cons_zero, List.set_cons_succ, i64_w, i32_w]
                rfl
              refine pure_ (i := 7) (N := some 74) (v := ?_) (a' := ?_) #[true, true, true, true, true, false, true, true, false, false, false, false, false, false, false, false] rfl rfl (by kernel_rfl) (fun _ _ _ h => h) (Or.inl ⟨by rfl, ?_⟩) ?_ ?_
              rotate_left
              · intro w'
                go_simp
                with_reducible rfl
              rotate_left
              · simp only [Act.put, List.setIfInBounds_toArray, List.set_cons_zero, List.set_cons_succ, i64_w, i32_w]
                rfl
              refine pure_ (i := 8) (N := some 75) (v := ?_) (a' := ?_) #[true, true, true, true, true, false, true, true, true, false, false, false, false, false, false, false] rfl rfl (by kernel_rfl) (fun _ _ _ h => h) (Or.inl ⟨by rfl, ?_⟩) ?_ ?_
              rotate_left
              · intro w'
                go_simp
                with_reducible rfl
              rotate_left
              · simp only [Act.put, List.setIfInBounds_toArray, List.set_cons_zero, List.set_cons_succ, i64_w, i32_w]
                rfl
              refine pure_ (i := 9) (N := some 76) (v := ?_) (a' := ?_) #[true, true, true, true, true, false, true, true, true, true, false, false, false, false, false, false] rfl rfl (by kernel_rfl) (fun _ _ _ h => h) (Or.inl ⟨by rfl, ?_⟩) ?_ ?_
              rotate_left
              · intro w'
                go_simp
                with_reducible rfl
              rotate_left
              · simp only [Act.put, List.setIfInBounds_toArray, List.set_cons_zero, List.set_cons_succ, i64_w, i32_w]
                rfl
              refine pure_ (i := 12) (N := some 79) (v := ?_) (a' := ?_) #[true, true, true, true, true, false, true, true, true, true, false, false, true, false, false, false] rfl rfl (by kernel_rfl) (fun _ _ _ h => h) (Or.inl ⟨by rfl, ?_⟩) ?_ ?_
              rotate_left
              · intro w'
                go_simp
                with_reducible rfl
              rotate_left
              · simp only [Act.put, List.setIfInBounds_toArray, List.set_cons_zero, List.set_cons_succ, i64_w, i32_w]
                rfl
              refine pure_ (i := 13) (N := some 80) (v := ?_) (a' := ?_) #[true, true, true, true, true, false, true, true, true, true, false, false, true, true, false, false] rfl rfl (by kernel_rfl) (fun _ _ _ h => h) (Or.inl ⟨by rfl, ?_⟩) ?_ ?_
              rotate_left
              · intro w'
                go_simp
                with_reducible rfl
              rotate_left
              · simp only [Act.put, List.setIfInBounds_toArray, List.set_cons_zero, List.set_cons_succ, i64_w, i32_w]
                rfl
              refine take_ (i := 5) (N := some 72) (v := ?_) (a' := ?_) #[true, true, true, true, true, true, true, true, true, true, false, false, true, true, false, false] rfl rfl (by kernel_rfl) (fun _ _ _ h => h) (Or.inl ⟨by rfl, ?_⟩) hHeld ?_ ?_
              rotate_left
              · rintro w' ⟨s0, s1, s2⟩
                go_simp
                with_reducible rfl
              rotate_left
              · simp only [Act.put, List.setIfInBounds_toArray, List.set_cons_zero, List.set_cons_succ, i64_w, i32_w]
                rfl
              refine take_ (i := 10) (N := some 77) (v := ?_) (a' := ?_) #[true, true, true, true, true, true, true, true, true, true, true, false, true, true, false, false] rfl rfl (by kernel_rfl) (fun _ _ _ h => h) (Or.inl ⟨by rfl, ?_⟩) hHeld ?_ ?_
              rotate_left
              · rintro w' ⟨s0, s1, s2⟩
                go_simp
                with_reducible rfl
              rotate_left
              · simp only [Act.put, List.setIfInBounds_toArray, List.set_cons_zero, List.set_cons_succ, i64_w, i32_w]
                rfl
              refine pure_ (i := 11) (N := some 78) (v := ?_) (a' := ?_) #[true, true, true, true, true, true, true, true, true, true, true, true, true, true, false, false] rfl rfl (by kernel_rfl) (fun _ _ _ h => h) (Or.inl ⟨by rfl, ?_⟩) ?_ ?_
              rotate_left
              · intro w'
                go_simp
                with_reducible rfl
              rotate_left
              · simp only [Act.put, List.setIfInBounds_toArray, List.set_cons_zero, List.set_cons_succ, i64_w, i32_w]
                rfl
              refine pure_ (i := 14) (N := some 81) (v := ?_) (a' := ?_) #[true, true, true, true, true, true, true, true, true, true, true, true, true, true, true, false] rfl rfl (by kernel_rfl) (fun _ _ _ h => h) (Or.inl ⟨by rfl, ?_⟩) ?_ ?_
              rotate_left
              · intro w'
                go_simp
                with_reducible rfl
              rotate_left
              · simp only [Act.put, List.setIfInBounds_toArray, List.set_cons_zero, List.set_cons_succ, i64_w, i32_w]
                rfl
              refine last_ (i := 15) (N := none) #[true, true, true, true, true, true, true, true, true, true, true, true, true, true, true, true] rfl rfl (by kernel_rfl) (by decide) (fun K hK => ?_)
              refine skip_ (w1 := ?_) (by rfl) rfl ?_ ?_
              rotate_left
              · go_simp
                rfl
              refine hK.out _ _ ?_
              clear hK K
              refine done_ (by kernel_rfl) ?_
              have n_ := Lib.hid (HI.out.setW k hk64 (q.t + q.W))
              have n2_ := Lib.hid (HU.out.setCell (133 + k) (.int .i64 (q.t + q.W)))
              clear HI HU hHeld fw wa1 wa2
              have HI := n_
              have HU := n2_
              clear n_ n2_
              generalize w6.setCell ⟨b, 133 + k, none⟩ (.int .i64 (q.t + q.W)) = w7 at HI HU ⊢
              obtain ⟨q2, hq2⟩ : ∃ x, ({ q with s := withoutS q.s (k : Int), wk := Power.upd q.wk k (q.t + q.W) } : Pl) = x := ⟨_, rfl⟩
              have HWY : Hid (q2.wk k = q.t + q.W) := Lib.hid (by rw [← hq2]; show Power.upd q.wk k (q.t + q.W) k = _; unfold Power.upd; rw [if_pos rfl])
              have HI : Hid (PQ w7 b q2 us) := Lib.hid (by rw [← hq2]; exact HI.out)
              have HQ : Hid (useStep q k = q2) := Lib.hid (by rw [HQ0.out, hq2])
              clear HQ0 hq2
              obtain ⟨y, hy⟩ : ∃ y, q.t + q.W = y := ⟨_, rfl⟩
              rw [hy] at HWY
              clear hy WA HADD
              have cw : w7.cell? ⟨b, 133 + k, none⟩ = some (.int .i64 y) := (HI.out.cw k hk64).trans (by rw [HWY.out])
              have cu := HI.out.cu k hk64
              have fu := HI.out.fz (69 + k)
              obtain ⟨ob, hob⟩ : ∃ o, us k = o := ⟨_, rfl⟩
              rw [hob] at cu
              clear hob
              by_cases cy : tm < y
              · have e1 : decide (tm < y) = true := decide_eq_true cy
                have HS3 : Hid (useN p s (k + 1) = (q2, y)) := Lib.hid (by rw [HS2.out, HQ.out, HWY.out]; unfold later; rw [if_pos cy])
                clear cy
                go_wp2
                go_roundg k1
                case measure => have := HK.out; omega
                case rel => exact ⟨k + 1, by rw [HS3.out], by go_num, ⟨by have := HK.out; omega, by have := HK.out; omega⟩, ⟨by rw [HS3.out]; exact (HI.out.setU k hk64 true).congr HUSX.out⟩, ⟨HU.out.setCell _ _⟩⟩
              · have e1 : decide (tm < y) = false := decide_eq_false cy
                have HS3 : Hid (useN p s (k + 1) = (q2, tm)) := Lib.hid (by rw [HS2.out, HQ.out, HWY.out]; unfold later; rw [if_neg cy])
                clear cy
                go_wp2
                go_roundg k1
                case measure => have := HK.out; omega
                case rel => exact ⟨k + 1, by rw [HS3.out], by go_num, ⟨by have := HK.out; omega, by have := HK.out; omega⟩, ⟨by rw [HS3.out]; exact (HI.out.setU k hk64 true).congr HUSX.out⟩, ⟨HU.out.setCell _ _⟩⟩
        · obtain rfl : k = i := by have := HK.out; omega
          have b2 : decide (k < k) = false := decide_eq_false ck
          have HAL2 := HAL
          clear HAL
          go_wp2
          go_ret2
          refine ⟨by rw [HAL2.out]; rfl, ?_, HU.out⟩
          have h1 := HI.out
          rw [HAL2.out] at h1
          refine (h1.setu (p.u ||| s)).congr fun j hj => ?_
          show (p.u.testBit j || (decide (j < k) && s.testBit j)) = (p.u ||| s).testBit j
          rw [Nat.testBit_or]
          cases hb : s.testBit j
          · rw [Bool.and_false]
          · rw [decide_eq_true (HIN.out j hj hb)]; rfl
end Go.Proofs.YtmjkgnlmdcmdbaaDoor.Power
