/- Law 42's plain plant: leave. -/
import Derived.Test.YtmjkgnlmdcmdbaaDoorPl2
namespace Go.Proofs.YtmjkgnlmdcmdbaaDoor.Power
open Go.RowKit Go.Proofs.YtmjkgnlmdcmdbaaDoorW.PrintWords Go.Proofs.YtmjkgnlmdcmdbaaDoorW.PrintLast Go.Proofs.YtmjkgnlmdcmdbaaDoorW.PrintMore Go.Proofs.YtmjkgnlmdcmdbaaDoor.Row Go.Proofs.YtmjkgnlmdcmdbaaDoor.Sets Go.Proofs.YtmjkgnlmdcmdbaaDoor.Node Go.Proofs.YtmjkgnlmdcmdbaaDoor.Each
set_option linter.unusedVariables false
set_option linter.unusedSimpArgs false
set_option maxRecDepth 100000
theorem minus_no (s u : Nat) (hs : s < 18446744073709551616) (hu : u < 18446744073709551616) (h : ∀ j, j < 64 → ¬ (s.testBit j = true ∧ u.testBit j = false)) : minus s u = 0 :=
  eq_of_bits _ _ (minus_lt _ _ hs) (by decide) fun i hi => by
    rw [minus_bit _ _ _ hu hi, Nat.zero_testBit]
    have := h i hi
    cases ha : s.testBit i <;> cases hb : u.testBit i <;> simp [ha, hb] at this ⊢
theorem minus_in (s u : Nat) (hu : u < 18446744073709551616) (h : minus s u = 0) (i : Nat) (hi : i < 64) (hb : s.testBit i = true) : u.testBit i = true := by
  have h1 := minus_bit s u i hu hi
  rw [h, Nat.zero_testBit, hb] at h1
  cases hc : u.testBit i
  · rw [hc] at h1; cases h1
  · rfl
theorem PQ.sn0 {w : World} {b : Nat} {p : Pl} {us : Nat → Bool} {f : Nat → Int} (h : PQ w b p us) (hf : f = p.sn) : PQ w b { p with sn := f } us := by subst hf; exact h
set_option maxHeartbeats 4000000 in
theorem leave_no_pl (b s : Nat) (p : Pl) (w : World) (h : PQ w b p (fun k => p.u.testBit k)) (ho : PlOk p) (hs : s < 18446744073709551616) (hm : minus s p.u ≠ 0) :
    Calls Tryd.prog 101 #[.pointer (some ⟨b, 0, none⟩), .int .u64 (s : Int)] w fun e w' => e = .returned (.int .i64 7) ∧ w = w' := by
  have HNO : Hid ((∀ j, j < 64 → ¬ (s.testBit j = true ∧ p.u.testBit j = false)) → False) := Lib.hid (fun hh => hm (minus_no s p.u hs ho.hu hh))
  have H := Lib.hid h
  have KH := Lib.hid (fun k (hk : k < 64) W => has42_any s k W hs hk)
  clear h ho hm hs
  go_enter Tryd.func101, Tryd.ntmps101
  go_wp2
  go_loop [5] (fun v5 => ∃ i : Nat, v5 = .int .i64 i ∧ i ≤ 64 ∧ Aside0 (∀ j, j < i → ¬ (s.testBit j = true ∧ p.u.testBit j = false))) (fun v5 => 64 - (intOf v5).toNat)
  case atStart => exact ⟨0, rfl, by omega, ⟨fun n hn => by omega⟩⟩
  case round =>
    obtain ⟨i, rfl, hi, HI⟩ := hrel
    by_cases c1 : i < 64
    · have b1 : decide (i < 64) = true := decide_eq_true c1
      have b2 : decide ((i : Int) < 64) = true := decide_eq_true (by omega)
      have K := Lib.hid (KH.out i c1)
      have x0 : ((i : Int) < 64) = True := eq_true (by omega)
      have xt : ((i : Int)).toNat = i := by omega
      have cu := H.out.cu i c1
      have ST : Hid (¬ (s.testBit i = true ∧ p.u.testBit i = false) → ∀ n, n < i + 1 → ¬ (s.testBit n = true ∧ p.u.testBit n = false)) := Lib.hid (fun h n hn => by
        by_cases hni : n < i
        · exact HI.out n hni
        · obtain rfl : n = i := by omega
          exact h)
      obtain ⟨sb, hsb⟩ : ∃ x, s.testBit i = x := ⟨_, rfl⟩
      obtain ⟨ub, hub⟩ : ∃ x, p.u.testBit i = x := ⟨_, rfl⟩
      rw [hsb] at K ST
      rw [hub] at cu ST
      clear hsb hub
      cases sb with
      | false =>
        have ST2 := Lib.hid (ST.out (fun h => by cases h.1))
        clear ST
        go_wp2_with (go_at_call 116; refine (K.out _).mono ?_; rintro e w2 ⟨rfl, rfl⟩)
        go_round
        case rel => exact ⟨i + 1, by go_num, by omega, ⟨ST2.out⟩⟩
        case measure => simp [intOf]; omega
      | true =>
        cases ub with
        | true =>
          have ST2 := Lib.hid (ST.out (fun h => by cases h.2))
          clear ST
          go_wp2_with (go_at_call 116; refine (K.out _).mono ?_; rintro e w2 ⟨rfl, rfl⟩)
          go_round
          case rel => exact ⟨i + 1, by go_num, by omega, ⟨ST2.out⟩⟩
          case measure => simp [intOf]; omega
        | false =>
          clear ST
          go_wp2_with (go_at_call 116; refine (K.out _).mono ?_; rintro e w2 ⟨rfl, rfl⟩)
          go_ret
          exact ⟨rfl, rfl⟩
    · obtain rfl : i = 64 := by omega
      exact (HNO.out HI.out).elim
set_option maxHeartbeats 4000000 in
theorem leave_yes_pl (b s : Nat) (p : Pl) (w : World) (h : PQ w b p (fun k => p.u.testBit k)) (ho : PlOk p) (hs : s < 18446744073709551616) (hm : minus s p.u = 0) :
    Calls Tryd.prog 101 #[.pointer (some ⟨b, 0, none⟩), .int .u64 (s : Int)] w fun e w' => e = .returned (.int .i64 0) ∧ PQ w' b (leaveP p s) (fun k => (leaveP p s).u.testBit k) ∧ Upd b w w' := by
  have H := Lib.hid h
  have HM := Lib.hid (minus_in s p.u ho.hu hm)
  have HF : Hid (∀ W, PQ W b { p with sn := snN p s 64 } (fun j => p.u.testBit j && !(decide (j < 64) && s.testBit j)) → PQ W b (leaveP p s) (fun k => (leaveP p s).u.testBit k)) := Lib.hid (fun W hW => by
    have h1 : PQ W b (leaveP p s) (fun j => p.u.testBit j && !(decide (j < 64) && s.testBit j)) := by
      rw [snN_all] at hW
      exact ⟨hW.cI, hW.cW, hW.cS, hW.cn, hW.ct, hW.cs, hW.cu, hW.cw, hW.ce, hW.ca, hW.fz⟩
    refine h1.congr fun j hj => ?_
    show _ = (minus p.u s).testBit j
    rw [minus_bit _ _ _ hs hj, decide_eq_true hj, Bool.true_and])
  have KH := Lib.hid (fun k (hk : k < 64) W => has42_any s k W hs hk)
  clear h ho hm hs
  go_enter Tryd.func101, Tryd.ntmps101
  go_wp2
  go_loop [5] (fun v5 => ∃ i : Nat, v5 = .int .i64 i ∧ i ≤ 64) (fun v5 => 64 - (intOf v5).toNat)
  case atStart => exact ⟨0, rfl, by omega⟩
  case round =>
    obtain ⟨i, rfl, hi⟩ := hrel
    by_cases c1 : i < 64
    · have b1 : decide (i < 64) = true := decide_eq_true c1
      have b2 : decide ((i : Int) < 64) = true := decide_eq_true (by omega)
      have K := Lib.hid (KH.out i c1)
      have x0 : ((i : Int) < 64) = True := eq_true (by omega)
      have xt : ((i : Int)).toNat = i := by omega
      have cu := H.out.cu i c1
      have hno := HM.out i c1
      obtain ⟨sb, hsb⟩ : ∃ x, s.testBit i = x := ⟨_, rfl⟩
      obtain ⟨ub, hub⟩ : ∃ x, p.u.testBit i = x := ⟨_, rfl⟩
      rw [hsb] at K hno
      rw [hub] at cu hno
      clear hsb hub
      cases sb with
      | false =>
        clear hno
        go_wp2_with (go_at_call 116; refine (K.out _).mono ?_; rintro e w2 ⟨rfl, rfl⟩)
        go_round
        case rel => exact ⟨i + 1, by go_num, by omega⟩
        case measure => simp [intOf]; omega
      | true =>
        obtain rfl := hno rfl
        clear hno
        go_wp2_with (go_at_call 116; refine (K.out _).mono ?_; rintro e w2 ⟨rfl, rfl⟩)
        go_round
        case rel => exact ⟨i + 1, by go_num, by omega⟩
        case measure => simp [intOf]; omega
    · obtain rfl : i = 64 := by omega
      clear c1
      go_wp2
      go_loopg [6] 65 (fun kq v6 w' => ∃ (k : Nat), v6 = .int .i64 k ∧ Aside0 (k + kq = 65 ∧ 1 ≤ kq) ∧ Aside0 (PQ w' b { p with sn := snN p s k } (fun j => p.u.testBit j && !(decide (j < k) && s.testBit j))) ∧ Aside0 (Upd b w w'))
      case atStart => exact ⟨0, rfl, ⟨by omega, by omega⟩, ⟨by exact (H.out.sn0 rfl).congr fun j hj => by simp⟩, ⟨Upd.refl _ _⟩⟩
      case round =>
        clear H
        obtain ⟨k, rfl, HK, HI, HU⟩ := hrel
        obtain ⟨k1, rfl⟩ : ∃ k1, gk = k1 + 1 := ⟨gk - 1, by have := HK.out; omega⟩
        by_cases ck : k < 64
        · have b2 : decide ((k : Int) < 64) = true := decide_eq_true (by omega)
          have b3 : decide (k < 64) = true := decide_eq_true ck
          have x0 : ((k : Int) < 64) = True := eq_true (by omega)
          have xt : ((k : Int)).toNat = k := by omega
          have K := Lib.hid (KH.out k ck)
          have hst : snN p s (k + 1) = if s.testBit k = true then Power.upd (snN p s k) k p.t else snN p s k := rfl
          obtain ⟨us, hus⟩ : ∃ u : Nat → Bool, (fun j => p.u.testBit j && !(decide (j < k) && s.testBit j)) = u := ⟨_, rfl⟩
          have HUS1 : Hid (s.testBit k = true → ∀ j, j < 64 → (if j = k then false else us j) = (p.u.testBit j && !(decide (j < k + 1) && s.testBit j))) := Lib.hid (fun hb j hj => by
            rw [← hus]
            by_cases e : j = k
            · subst e; rw [if_pos rfl, hb, decide_eq_true (by omega)]; simp
            · rw [if_neg e]
              have e2 : decide (j < k) = decide (j < k + 1) := decide_eq_decide.2 ⟨fun h => by omega, fun h => by omega⟩
              show (p.u.testBit j && !(decide (j < k) && s.testBit j)) = _
              rw [e2])
          have HUS0 : Hid (s.testBit k = false → ∀ j, j < 64 → us j = (p.u.testBit j && !(decide (j < k + 1) && s.testBit j))) := Lib.hid (fun hb j hj => by
            rw [← hus]
            by_cases e : j = k
            · subst e; rw [hb]; simp
            · have e2 : decide (j < k) = decide (j < k + 1) := decide_eq_decide.2 ⟨fun h => by omega, fun h => by omega⟩
              show (p.u.testBit j && !(decide (j < k) && s.testBit j)) = _
              rw [e2])
          rw [hus] at HI
          obtain ⟨sn, hsn⟩ : ∃ f, snN p s k = f := ⟨_, rfl⟩
          rw [hsn] at HI hst
          clear hus hsn
          obtain ⟨sb, hsb⟩ : ∃ x, s.testBit k = x := ⟨_, rfl⟩
          rw [hsb] at K HUS1 HUS0 hst
          have HST := Lib.hid hst
          clear hsb hst
          cases sb with
          | false =>
            have HS2 : Hid (snN p s (k + 1) = sn) := Lib.hid (HST.out.trans (if_neg (by simp)))
            have HUSX := Lib.hid (HUS0.out rfl)
            clear HST HUS0 HUS1
            go_wp2_with (go_at_call 116; refine (K.out _).mono ?_; rintro e w2 ⟨rfl, rfl⟩)
            go_roundg k1
            case measure => have := HK.out; omega
            case rel => exact ⟨k + 1, by go_num, ⟨by have := HK.out; omega, by have := HK.out; omega⟩, ⟨by rw [HS2.out]; exact HI.out.congr HUSX.out⟩, ⟨HU.out⟩⟩
          | true =>
            have HS2 : Hid (snN p s (k + 1) = Power.upd sn k p.t) := Lib.hid (HST.out.trans (if_pos rfl))
            have HUSX := Lib.hid (HUS1.out rfl)
            clear HST HUS0 HUS1
            have cu := HI.out.cu k ck
            have fu := HI.out.fz (69 + k)
            obtain ⟨ob, hob⟩ : ∃ o, us k = o := ⟨_, rfl⟩
            rw [hob] at cu
            clear hob
            go_upto_region 11 with (go_at_call 116; refine (K.out _).mono ?_; rintro e w2 ⟨rfl, rfl⟩)
            have n_ := Lib.hid (HI.out.setU k ck false)
            have n2_ := Lib.hid (HU.out.setCell (69 + k) (.bool false))
            clear HI HU cu fu
            have HI := n_
            have HU := n2_
            clear n_ n2_
            generalize wr.setCell ⟨b, 69 + k, none⟩ (.bool false) = w5 at HI HU ⊢
            refine start_ (n := 10) (S := fun w' => w'.cell? ⟨b, 4, none⟩ = some (.int .i64 p.t) ∧ w'.cell? ⟨b, 197 + k, none⟩ = some (.int .i64 (sn k))) (ds := [9]) #[false, false, false, false, false, false, false, false, false, false] (by kernel_rfl) rfl rfl ⟨HI.out.ct, (HI.out.ce k ck)⟩ (fun hHeld => ?_)
            have n_ := Lib.hid HI.out.drew
            have n2_ := Lib.hid (Upd.drew HU.out (Nat.le_of_lt HI.out.lt))
            clear HI HU
            have HI := n_
            have HU := n2_
            clear n_ n2_
            generalize w5.drew = w6 at HI HU hHeld ⊢
            have fw := HI.out.fz (197 + k)
            refine pure_ (i := 0) (N := some 35) (v := ?_) (a' := ?_) #[true, false, false, false, false, false, false, false, false, false] rfl rfl (by kernel_rfl) (fun _ _ _ h => h) (Or.inl ⟨by rfl, ?_⟩) ?_ ?_
            rotate_left
            · intro w'
              go_simp
              with_reducible rfl
            rotate_left
            · simp only [Act.put, List.setIfInBounds_toArray, List.set_cons_zero, List.set_cons_succ, i64_w, i32_w]
              rfl
            refine pure_ (i := 1) (N := some 36) (v := ?_) (a' := ?_) #[true, true, false, false, false, false, false, false, false, false] rfl rfl (by kernel_rfl) (fun _ _ _ h => h) (Or.inl ⟨by rfl, ?_⟩) ?_ ?_
            rotate_left
            · intro w'
              go_simp
              with_reducible rfl
            rotate_left
            · simp only [Act.put, List.setIfInBounds_toArray, List.set_cons_zero, List.set_cons_succ, i64_w, i32_w]
              rfl
            refine pure_ (i := 2) (N := some 37) (v := ?_) (a' := ?_) #[true, true, true, false, false, false, false, false, false, false] rfl rfl (by kernel_rfl) (fun _ _ _ h => h) (Or.inl ⟨by rfl, ?_⟩) ?_ ?_
            rotate_left
            · intro w'
              go_simp
              with_reducible rfl
            rotate_left
            · simp only [Act.put, List.setIfInBounds_toArray, List.set_cons_zero, List.set_cons_succ, i64_w, i32_w]
              rfl
            refine pure_ (i := 3) (N := some 38) (v := ?_) (a' := ?_) #[true, true, true, true, false, false, false, false, false, false] rfl rfl (by kernel_rfl) (fun _ _ _ h => h) (Or.inl ⟨by rfl, ?_⟩) ?_ ?_
            rotate_left
            · intro w'
              go_simp
              with_reducible rfl
            rotate_left
            · simp only [Act.put, List.setIfInBounds_toArray, List.set_cons_zero, List.set_cons_succ, i64_w, i32_w]
              rfl
            refine pure_ (i := 4) (N := some 39) (v := ?_) (a' := ?_) #[true, true, true, true, true, false, false, false, false, false] rfl rfl (by kernel_rfl) (fun _ _ _ h => h) (Or.inl ⟨by rfl, ?_⟩) ?_ ?_
            rotate_left
            · intro w'
              go_simp
              with_reducible rfl
            rotate_left
            · simp only [Act.put, List.setIfInBounds_toArray, List.set_cons_zero, List.set_cons_succ, i64_w, i32_w]
              rfl
            refine pure_ (i := 6) (N := some 41) (v := ?_) (a' := ?_) #[true, true, true, true, true, false, true, false, false, false] rfl rfl (by kernel_rfl) (fun _ _ _ h => h) (Or.inl ⟨by rfl, ?_⟩) ?_ ?_
            rotate_left
            · intro w'
              go_simp
              with_reducible rfl
            rotate_left
            · simp only [Act.put, List.setIfInBounds_toArray, List.set_cons_zero, List.set_cons_succ, i64_w, i32_w]
              rfl
            refine pure_ (i := 7) (N := some 42) (v := ?_) (a' := ?_) #[true, true, true, true, true, false, true, true, false, false] rfl rfl (by kernel_rfl) (fun _ _ _ h => h) (Or.inl ⟨by rfl, ?_⟩) ?_ ?_
            rotate_left
            · intro w'
              go_simp
              with_reducible rfl
            rotate_left
            · simp only [Act.put, List.setIfInBounds_toArray, List.set_cons_zero, List.set_cons_succ, i64_w, i32_w]
              rfl
            refine take_ (i := 5) (N := some 40) (v := ?_) (a' := ?_) #[true, true, true, true, true, true, true, true, false, false] rfl rfl (by kernel_rfl) (fun _ _ _ h => h) (Or.inl ⟨by rfl, ?_⟩) hHeld ?_ ?_
            rotate_left
            · rintro w' ⟨s0, s1⟩
              go_simp
              with_reducible rfl
            rotate_left
            · simp only [Act.put, List.setIfInBounds_toArray, List.set_cons_zero, List.set_cons_succ, i64_w, i32_w]
              rfl
            refine pure_ (i := 8) (N := some 43) (v := ?_) (a' := ?_) #[true, true, true, true, true, true, true, true, true, false] rfl rfl (by kernel_rfl) (fun _ _ _ h => h) (Or.inl ⟨by rfl, ?_⟩) ?_ ?_
            rotate_left
            · intro w'
              go_simp
              with_reducible rfl
            rotate_left
            · simp only [Act.put, List.setIfInBounds_toArray, List.set_cons_zero, List.set_cons_succ, i64_w, i32_w]
              rfl
            refine last_ (i := 9) (N := none) #[true, true, true, true, true, true, true, true, true, true] rfl rfl (by kernel_rfl) (by decide) (fun K hK => ?_)
            refine skip_ (w1 := ?_) (by rfl) rfl ?_ ?_
            rotate_left
            · go_simp
              rfl
            refine hK.out _ _ ?_
            clear hK K
            refine done_ (by kernel_rfl) ?_
            go_wp2
            go_roundg k1
            case measure => have := HK.out; omega
            case rel => exact ⟨k + 1, by go_num, ⟨by have := HK.out; omega, by have := HK.out; omega⟩, ⟨by rw [HS2.out]; exact (HI.out.setE k ck p.t).congr HUSX.out⟩, ⟨HU.out.setCell _ _⟩⟩
        · obtain rfl : k = 64 := by have := HK.out; omega
          clear ck
          go_wp2
          go_ret
          exact ⟨rfl, HF.out _ HI.out, HU.out⟩
end Go.Proofs.YtmjkgnlmdcmdbaaDoor.Power
