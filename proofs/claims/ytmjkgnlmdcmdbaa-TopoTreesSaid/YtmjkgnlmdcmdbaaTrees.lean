import Derived.Test.YtmjkgnlmdcmdbaaTopo10
import Derived.Test.YtmjkgnlmdcmdbaaTopo8
import Derived.Test.YtmjkgnlmdcmdbaaTopo7
import Derived.Test.YtmjkgnlmdcmdbaaTopoF
namespace Go.Proofs.Ytmjkgnlmdcmdbaa.Topo
open Go.RowKit Go.WideShapes Go.Proofs.Ytmjkgnlmdcmdbaa.Flat Go.Proofs.YtmjkgnlmdcmdbaaW.PrintWords Go.Proofs.YtmjkgnlmdcmdbaaW.PrintLast Go.Proofs.YtmjkgnlmdcmdbaaW.PrintMore Go.Proofs.Ytmjkgnlmdcmdbaa.Row Go.Proofs.Ytmjkgnlmdcmdbaa.Sets Go.Proofs.Ytmjkgnlmdcmdbaa.Node
set_option linter.unusedVariables false
set_option linter.unusedSimpArgs false
set_option maxRecDepth 100000
set_option maxHeartbeats 4000000 in
theorem TopoTrees_any (A : Option Addr) (len cap : Nat) (z : List (List Value)) (u : Int) (w : World) (hc : len ≤ cap) (hm : cap ≤ maxLen) (hr : FlatRow w A len [.int .i64, .int .u64] z) (hu : (Lit.int .u64 u).wf = true) :
    Calls Try.prog 3 #[.slice A len cap, .int .u64 u] w fun e w' => e = .returned (.bool true) ∧ Below w.heap.size w w' := by
  obtain ⟨s, rfl, hs⟩ := u64_out u hu
  have KF := Lib.hid (few_any A len cap w hc hm)
  obtain ⟨m, hmm⟩ : ∃ m, (if 70 < len then 70 else len) = m := ⟨_, rfl⟩
  rw [hmm] at KF
  obtain ⟨xs, qs, hx, hql, hq, hsw⟩ := flatSw hr m (by rw [← hmm]; split <;> omega)
  have HW := Lib.hid (fun W => awake39_any W)
  clear hr hc hm hmm hu
  by_cases ho : m < 1 ∨ 64 < m
  · have KN := Lib.hid (fun W => New_out A m cap W ho)
    have KM := Lib.hid (fun W => made_out A m cap W ho)
    clear hsw hx hql hq ho
    go_enter Try.func3, Try.ntmps3
    go_wp2_with (first
      | (go_at_call 4; refine KF.out.mono ?_; rintro e w2 ⟨rfl, rfl⟩)
      | (go_at_call 5; refine (KN.out _).mono ?_; rintro e w2 ⟨rfl, rfl⟩)
      | (go_at_call 6; refine (KM.out _).mono ?_; rintro e w2 ⟨rfl, rfl⟩)
      | (go_at_call 7; refine (HW.out _).mono ?_; rintro e w4 ⟨rfl, hb⟩; have B2 := Lib.hid hb; clear hb))
    go_ret
    exact ⟨rfl, B2.out⟩
  · have m1 : 1 ≤ m := by omega
    have m2 : m ≤ 64 := by omega
    clear ho
    have KN0 := fun W (hb : Below w.heap.size w W) => New_any A m cap xs qs W (hsw.below hb) hx m1 m2 hq
    have KM0 := fun W (hb : Below w.heap.size w W) => made_any A m cap xs qs W (hsw.below hb) hx m1 m2 hq
    unfold NewPost at KN0
    unfold MadePost at KM0
    by_cases hst : stN xs qs m = 0
    · have KN : Hid (∀ W, Below w.heap.size w W → Calls Try.prog 5 #[.slice A m cap] W fun e w' => ∃ b va vm vd, e = .returned (.tuple #[.pointer (some ⟨b, 0, none⟩), .int .i64 0]) ∧ TT w' b va vm vd (xs.take m) (mlN xs qs m) (dlN xs m) ∧ Below w.heap.size w w') := Lib.hid (fun W hb => (KN0 W hb).mono (fun e w' h => by
        obtain ⟨h1, ⟨h2, -⟩ | ⟨-, b, va, vm, vd, -, he, hT⟩⟩ := h
        · exact absurd hst h2
        · exact ⟨b, va, vm, vd, he, hT, below_step hb h1⟩))
      have KM : Hid (∀ W, Below w.heap.size w W → Calls Try.prog 6 #[.slice A m cap] W fun e w' => ∃ b vm vd, e = .returned (.tuple #[.pointer (some ⟨b, 0, none⟩), .int .i64 0]) ∧ PP w' b A m cap vm vd (mlN xs qs m) (dlN xs m) ∧ Below W.heap.size W w') := Lib.hid (fun W hb => (KM0 W hb).mono (fun e w' h => by
        obtain ⟨h1, ⟨h2, -⟩ | ⟨-, b, vm, vd, -, he, hT⟩⟩ := h
        · exact absurd hst h2
        · exact ⟨b, vm, vd, he, hT, h1⟩))
      have hA1 : (xs.take m).length = m := by rw [List.length_take]; omega
      have hM1 := mlN_len xs qs m
      have hD1 := dlN_len xs m
      have hml := mlN_lt xs qs hq m
      have hbm : belowS (mlN xs qs m) (-1) = 0 := by unfold belowS; rw [if_neg (by omega)]
      have hbo : belowS (mlN xs qs m) (m : Int) = 0 := by unfold belowS; rw [if_neg (by omega)]
      have hbk : ∀ k, k < m → belowS (mlN xs qs m) (k : Int) = (mlN xs qs m).getD k 0 := fun k hk => by unfold belowS; rw [if_pos ⟨by omega, by omega⟩, show ((k : Int)).toNat = k by omega]
      clear KN0 KM0 hsw
      obtain ⟨M, hM⟩ : ∃ M, mlN xs qs m = M := ⟨_, rfl⟩
      obtain ⟨D, hD⟩ : ∃ D, dlN xs m = D := ⟨_, rfl⟩
      obtain ⟨X, hX⟩ : ∃ X, xs.take m = X := ⟨_, rfl⟩
      rw [hM, hD] at KM
      rw [hM, hD, hX] at KN
      rw [hM] at hM1 hml hbm hbo hbk
      rw [hD] at hD1
      rw [hX] at hA1
      obtain ⟨R, hR⟩ : ∃ R, overS M D s m = R := ⟨_, rfl⟩
      have KNo : Hid (∀ k W b va vm vd, TT W b va vm vd X M D → Calls Try.prog 9 #[.pointer (some ⟨b, 0, none⟩), .int .i64 k] W fun e w' => e = .returned (.int .u64 (belowS M k : Nat)) ∧ W = w') := Lib.hid (fun k W b va vm vd h => Nodes_any h (by omega) hA1 hM1 m2 k)
      have KLe : Hid (∀ W b va vm vd, TT W b va vm vd X M D → Calls Try.prog 8 #[.pointer (some ⟨b, 0, none⟩)] W fun e w' => e = .returned (.int .i64 (m : Nat)) ∧ W = w') := Lib.hid (fun W b va vm vd h => by have := Len_any h (by omega) (by omega); rw [hA1] at this; exact this)
      have KNm : Hid (∀ W b va vm vd, TT W b va vm vd X M D → Calls Try.prog 9 #[.pointer (some ⟨b, 0, none⟩), .int .i64 (-1)] W fun e w' => e = .returned (.int .u64 0) ∧ W = w') := Lib.hid (fun W b va vm vd h => by have := KNo.out (-1) W b va vm vd h; rw [hbm] at this; exact this)
      have KNe : Hid (∀ W b va vm vd, TT W b va vm vd X M D → Calls Try.prog 9 #[.pointer (some ⟨b, 0, none⟩), .int .i64 (m : Int)] W fun e w' => e = .returned (.int .u64 0) ∧ W = w') := Lib.hid (fun W b va vm vd h => by have := KNo.out (m : Int) W b va vm vd h; rw [hbo] at this; exact this)
      have KOv : Hid (∀ W b va vm vd, TT W b va vm vd X M D → Calls Try.prog 10 #[.pointer (some ⟨b, 0, none⟩), .int .u64 s] W fun e w' => e = .returned (.int .i64 R) ∧ Below W.heap.size W w') := Lib.hid (fun W b va vm vd h => by have := Over_any h (by omega) hA1 hM1 hD1 m2 s hs hml; rw [hR] at this; exact this)
      have KOp : Hid (∀ W b vm vd, PP W b A m cap vm vd M D → Calls Try.prog 11 #[.pointer (some ⟨b, 0, none⟩), .int .u64 s] W fun e w' => e = .returned (.int .i64 R) ∧ Below W.heap.size W w') := Lib.hid (fun W b vm vd h => by have := over39_any h (by omega) hM1 hD1 m2 s hs hml; rw [hR] at this; exact this)
      have HBK := Lib.hid hbk
      have HM := Lib.hid hM1
      clear hbm hbo hbk hM hD hX hR hx hql hq hst hA1 hM1 hD1 hml
      have hmm : ((m : Int) != (m : Int)) = false := by simp
      have hrr : (R == R) = true := by simp
      go_enter Try.func3, Try.ntmps3
      go_wp2_with (first
        | (go_at_call 4; refine KF.out.mono ?_; rintro e w2 ⟨rfl, rfl⟩)
        | (go_at_call 5; refine (KN.out _ (Below.refl _ _)).mono ?_; rintro e w2 ⟨b, va, vm, vd, rfl, hT, hb⟩; have HT0 := Lib.hid hT; have HB0 := Lib.hid hb; clear hT hb)
        | (go_at_call 6; refine (KM.out _ HB0.out).mono ?_; rintro e w3 ⟨b2, vm2, vd2, rfl, hP, hb⟩; have HT := Lib.hid (HT0.out.below hb); have HP := Lib.hid hP; have HB := Lib.hid (below_step HB0.out hb); clear hP hb HT0 HB0)
        | (go_at_call 8; refine (KLe.out _ _ _ _ _ HT.out).mono ?_; rintro e w4 ⟨rfl, rfl⟩))
      go_loopg [9] (m + 1) (fun kq v9 w' => ∃ (k : Nat), v9 = .int .i64 k ∧ Aside0 (k + kq = m + 1 ∧ 1 ≤ kq) ∧ Aside0 (TT w' b va vm vd X M D) ∧ Aside0 (PP w' b2 A m cap vm2 vd2 M D) ∧ Aside0 (Below w.heap.size w w'))
      case atStart => exact ⟨0, rfl, ⟨by omega, by omega⟩, ⟨HT.out⟩, ⟨HP.out⟩, ⟨HB.out⟩⟩
      case round =>
        clear HT HP HB
        obtain ⟨k, rfl, HI, HT, HP, HB⟩ := hrel
        obtain ⟨k1, rfl⟩ : ∃ k1, gk = k1 + 1 := ⟨gk - 1, by have := HI.out; omega⟩
        by_cases c1 : k < m
        · have d1 : decide (k < m) = true := decide_eq_true c1
          have d2 : decide ((k : Int) < (m : Int)) = true := decide_eq_true (by omega)
          have HC := Lib.hid c1
          obtain ⟨p, hp⟩ : ∃ p, M.getD k 0 = p := ⟨_, rfl⟩
          have KK : Hid (∀ W, TT W b va vm vd X M D → Calls Try.prog 9 #[.pointer (some ⟨b, 0, none⟩), .int .i64 (k : Int)] W fun e w' => e = .returned (.int .u64 (p : Int)) ∧ W = w') := Lib.hid (fun W h => by have := KNo.out (k : Int) W b va vm vd h; rw [HBK.out k HC.out, hp] at this; exact this)
          have HK : Hid (k < M.length ∧ M.getD k 0 = p) := Lib.hid ⟨by rw [HM.out]; exact c1, hp⟩
          have hpp : ((p : Int) != (p : Int)) = false := by simp
          obtain ⟨gm, cm, hvm, _, _, _⟩ := Kd.R_form HP.out.r1 (by simp [Sets.nums]; have := HM.out; omega)
          have hl1 : (Sets.nums M).length = m := by simp [Sets.nums, HM.out]
          rw [hl1] at hvm
          subst hvm
          have x0 : (0 ≤ (k : Int) ∧ (k : Int) < (m : Int)) = True := eq_true ⟨by omega, by omega⟩
          have y0 : ((k : Int) < (m : Int)) = True := eq_true (by omega)
          have xt : ((k : Int)).toNat = k := by omega
          clear hp hl1
          go_upto_region 11 with fail
          refine start_ (n := 11) (S := fun w' => w'.cell? ⟨b2, 1, none⟩ = some (.slice (some ⟨gm, 0, none⟩) m cm) ∧ w'.cell? ⟨gm, k, none⟩ = some (.int .u64 (p : Int))) (ds := []) #[false, false, false, false, false, false, false, false, false, false, false] (by kernel_rfl) rfl rfl ⟨HP.out.c1, ((HP.out.at1 k HK.out.1).1.trans (by rw [HK.out.2]))⟩ (fun hHeld => ?_)
          have n_ := Lib.hid HT.out.drew
          have n2_ := Lib.hid (below_drew1 HB.out)
          have n3_ := Lib.hid HP.out.drew
          clear HT HB HP
          have HT := n_
          have HB := n2_
          have HP := n3_
          clear n_ n2_ n3_
          generalize wr.drew = w12 at HT HB HP hHeld ⊢
          refine pure_ (i := 0) (N := some 57) (v := ?_) (a' := ?_) #[true, false, false, false, false, false, false, false, false, false, false] rfl rfl (by kernel_rfl) (fun _ _ _ h => h) (Or.inl ⟨by rfl, ?_⟩) ?_ ?_
          rotate_left
          · intro w'
            go_simp
            with_reducible rfl
          rotate_left
          · simp only [Act.put, List.setIfInBounds_toArray, List.set_cons_zero, List.set_cons_succ, i64_w, i32_w]
            rfl
          refine pure_ (i := 1) (N := some 58) (v := ?_) (a' := ?_) #[true, true, false, false, false, false, false, false, false, false, false] rfl rfl (by kernel_rfl) (fun _ _ _ h => h) (Or.inl ⟨by rfl, ?_⟩) ?_ ?_
          rotate_left
          · intro w'
            go_simp
            with_reducible rfl
          rotate_left
          · simp only [Act.put, List.setIfInBounds_toArray, List.set_cons_zero, List.set_cons_succ, i64_w, i32_w]
            rfl
          refine pure_ (i := 3) (N := some 60) (v := ?_) (a' := ?_) #[true, true, false, true, false, false, false, false, false, false, false] rfl rfl (by kernel_rfl) (fun _ _ _ h => h) (Or.inl ⟨by rfl, ?_⟩) ?_ ?_
          rotate_left
          · intro w'
            go_simp
            with_reducible rfl
          rotate_left
          · simp only [Act.put, List.setIfInBounds_toArray, List.set_cons_zero, List.set_cons_succ, i64_w, i32_w]
            rfl
          refine pure_ (i := 4) (N := some 61) (v := ?_) (a' := ?_) #[true, true, false, true, true, false, false, false, false, false, false] rfl rfl (by kernel_rfl) (fun _ _ _ h => h) (Or.inl ⟨by rfl, ?_⟩) ?_ ?_
          rotate_left
          · intro w'
            go_simp
            with_reducible rfl
          rotate_left
          · simp only [Act.put, List.setIfInBounds_toArray, List.set_cons_zero, List.set_cons_succ, i64_w, i32_w]
            rfl
          refine pure_ (i := 5) (N := some 62) (v := ?_) (a' := ?_) #[true, true, false, true, true, true, false, false, false, false, false] rfl rfl (by kernel_rfl) (fun _ _ _ h => h) (Or.inl ⟨by rfl, ?_⟩) ?_ ?_
          rotate_left
          · intro w'
            go_simp
            with_reducible rfl
          rotate_left
          · simp only [Act.put, List.setIfInBounds_toArray, List.set_cons_zero, List.set_cons_succ, i64_w, i32_w]
            rfl
          refine pure_ (i := 7) (N := some 64) (v := ?_) (a' := ?_) #[true, true, false, true, true, true, false, true, false, false, false] rfl rfl (by kernel_rfl) (fun _ _ _ h => h) (Or.inl ⟨by rfl, ?_⟩) ?_ ?_
          rotate_left
          · intro w'
            go_simp
            with_reducible rfl
          rotate_left
          · simp only [Act.put, List.setIfInBounds_toArray, List.set_cons_zero, List.set_cons_succ, i64_w, i32_w]
            rfl
          refine take_ (i := 6) (N := some 63) (v := ?_) (a' := ?_) #[true, true, false, true, true, true, true, true, false, false, false] rfl rfl (by kernel_rfl) (fun _ _ _ h => h) (Or.inl ⟨by rfl, ?_⟩) hHeld ?_ ?_
          rotate_left
          · rintro w' ⟨s0, s1⟩
            go_simp
            with_reducible rfl
          rotate_left
          · simp only [Act.put, List.setIfInBounds_toArray, List.set_cons_zero, List.set_cons_succ, i64_w, i32_w]
            rfl
          refine pure_ (i := 8) (N := some 65) (v := ?_) (a' := ?_) #[true, true, false, true, true, true, true, true, true, false, false] rfl rfl (by kernel_rfl) (fun _ _ _ h => h) (Or.inl ⟨by rfl, ?_⟩) ?_ ?_
          rotate_left
          · intro w'
            go_simp
            with_reducible rfl
          rotate_left
          · simp only [Act.put, List.setIfInBounds_toArray, List.set_cons_zero, List.set_cons_succ, i64_w, i32_w]
            rfl
          refine take_ (i := 9) (N := some 66) (v := ?_) (a' := ?_) #[true, true, false, true, true, true, true, true, true, true, false] rfl rfl (by kernel_rfl) (fun _ _ _ h => h) (Or.inl ⟨by rfl, ?_⟩) hHeld ?_ ?_
          rotate_left
          · rintro w' ⟨s0, s1⟩
            go_simp
            with_reducible rfl
          rotate_left
          · simp only [Act.put, List.setIfInBounds_toArray, List.set_cons_zero, List.set_cons_succ, i64_w, i32_w]
            rfl
          refine one_ (i := 2) (N := some 59) #[true, true, true, true, true, true, true, true, true, true, false] rfl rfl (by kernel_rfl) (by decide) (fun K hK => ?_)
          refine goes_ Try.func9 (by kernel_rfl) rfl #[.pointer (some ⟨b, 0, none⟩), .int .i64 (k : Int)] (by rfl) rfl rfl (by (try simp only [List.map_toArray, List.map_cons, List.map_nil]); first | done | rfl | (simp only [List.length_drop, List.length_take]; rfl)) ?_
          with_reducible refine (KK.out _ HT.out).mono ?_
          rintro e w6 ⟨rfl, rfl⟩
          refine ⟨_, rfl, ?_⟩
          refine hK.out _ _ ⟨HP.out.c1, ((HP.out.at1 k HK.out.1).1.trans (by rw [HK.out.2]))⟩ (fun hHeld => ?_)
          clear hK K
          refine norm_ (a' := ?_) ?_ ?_
          rotate_left
          · show Act.put _ (some 59) _ = _
            simp only [Act.put, List.setIfInBounds_toArray, List.set_cons_zero, List.set_cons_succ, i64_w, i32_w]
            rfl
          refine pure_ (i := 10) (N := some 67) (v := ?_) (a' := ?_) #[true, true, true, true, true, true, true, true, true, true, true] rfl rfl (by kernel_rfl) (fun _ _ _ h => h) (Or.inl ⟨by rfl, ?_⟩) ?_ ?_
          rotate_left
          · intro w'
            go_simp
            with_reducible rfl
          rotate_left
          · simp only [Act.put, List.setIfInBounds_toArray, List.set_cons_zero, List.set_cons_succ, i64_w, i32_w]
            rfl
          refine done_ (by kernel_rfl) ?_
          clear hHeld
          go_wp2
          go_roundg k1
          case measure => have := HI.out; omega
          case rel => exact ⟨k + 1, by go_num, ⟨by have := HI.out; omega, by have := HI.out; have := HC.out; omega⟩, ⟨HT.out⟩, ⟨HP.out⟩, ⟨HB.out⟩⟩
        · have d1 : decide (k < m) = false := decide_eq_false c1
          have d2 : decide ((k : Int) < (m : Int)) = false := decide_eq_false (by omega)
          obtain rfl : k = m := by have := HI.out; omega
          go_wp2_with (first
            | (go_at_call 9; with_reducible refine (KNm.out _ _ _ _ _ HT.out).mono ?_; rintro e w4 ⟨rfl, rfl⟩)
            | (go_at_call 9; with_reducible refine (KNe.out _ _ _ _ _ HT.out).mono ?_; rintro e w4 ⟨rfl, rfl⟩)
            | (go_at_call 10; refine (KOv.out _ _ _ _ _ HT.out).mono ?_; rintro e w5 ⟨rfl, hb⟩; have HP1 := Lib.hid (HP.out.below hb); have HB1 := Lib.hid (below_step HB.out hb); clear hb)
            | (go_at_call 11; refine (KOp.out _ _ _ _ HP1.out).mono ?_; rintro e w6 ⟨rfl, hb⟩; have HB2 := Lib.hid (below_step HB1.out hb); clear hb)
            | (go_at_call 7; refine (HW.out _).mono ?_; rintro e w7 ⟨rfl, hb⟩; have HB3 := Lib.hid (below_step HB2.out hb); clear hb))
          go_ret
          exact ⟨rfl, HB3.out⟩
    · have KN : Hid (∀ W, Below w.heap.size w W → Calls Try.prog 5 #[.slice A m cap] W fun e w' => e = .returned (.tuple #[.pointer none, .int .i64 (stN xs qs m)]) ∧ Below w.heap.size w w') := Lib.hid (fun W hb => (KN0 W hb).mono (fun e w' h => by
        obtain ⟨h1, ⟨-, he⟩ | ⟨h2, -⟩⟩ := h
        · exact ⟨he, below_step hb h1⟩
        · exact absurd h2 hst))
      have KM : Hid (∀ W, Below w.heap.size w W → Calls Try.prog 6 #[.slice A m cap] W fun e w' => e = .returned (.tuple #[.pointer none, .int .i64 (stN xs qs m)]) ∧ Below w.heap.size w w') := Lib.hid (fun W hb => (KM0 W hb).mono (fun e w' h => by
        obtain ⟨h1, ⟨-, he⟩ | ⟨h2, -⟩⟩ := h
        · exact ⟨he, below_step hb h1⟩
        · exact absurd h2 hst))
      clear KN0 KM0 hsw hx hql hq
      obtain ⟨S, hS⟩ : ∃ S, stN xs qs m = S := ⟨_, rfl⟩
      rw [hS] at KN KM hst
      have e1 : (S != 0) = true := by simpa using hst
      have e2 : (S == S) = true := by simp
      clear hS hst
      go_enter Try.func3, Try.ntmps3
      go_wp2_with (first
        | (go_at_call 4; refine KF.out.mono ?_; rintro e w2 ⟨rfl, rfl⟩)
        | (go_at_call 5; refine (KN.out _ (Below.refl _ _)).mono ?_; rintro e w3 ⟨rfl, hb⟩; have B1 := Lib.hid hb; clear hb)
        | (go_at_call 6; refine (KM.out _ B1.out).mono ?_; rintro e w4 ⟨rfl, hb⟩; have B2 := Lib.hid hb; clear hb)
        | (go_at_call 7; refine (HW.out _).mono ?_; rintro e w5 ⟨rfl, hb⟩; have B3 := Lib.hid (below_step B2.out hb); clear hb))
      go_ret
      exact ⟨rfl, B3.out⟩
end Go.Proofs.Ytmjkgnlmdcmdbaa.Topo

