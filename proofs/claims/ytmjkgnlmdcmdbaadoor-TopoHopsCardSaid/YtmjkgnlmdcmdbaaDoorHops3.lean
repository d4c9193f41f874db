/- TopoHops: how many hops lie between any two nodes, and between all pairs of any set; and that it is as far back: for every slice of switches (the law reads its first 70), any two numbers and every set. -/
import Derived.Test.YtmjkgnlmdcmdbaaDoorHops2
import Derived.Test.YtmjkgnlmdcmdbaaDoorTopo8
import Derived.Test.YtmjkgnlmdcmdbaaDoorTopo7
import Derived.Test.YtmjkgnlmdcmdbaaDoorTopoF
namespace Go.Proofs.YtmjkgnlmdcmdbaaDoor.Topo
open Go.RowKit Go.WideShapes Go.Proofs.YtmjkgnlmdcmdbaaDoor.Flat Go.Proofs.YtmjkgnlmdcmdbaaDoorW.PrintWords Go.Proofs.YtmjkgnlmdcmdbaaDoorW.PrintLast Go.Proofs.YtmjkgnlmdcmdbaaDoorW.PrintMore Go.Proofs.YtmjkgnlmdcmdbaaDoor.Row Go.Proofs.YtmjkgnlmdcmdbaaDoor.Sets Go.Proofs.YtmjkgnlmdcmdbaaDoor.Node
set_option linter.unusedVariables false
set_option linter.unusedSimpArgs false
set_option maxRecDepth 100000
theorem rds_val {w : World} {l : List Int} {ad : Addr} (h : Rds (Value.int .i64) w (some ad) l) (j : Nat) (y : Int) (hj : j < l.length ∧ l.getD j 0 = y) : w.cell? (ad.add j) = some (.int .i64 y) := by
  obtain ⟨ad2, e, hc⟩ := rds_at h j hj.1
  injection e with e
  subst e
  rw [hc, hj.2]
set_option maxHeartbeats 4000000 in
theorem TopoHops_any (A : Option Addr) (len cap : Nat) (z : List (List Value)) (na nb u : Int) (w : World) (hc : len ≤ cap) (hm : cap ≤ maxLen) (hr : FlatRow w A len [.int .i64, .int .u64] z) (hna : (Lit.int .i64 na).wf = true) (hnb : (Lit.int .i64 nb).wf = true) (hu : (Lit.int .u64 u).wf = true) (hTab : Tab w) :
    Calls Tryd.prog 16 #[.slice A len cap, .int .i64 na, .int .i64 nb, .int .u64 u] w fun e w' => e = .returned (.bool true) ∧ Below w.heap.size w w' := by
  obtain ⟨s, rfl, hs⟩ := u64_out u hu
  have HTA := Lib.hid hTab
  have KF := Lib.hid (few_any A len cap w hc hm)
  obtain ⟨m, hmm⟩ : ∃ m, (if 70 < len then 70 else len) = m := ⟨_, rfl⟩
  rw [hmm] at KF
  obtain ⟨xs, qs, hx, hql, hq, hsw⟩ := flatSw hr m (by rw [← hmm]; split <;> omega)
  have HW := Lib.hid (fun W => awake39_any W)
  clear hr hc hm hmm hu hna hnb hTab
  by_cases ho : m < 1 ∨ 64 < m
  · have KN := Lib.hid (fun W => New_out A m cap W ho)
    have KM := Lib.hid (fun W => made_out A m cap W ho)
    clear hsw hx hql hq ho
    go_enter Tryd.func16, Tryd.ntmps16
    go_wp2_with (first
      | (go_at_call 74; refine KF.out.mono ?_; rintro e w2 ⟨rfl, rfl⟩)
      | (go_at_call 75; refine (KN.out _).mono ?_; rintro e w2 ⟨rfl, rfl⟩)
      | (go_at_call 76; refine (KM.out _).mono ?_; rintro e w2 ⟨rfl, rfl⟩)
      | (go_at_call 77; refine (HW.out _).mono ?_; rintro e w4 ⟨rfl, hb⟩; have B2 := Lib.hid hb; clear hb))
    go_ret
    exact ⟨rfl, B2.out⟩
  · have m1 : 1 ≤ m := by omega
    have m2 : m ≤ 64 := by omega
    clear ho
    have KN0 := fun W (hb : Below w.heap.size w W) => New_any A m cap xs qs W (hsw.below hb) hx m1 m2 hq
    have KM0 := fun W (hb : Below w.heap.size w W) => made_any A m cap xs qs W (hsw.below hb) hx m1 m2 hq
    unfold NewPost at KN0
    unfold MadePost at KM0
    by_cases hst : stN xs qs m = 0
    · have KN : Hid (∀ W, Below w.heap.size w W → Calls Tryd.prog 75 #[.slice A m cap] W fun e w' => ∃ b va vm vd, e = .returned (.tuple #[.pointer (some ⟨b, 0, none⟩), .int .i64 0]) ∧ TT w' b va vm vd (xs.take m) (mlN xs qs m) (dlN xs m) ∧ Below w.heap.size w w') := Lib.hid (fun W hb => (KN0 W hb).mono (fun e w' h => by
        obtain ⟨h1, ⟨h2, -⟩ | ⟨-, b, va, vm, vd, -, he, hT⟩⟩ := h
        · exact absurd hst h2
        · exact ⟨b, va, vm, vd, he, hT, below_step hb h1⟩))
      have KM : Hid (∀ W, Below w.heap.size w W → Calls Tryd.prog 76 #[.slice A m cap] W fun e w' => ∃ b vm vd, e = .returned (.tuple #[.pointer (some ⟨b, 0, none⟩), .int .i64 0]) ∧ PP w' b A m cap vm vd (mlN xs qs m) (dlN xs m) ∧ Below W.heap.size W w') := Lib.hid (fun W hb => (KM0 W hb).mono (fun e w' h => by
        obtain ⟨h1, ⟨h2, -⟩ | ⟨-, b, vm, vd, -, he, hT⟩⟩ := h
        · exact absurd hst h2
        · exact ⟨b, vm, vd, he, hT, h1⟩))
      have hA1 : (xs.take m).length = m := by rw [List.length_take]; omega
      have hM1 := mlN_len xs qs m
      have hD1 := dlN_len xs m
      have hml := mlN_lt xs qs hq m
      have hdp := dlN_in xs qs m (stN_ok xs qs m hst)
      have hbm : belowS (mlN xs qs m) (-1) = 0 := by unfold belowS; rw [if_neg (by omega)]
      have hbo : belowS (mlN xs qs m) (m : Int) = 0 := by unfold belowS; rw [if_neg (by omega)]
      have hbk : ∀ k, k < m → belowS (mlN xs qs m) (k : Int) = (mlN xs qs m).getD k 0 := fun k hk => by unfold belowS; rw [if_pos ⟨by omega, by omega⟩, show ((k : Int)).toNat = k by omega]
      clear KN0 KM0 hsw
      obtain ⟨M, hM⟩ : ∃ M, mlN xs qs m = M := ⟨_, rfl⟩
      obtain ⟨D, hD⟩ : ∃ D, dlN xs m = D := ⟨_, rfl⟩
      obtain ⟨X, hX⟩ : ∃ X, xs.take m = X := ⟨_, rfl⟩
      rw [hM, hD] at KM
      rw [hM, hD, hX] at KN
      rw [hM] at hM1 hml hbm hbo hbk
      rw [hD] at hD1 hdp
      rw [hX] at hA1
      have KH : Hid (∀ (a c : Int) (W : World) b va vm vd, TT W b va vm vd X M D → Calls Tryd.prog 78 #[.pointer (some ⟨b, 0, none⟩), .int .i64 a, .int .i64 c] W fun e w' => e = .returned (.int .i64 (hopsS M D m a c)) ∧ Below W.heap.size W w') := Lib.hid (fun a c W b va vm vd hW => Hops_full hW (by omega) hA1 hM1 hD1 m2 hml hdp a c)
      have KR : Hid (∀ (a c : Int) (W : World) b va vm vd, TT W b va vm vd X M D → Calls Tryd.prog 78 #[.pointer (some ⟨b, 0, none⟩), .int .i64 c, .int .i64 a] W fun e w' => e = .returned (.int .i64 (hopsS M D m a c)) ∧ Below W.heap.size W w') := Lib.hid (fun a c W b va vm vd hW => by rw [← hopsS_back]; exact KH.out c a W b va vm vd hW)
      have KQ : Hid (∀ (a c : Int) (W : World) b vm vd, PP W b A m cap vm vd M D → Calls Tryd.prog 79 #[.pointer (some ⟨b, 0, none⟩), .int .i64 a, .int .i64 c] W fun e w' => e = .returned (.int .i64 (hopsS M D m a c)) ∧ Below W.heap.size W w') := Lib.hid (fun a c W b vm vd hW => hops39_any hW (by omega) hM1 hD1 m2 hml hdp a c)
      have KC : Hid (∀ (W : World) b va vm vd, TT W b va vm vd X M D → Tab W → Calls Tryd.prog 80 #[.pointer (some ⟨b, 0, none⟩), .int .u64 (s : Int)] W fun e w' => e = .returned (.int .i64 (costS (hopsS M D m) (Sets.nums (nodes s)) (lenS s))) ∧ Below W.heap.size W w') := Lib.hid (fun W b va vm vd hW hT => Cost_any hW (by omega) hA1 hM1 hD1 m2 hml hdp s hs hT)
      have KL0 := fun (W : World) (hT : Tab W) => list_any s W hs hT
      unfold ListIs at KL0
      have KL := Lib.hid KL0
      have HFB : Hid (∀ a c, -1 ≤ hopsS M D m a c ∧ hopsS M D m a c ≤ 200) := Lib.hid (fun a c => hopsS_in M D m (by omega) m2 hml hdp a c)
      have hlen : (Sets.nums (nodes s)).length = lenS s := by simp [Sets.nums, lenS]
      have hl64 := lenS_le s
      obtain ⟨l, hl1⟩ : ∃ l, Sets.nums (nodes s) = l := ⟨_, rfl⟩
      obtain ⟨N, hN⟩ : ∃ N, lenS s = N := ⟨_, rfl⟩
      obtain ⟨f, hf⟩ : ∃ f, hopsS M D m = f := ⟨_, rfl⟩
      rw [hl1, hN] at KL hlen
      rw [hN] at hl64
      rw [hl1, hN, hf] at KC
      rw [hf] at KH KR KQ HFB
      have HL := Lib.hid hlen
      have KH1 := Lib.hid (KH.out na nb)
      have KR1 := Lib.hid (KR.out na nb)
      have KQ1 := Lib.hid (KQ.out na nb)
      have hh1 := (HFB.out na nb).1
      obtain ⟨h, hh⟩ : ∃ h, f na nb = h := ⟨_, rfl⟩
      rw [hh] at KH1 KR1 KQ1 hh1
      have t1 : (h != h) = false := by simp
      have t2 : decide (h < -1) = false := decide_eq_false (by omega)
      obtain ⟨C, hC⟩ : ∃ C, costS f l N = C := ⟨_, rfl⟩
      rw [hC] at KC
      have HC := Lib.hid hC
      have t3 : (C == C) = true := by simp
      clear hbm hbo hbk hM hD hX hx hql hq hst hA1 hM1 hD1 hml hdp KH KR KL0 hlen hl1 hN hf hh hh1 hC
      go_enter Tryd.func16, Tryd.ntmps16
      go_wp2_with (first
        | (go_at_call 74; refine KF.out.mono ?_; rintro e w2 ⟨rfl, rfl⟩)
        | (go_at_call 75; refine (KN.out _ (Below.refl _ _)).mono ?_; rintro e w2 ⟨b, va, vm, vd, rfl, hT, hb⟩; have HT0 := Lib.hid hT; have HB0 := Lib.hid hb; clear hT hb)
        | (go_at_call 76; refine (KM.out _ HB0.out).mono ?_; rintro e w3 ⟨b2, vm2, vd2, rfl, hP, hb⟩; have HT := Lib.hid (HT0.out.below hb); have HP := Lib.hid hP; have HB := Lib.hid (below_step HB0.out hb); clear hP hb HT0 HB0)
        | (go_at_call 78; with_reducible refine (KH1.out _ b va vm vd HT.out).mono ?_; clear KH1; rintro e w4 ⟨rfl, hb⟩; have n1_ := Lib.hid (HT.out.below hb); have n2_ := Lib.hid (HP.out.below hb); have n3_ := Lib.hid (below_step HB.out hb); clear HT HP HB hb; have HT := n1_; have HP := n2_; have HB := n3_; clear n1_ n2_ n3_)
        | (go_at_call 79; with_reducible refine (KQ1.out _ b2 vm2 vd2 HP.out).mono ?_; clear KQ1; rintro e w5 ⟨rfl, hb⟩; have n1_ := Lib.hid (HT.out.below hb); have n2_ := Lib.hid (HP.out.below hb); have n3_ := Lib.hid (below_step HB.out hb); clear HT HP HB hb; have HT := n1_; have HP := n2_; have HB := n3_; clear n1_ n2_ n3_)
        | (go_at_call 78; with_reducible refine (KR1.out _ b va vm vd HT.out).mono ?_; clear KR1; rintro e w6 ⟨rfl, hb⟩; have n1_ := Lib.hid (HT.out.below hb); have n2_ := Lib.hid (HP.out.below hb); have n3_ := Lib.hid (below_step HB.out hb); clear HT HP HB hb; have HT := n1_; have HP := n2_; have HB := n3_; clear n1_ n2_ n3_)
        | (go_at_call 25; refine (KL.out _ (HTA.out.below HB.out HTA.out.lt)).mono ?_; clear KL; rintro e w7 ⟨Al, c, rfl, hc, hr, hb⟩; have HR := Lib.hid hr; clear hr; have n1_ := Lib.hid (HT.out.below hb); have n2_ := Lib.hid (HP.out.below hb); have n3_ := Lib.hid (below_step HB.out hb); clear HT HP HB hb; have HT := n1_; have HP := n2_; have HB := n3_; clear n1_ n2_ n3_))
      go_loopg [15, 16] (N + 1) (fun kq v15 v16 w' => ∃ (i : Nat) (su : Int), v15 = .int .i64 su ∧ v16 = .int .i64 i ∧ Aside0 (i + kq = N + 1 ∧ 1 ≤ kq) ∧ Aside0 (su = costS f l i) ∧ Aside0 (TT w' b va vm vd X M D) ∧ Aside0 (PP w' b2 A m cap vm2 vd2 M D) ∧ Aside0 (Rds (Value.int .i64) w' Al l) ∧ Aside0 (Below w.heap.size w w'))
      case atStart => exact ⟨0, 0, rfl, rfl, ⟨by omega, by omega⟩, ⟨rfl⟩, ⟨HT.out⟩, ⟨HP.out⟩, ⟨HR.out⟩, ⟨HB.out⟩⟩
      case round =>
        clear HT HP HR HB
        obtain ⟨i, su, rfl, rfl, HI, HS, HT, HP, HR, HB⟩ := hrel
        obtain ⟨k1, rfl⟩ : ∃ k1, gk = k1 + 1 := ⟨gk - 1, by have := HI.out; omega⟩
        by_cases c1 : i < N
        · have d1 : decide (i < N) = true := decide_eq_true c1
          have d2 : decide ((i : Int) < (N : Int)) = true := decide_eq_true (by omega)
          have HC1 := Lib.hid c1
          obtain ⟨ad, rfl, -⟩ := rds_at HR.out i (by rw [HL.out]; exact c1)
          obtain ⟨x, hx⟩ : ∃ x, l.getD i 0 = x := ⟨_, rfl⟩
          have HX : Hid (i < l.length ∧ l.getD i 0 = x) := Lib.hid ⟨by rw [HL.out]; exact c1, hx⟩
          have x0 : (0 ≤ (i : Int) ∧ (i : Int) < (N : Int)) = True := eq_true ⟨by omega, by omega⟩
          have y0 : ((i : Int) < (N : Int)) = True := eq_true (by omega)
          have xt : ((i : Int)).toNat = i := by omega
          clear hx
          go_wp2
          go_loopg [15, 17] (N + 1) (fun kq v15 v17 w' => ∃ (k : Nat) (sk : Int), v15 = .int .i64 sk ∧ v17 = .int .i64 k ∧ Aside0 (k + kq = N + 1 ∧ 1 ≤ kq ∧ k ≤ i) ∧ Aside0 (sk = rowS f l i su k) ∧ Aside0 (TT w' b va vm vd X M D) ∧ Aside0 (PP w' b2 A m cap vm2 vd2 M D) ∧ Aside0 (Rds (Value.int .i64) w' (some ad) l) ∧ Aside0 (Below w.heap.size w w'))
          case atStart => exact ⟨0, su, rfl, rfl, ⟨by omega, by omega, by omega⟩, ⟨rfl⟩, ⟨HT.out⟩, ⟨HP.out⟩, ⟨HR.out⟩, ⟨HB.out⟩⟩
          case round =>
            clear HT HP HR HB
            obtain ⟨k, sk, rfl, rfl, HK, HSK, HT, HP, HR, HB⟩ := hrel
            obtain ⟨k2, rfl⟩ : ∃ k2, gk = k2 + 1 := ⟨gk - 1, by have := HK.out; omega⟩
            by_cases c2 : k < i
            · have e1 : decide (k < i) = true := decide_eq_true c2
              have e2 : decide ((k : Int) < (i : Int)) = true := decide_eq_true (by omega)
              have HC2 := Lib.hid c2
              obtain ⟨y, hy⟩ : ∃ y, l.getD k 0 = y := ⟨_, rfl⟩
              have HY : Hid (k < l.length ∧ l.getD k 0 = y) := Lib.hid ⟨by rw [HL.out]; omega, hy⟩
              have KX := Lib.hid (fun W b vm vd hW => KQ.out y x W b vm vd hW)
              have hfb := HFB.out y x
              have hrow : rowS f l i su (k + 1) = addS sk (f y x) := by rw [rowS_succ, hy, HX.out.2, HSK.out]
              obtain ⟨z, hz⟩ : ∃ z, f y x = z := ⟨_, rfl⟩
              rw [hz] at KX hfb hrow
              have HROW := Lib.hid hrow
              have hsb := rowS_in f (fun a c => (HFB.out a c).2) l i su 819200 (by have h1 := costS_in f (fun a c => (HFB.out a c).2) l i (by omega); have h2 := HS.out; omega) (by omega) k
              rw [← HSK.out] at hsb
              have u0 : (0 ≤ (k : Int) ∧ (k : Int) < (N : Int)) = True := eq_true ⟨by omega, by omega⟩
              have v0 : ((k : Int) < (N : Int)) = True := eq_true (by omega)
              have kt : ((k : Int)).toNat = k := by omega
              have wr1 : wrap64 (sk + z) = sk + z := by unfold wrap64; omega
              have wr2 : IntKind.i64.wrap (sk + z) = sk + z := by rw [IntKind.wrap_i64]; omega
              clear hy hz hrow
              by_cases cz : z < 0
              · have e3 : decide (z < 0) = true := decide_eq_true cz
                go_upto_region 17 with fail
                refine start_ (n := 11) (S := fun w' => w'.cell? (ad.add k) = some (.int .i64 y) ∧ w'.cell? (ad.add i) = some (.int .i64 x)) (ds := []) #[false, false, false, false, false, false, false, false, false, false, false] (by kernel_rfl) rfl rfl ⟨(rds_val HR.out k y HY.out), (rds_val HR.out i x HX.out)⟩ (fun hHeld => ?_)
                have n_ := Lib.hid HT.out.drew
                have n2_ := Lib.hid (below_drew1 HB.out)
                have n3_ := Lib.hid HP.out.drew
                have n4_ := Lib.hid (HR.out.below (below_drew (Below.refl _ _)))
                clear HT HB HP HR
                have HT := n_
                have HB := n2_
                have HP := n3_
                have HR := n4_
                clear n_ n2_ n3_ n4_
                generalize wr.drew = w12 at HT HB HP HR hHeld ⊢
                refine pure_ (i := 0) (N := some 86) (v := ?_) (a' := ?_) #[true, false, false, false, false, false, false, false, false, false, false] rfl rfl (by kernel_rfl) (fun _ _ _ h => h) (Or.inl ⟨by rfl, ?_⟩) ?_ ?_
                rotate_left
                · intro w'
                  go_simp
                  with_reducible rfl
                rotate_left
                · simp only [Act.put, List.setIfInBounds_toArray, List.set_cons_zero, List.set_cons_succ, i64_w, i32_w]
                  rfl
                refine pure_ (i := 1) (N := some 87) (v := ?_) (a' := ?_) #[true, true, false, false, false, false, false, false, false, false, false] rfl rfl (by kernel_rfl) (fun _ _ _ h => h) (Or.inl ⟨by rfl, ?_⟩) ?_ ?_
                rotate_left
                · intro w'
                  go_simp
                  with_reducible rfl
                rotate_left
                · simp only [Act.put, List.setIfInBounds_toArray, List.set_cons_zero, List.set_cons_succ, i64_w, i32_w]
                  rfl
                refine pure_ (i := 2) (N := some 88) (v := ?_) (a' := ?_) #[true, true, true, false, false, false, false, false, false, false, false] rfl rfl (by kernel_rfl) (fun _ _ _ h => h) (Or.inl ⟨by rfl, ?_⟩) ?_ ?_
                rotate_left
                · intro w'
                  go_simp
                  with_reducible rfl
                rotate_left
                · simp only [Act.put, List.setIfInBounds_toArray, List.set_cons_zero, List.set_cons_succ, i64_w, i32_w]
                  rfl
                refine pure_ (i := 3) (N := some 89) (v := ?_) (a' := ?_) #[true, true, true, true, false, false, false, false, false, false, false] rfl rfl (by kernel_rfl) (fun _ _ _ h => h) (Or.inl ⟨by rfl, ?_⟩) ?_ ?_
                rotate_left
                · intro w'
                  go_simp
                  with_reducible rfl
                rotate_left
                · simp only [Act.put, List.setIfInBounds_toArray, List.set_cons_zero, List.set_cons_succ, i64_w, i32_w]
                  rfl
                refine pure_ (i := 5) (N := some 91) (v := ?_) (a' := ?_) #[true, true, true, true, false, true, false, false, false, false, false] rfl rfl (by kernel_rfl) (fun _ _ _ h => h) (Or.inl ⟨by rfl, ?_⟩) ?_ ?_
                rotate_left
                · intro w'
                  go_simp
                  with_reducible rfl
                rotate_left
                · simp only [Act.put, List.setIfInBounds_toArray, List.set_cons_zero, List.set_cons_succ, i64_w, i32_w]
                  rfl
                refine pure_ (i := 6) (N := some 92) (v := ?_) (a' := ?_) #[true, true, true, true, false, true, true, false, false, false, false] rfl rfl (by kernel_rfl) (fun _ _ _ h => h) (Or.inl ⟨by rfl, ?_⟩) ?_ ?_
                rotate_left
                · intro w'
                  go_simp
                  with_reducible rfl
                rotate_left
                · simp only [Act.put, List.setIfInBounds_toArray, List.set_cons_zero, List.set_cons_succ, i64_w, i32_w]
                  rfl
                refine pure_ (i := 7) (N := some 93) (v := ?_) (a' := ?_) #[true, true, true, true, false, true, true, true, false, false, false] rfl rfl (by kernel_rfl) (fun _ _ _ h => h) (Or.inl ⟨by rfl, ?_⟩) ?_ ?_
                rotate_left
                · intro w'
                  go_simp
                  with_reducible rfl
                rotate_left
                · simp only [Act.put, List.setIfInBounds_toArray, List.set_cons_zero, List.set_cons_succ, i64_w, i32_w]
                  rfl
                refine take_ (i := 4) (N := some 90) (v := ?_) (a' := ?_) #[true, true, true, true, true, true, true, true, false, false, false] rfl rfl (by kernel_rfl) (fun _ _ _ h => h) (Or.inl ⟨by rfl, ?_⟩) hHeld ?_ ?_
                rotate_left
                · rintro w' ⟨s0, s1⟩
                  go_simp
                  with_reducible rfl
                rotate_left
                · simp only [Act.put, List.setIfInBounds_toArray, List.set_cons_zero, List.set_cons_succ, i64_w, i32_w]
                  rfl
                refine take_ (i := 8) (N := some 94) (v := ?_) (a' := ?_) #[true, true, true, true, true, true, true, true, true, false, false] rfl rfl (by kernel_rfl) (fun _ _ _ h => h) (Or.inl ⟨by rfl, ?_⟩) hHeld ?_ ?_
                rotate_left
                · rintro w' ⟨s0, s1⟩
                  go_simp
                  with_reducible rfl
                rotate_left
                · simp only [Act.put, List.setIfInBounds_toArray, List.set_cons_zero, List.set_cons_succ, i64_w, i32_w]
                  rfl
                refine one_ (i := 9) (N := some 95) #[true, true, true, true, true, true, true, true, true, true, false] rfl rfl (by kernel_rfl) (by decide) (fun K hK => ?_)
                refine goes_ Tryd.func79 (by kernel_rfl) rfl #[.pointer (some ⟨b2, 0, none⟩), .int .i64 y, .int .i64 x] (by rfl) rfl rfl (by (try simp only [List.map_toArray, List.map_cons, List.map_nil]); first | done | rfl | (simp only [List.length_drop, List.length_take]; rfl)) ?_
                with_reducible refine (KX.out _ b2 vm2 vd2 HP.out).mono ?_
                rintro e w6 ⟨rfl, hb⟩
                refine ⟨_, rfl, ?_⟩
                have n1_ := Lib.hid (HT.out.below hb)
                have n2_ := Lib.hid (HP.out.below hb)
                have n3_ := Lib.hid (below_step HB.out hb)
                have n4_ := Lib.hid (HR.out.below hb)
                clear HT HP HB HR hb
                have HT := n1_
                have HP := n2_
                have HB := n3_
                have HR := n4_
                clear n1_ n2_ n3_ n4_
                refine hK.out _ _ ⟨(rds_val HR.out k y HY.out), (rds_val HR.out i x HX.out)⟩ (fun hHeld => ?_)
                clear hK K
                refine norm_ (a' := ?_) ?_ ?_
                rotate_left
                · show Act.put _ (some 95) _ = _
                  simp only [Act.put, List.setIfInBounds_toArray, List.set_cons_zero, List.set_cons_succ, i64_w, i32_w]
                  rfl
                refine pure_ (i := 10) (N := some 18) (v := ?_) (a' := ?_) #[true, true, true, true, true, true, true, true, true, true, true] rfl rfl (by kernel_rfl) (fun _ _ _ h => h) (Or.inl ⟨by rfl, ?_⟩) ?_ ?_
                rotate_left
                · intro w'
                  go_simp
                  with_reducible rfl
                rotate_left
                · simp only [Act.put, List.setIfInBounds_toArray, List.set_cons_zero, List.set_cons_succ, i64_w, i32_w]
                  rfl
                refine done_ (by kernel_rfl) ?_
                clear hHeld
                go_wp2
                go_roundg k2
                case measure => have := HK.out; omega
                case rel => exact ⟨k + 1, -1, by go_num, by go_num, ⟨by have := HK.out; omega, by have := HK.out; have := HC2.out; have := HC1.out; omega, by have := HC2.out; omega⟩, ⟨by rw [HROW.out]; unfold addS; rw [if_pos (.inl cz)]⟩, ⟨HT.out⟩, ⟨HP.out⟩, ⟨HR.out⟩, ⟨HB.out⟩⟩
              · have e3 : decide (z < 0) = false := decide_eq_false cz
                by_cases cs : sk < 0
                · have e4 : decide (sk < 0) = true := decide_eq_true cs
                  go_upto_region 17 with fail
                  refine start_ (n := 11) (S := fun w' => w'.cell? (ad.add k) = some (.int .i64 y) ∧ w'.cell? (ad.add i) = some (.int .i64 x)) (ds := []) #[false, false, false, false, false, false, false, false, false, false, false] (by kernel_rfl) rfl rfl ⟨(rds_val HR.out k y HY.out), (rds_val HR.out i x HX.out)⟩ (fun hHeld => ?_)
                  have n_ := Lib.hid HT.out.drew
                  have n2_ := Lib.hid (below_drew1 HB.out)
                  have n3_ := Lib.hid HP.out.drew
                  have n4_ := Lib.hid (HR.out.below (below_drew (Below.refl _ _)))
                  clear HT HB HP HR
                  have HT := n_
                  have HB := n2_
                  have HP := n3_
                  have HR := n4_
                  clear n_ n2_ n3_ n4_
                  generalize wr.drew = w12 at HT HB HP HR hHeld ⊢
                  refine pure_ (i := 0) (N := some 86) (v := ?_) (a' := ?_) #[true, false, false, false, false, false, false, false, false, false, false] rfl rfl (by kernel_rfl) (fun _ _ _ h => h) (Or.inl ⟨by rfl, ?_⟩) ?_ ?_
                  rotate_left
                  · intro w'
                    go_simp
                    with_reducible rfl
                  rotate_left
                  · simp only [Act.put, List.setIfInBounds_toArray, List.set_cons_zero, List.set_cons_succ, i64_w, i32_w]
                    rfl
                  refine pure_ (i := 1) (N := some 87) (v := ?_) (a' := ?_) #[true, true, false, false, false, false, false, false, false, false, false] rfl rfl (by kernel_rfl) (fun _ _ _ h => h) (Or.inl ⟨by rfl, ?_⟩) ?_ ?_
                  rotate_left
                  · intro w'
                    go_simp
                    with_reducible rfl
                  rotate_left
                  · simp only [Act.put, List.setIfInBounds_toArray, List.set_cons_zero, List.set_cons_succ, i64_w, i32_w]
                    rfl
                  refine pure_ (i := 2) (N := some 88) (v := ?_) (a' := ?_) #[true, true, true, false, false, false, false, false, false, false, false] rfl rfl (by kernel_rfl) (fun _ _ _ h => h) (Or.inl ⟨by rfl, ?_⟩) ?_ ?_
                  rotate_left
                  · intro w'
                    go_simp
                    with_reducible rfl
                  rotate_left
                  · simp only [Act.put, List.setIfInBounds_toArray, List.set_cons_zero, List.set_cons_succ, i64_w, i32_w]
                    rfl
                  refine pure_ (i := 3) (N := some 89) (v := ?_) (a' := ?_) #[true, true, true, true, false, false, false, false, false, false, false] rfl rfl (by kernel_rfl) (fun _ _ _ h => h) (Or.inl ⟨by rfl, ?_⟩) ?_ ?_
                  rotate_left
                  · intro w'
                    go_simp
                    with_reducible rfl
                  rotate_left
                  · simp only [Act.put, List.setIfInBounds_toArray, List.set_cons_zero, List.set_cons_succ, i64_w, i32_w]
                    rfl
                  refine pure_ (i := 5) (N := some 91) (v := ?_) (a' := ?_) #[true, true, true, true, false, true, false, false, false, false, false] rfl rfl (by kernel_rfl) (fun _ _ _ h => h) (Or.inl ⟨by rfl, ?_⟩) ?_ ?_
                  rotate_left
                  · intro w'
                    go_simp
                    with_reducible rfl
                  rotate_left
                  · simp only [Act.put, List.setIfInBounds_toArray, List.set_cons_zero, List.set_cons_succ, i64_w, i32_w]
                    rfl
                  refine pure_ (i := 6) (N := some 92) (v := ?_) (a' := ?_) #[true, true, true, true, false, true, true, false, false, false, false] rfl rfl (by kernel_rfl) (fun _ _ _ h => h) (Or.inl ⟨by rfl, ?_⟩) ?_ ?_
                  rotate_left
                  · intro w'
                    go_simp
                    with_reducible rfl
                  rotate_left
                  · simp only [Act.put, List.setIfInBounds_toArray, List.set_cons_zero, List.set_cons_succ, i64_w, i32_w]
                    rfl
                  refine pure_ (i := 7) (N := some 93) (v := ?_) (a' := ?_) #[true, true, true, true, false, true, true, true, false, false, false] rfl rfl (by kernel_rfl) (fun _ _ _ h => h) (Or.inl ⟨by rfl, ?_⟩) ?_ ?_
                  rotate_left
                  · intro w'
                    go_simp
                    with_reducible rfl
                  rotate_left
                  · simp only [Act.put, List.setIfInBounds_toArray, List.set_cons_zero, List.set_cons_succ, i64_w, i32_w]
                    rfl
                  refine take_ (i := 4) (N := some 90) (v := ?_) (a' := ?_) #[true, true, true, true, true, true, true, true, false, false, false] rfl rfl (by kernel_rfl) (fun _ _ _ h => h) (Or.inl ⟨by rfl, ?_⟩) hHeld ?_ ?_
                  rotate_left
                  · rintro w' ⟨s0, s1⟩
                    go_simp
                    with_reducible rfl
                  rotate_left
                  · simp only [Act.put, List.setIfInBounds_toArray, List.set_cons_zero, List.set_cons_succ, i64_w, i32_w]
                    rfl
                  refine take_ (i := 8) (N := some 94) (v := ?_) (a' := ?_) #[true, true, true, true, true, true, true, true, true, false, false] rfl rfl (by kernel_rfl) (fun _ _ _ h => h) (Or.inl ⟨by rfl, ?_⟩) hHeld ?_ ?_
                  rotate_left
                  · rintro w' ⟨s0, s1⟩
                    go_simp
                    with_reducible rfl
                  rotate_left
                  · simp only [Act.put, List.setIfInBounds_toArray, List.set_cons_zero, List.set_cons_succ, i64_w, i32_w]
                    rfl
                  refine one_ (i := 9) (N := some 95) #[true, true, true, true, true, true, true, true, true, true, false] rfl rfl (by kernel_rfl) (by decide) (fun K hK => ?_)
                  refine goes_ Tryd.func79 (by kernel_rfl) rfl #[.pointer (some ⟨b2, 0, none⟩), .int .i64 y, .int .i64 x] (by rfl) rfl rfl (by (try simp only [List.map_toArray, List.map_cons, List.map_nil]); first | done | rfl | (simp only [List.length_drop, List.length_take]; rfl)) ?_
                  with_reducible refine (KX.out _ b2 vm2 vd2 HP.out).mono ?_
                  rintro e w6 ⟨rfl, hb⟩
                  refine ⟨_, rfl, ?_⟩
                  have n1_ := Lib.hid (HT.out.below hb)
                  have n2_ := Lib.hid (HP.out.below hb)
                  have n3_ := Lib.hid (below_step HB.out hb)
                  have n4_ := Lib.hid (HR.out.below hb)
                  clear HT HP HB HR hb
                  have HT := n1_
                  have HP := n2_
                  have HB := n3_
                  have HR := n4_
                  clear n1_ n2_ n3_ n4_
                  refine hK.out _ _ ⟨(rds_val HR.out k y HY.out), (rds_val HR.out i x HX.out)⟩ (fun hHeld => ?_)
                  clear hK K
                  refine norm_ (a' := ?_) ?_ ?_
                  rotate_left
                  · show Act.put _ (some 95) _ = _
                    simp only [Act.put, List.setIfInBounds_toArray, List.set_cons_zero, List.set_cons_succ, i64_w, i32_w]
                    rfl
                  refine pure_ (i := 10) (N := some 18) (v := ?_) (a' := ?_) #[true, true, true, true, true, true, true, true, true, true, true] rfl rfl (by kernel_rfl) (fun _ _ _ h => h) (Or.inl ⟨by rfl, ?_⟩) ?_ ?_
                  rotate_left
                  · intro w'
                    go_simp
                    with_reducible rfl
                  rotate_left
                  · simp only [Act.put, List.setIfInBounds_toArray, List.set_cons_zero, List.set_cons_succ, i64_w, i32_w]
                    rfl
                  refine done_ (by kernel_rfl) ?_
                  clear hHeld
                  go_wp2
                  go_roundg k2
                  case measure => have := HK.out; omega
                  case rel => exact ⟨k + 1, -1, by go_num, by go_num, ⟨by have := HK.out; omega, by have := HK.out; have := HC2.out; have := HC1.out; omega, by have := HC2.out; omega⟩, ⟨by rw [HROW.out]; unfold addS; rw [if_pos (.inr cs)]⟩, ⟨HT.out⟩, ⟨HP.out⟩, ⟨HR.out⟩, ⟨HB.out⟩⟩
                · have e4 : decide (sk < 0) = false := decide_eq_false cs
                  go_upto_region 17 with fail
                  refine start_ (n := 11) (S := fun w' => w'.cell? (ad.add k) = some (.int .i64 y) ∧ w'.cell? (ad.add i) = some (.int .i64 x)) (ds := []) #[false, false, false, false, false, false, false, false, false, false, false] (by kernel_rfl) rfl rfl ⟨(rds_val HR.out k y HY.out), (rds_val HR.out i x HX.out)⟩ (fun hHeld => ?_)
                  have n_ := Lib.hid HT.out.drew
                  have n2_ := Lib.hid (below_drew1 HB.out)
                  have n3_ := Lib.hid HP.out.drew
                  have n4_ := Lib.hid (HR.out.below (below_drew (Below.refl _ _)))
                  clear HT HB HP HR
                  have HT := n_
                  have HB := n2_
                  have HP := n3_
                  have HR := n4_
                  clear n_ n2_ n3_ n4_
                  generalize wr.drew = w12 at HT HB HP HR hHeld ⊢
                  refine pure_ (i := 0) (N := some 86) (v := ?_) (a' := ?_) #[true, false, false, false, false, false, false, false, false, false, false] rfl rfl (by kernel_rfl) (fun _ _ _ h => h) (Or.inl ⟨by rfl, ?_⟩) ?_ ?_
                  rotate_left
                  · intro w'
                    go_simp
                    with_reducible rfl
                  rotate_left
                  · simp only [Act.put, List.setIfInBounds_toArray, List.set_cons_zero, List.set_cons_succ, i64_w, i32_w]
                    rfl
                  refine pure_ (i := 1) (N := some 87) (v := ?_) (a' := ?_) #[true, true, false, false, false, false, false, false, false, false, false] rfl rfl (by kernel_rfl) (fun _ _ _ h => h) (Or.inl ⟨by rfl, ?_⟩) ?_ ?_
                  rotate_left
                  · intro w'
                    go_simp
                    with_reducible rfl
                  rotate_left
                  · simp only [Act.put, List.setIfInBounds_toArray, List.set_cons_zero, List.set_cons_succ, i64_w, i32_w]
                    rfl
                  refine pure_ (i := 2) (N := some 88) (v := ?_) (a' := ?_) #[true, true, true, false, false, false, false, false, false, false, false] rfl rfl (by kernel_rfl) (fun _ _ _ h => h) (Or.inl ⟨by rfl, ?_⟩) ?_ ?_
                  rotate_left
                  · intro w'
                    go_simp
                    with_reducible rfl
                  rotate_left
                  · simp only [Act.put, List.setIfInBounds_toArray, List.set_cons_zero, List.set_cons_succ, i64_w, i32_w]
                    rfl
                  refine pure_ (i := 3) (N := some 89) (v := ?_) (a' := ?_) #[true, true, true, true, false, false, false, false, false, false, false] rfl rfl (by kernel_rfl) (fun _ _ _ h => h) (Or.inl ⟨by rfl, ?_⟩) ?_ ?_
                  rotate_left
                  · intro w'
                    go_simp
                    with_reducible rfl
                  rotate_left
                  · simp only [Act.put, List.setIfInBounds_toArray, List.set_cons_zero, List.set_cons_succ, i64_w, i32_w]
                    rfl
                  refine pure_ (i := 5) (N := some 91) (v := ?_) (a' := ?_) #[true, true, true, true, false, true, false, false, false, false, false] rfl rfl (by kernel_rfl) (fun _ _ _ h => h) (Or.inl ⟨by rfl, ?_⟩) ?_ ?_
                  rotate_left
                  · intro w'
                    go_simp
                    with_reducible rfl
                  rotate_left
                  · simp only [Act.put, List.setIfInBounds_toArray, List.set_cons_zero, List.set_cons_succ, i64_w, i32_w]
                    rfl
                  refine pure_ (i := 6) (N := some 92) (v := ?_) (a' := ?_) #[true, true, true, true, false, true, true, false, false, false, false] rfl rfl (by kernel_rfl) (fun _ _ _ h => h) (Or.inl ⟨by rfl, ?_⟩) ?_ ?_
                  rotate_left
                  · intro w'
                    go_simp
                    with_reducible rfl
                  rotate_left
                  · simp only [Act.put, List.setIfInBounds_toArray, List.set_cons_zero, List.set_cons_succ, i64_w, i32_w]
                    rfl
                  refine pure_ (i := 7) (N := some 93) (v := ?_) (a' := ?_) #[true, true, true, true, false, true, true, true, false, false, false] rfl rfl (by kernel_rfl) (fun _ _ _ h => h) (Or.inl ⟨by rfl, ?_⟩) ?_ ?_
                  rotate_left
                  · intro w'
                    go_simp
                    with_reducible rfl
                  rotate_left
                  · simp only [Act.put, List.setIfInBounds_toArray, List.set_cons_zero, List.set_cons_succ, i64_w, i32_w]
                    rfl
                  refine take_ (i := 4) (N := some 90) (v := ?_) (a' := ?_) #[true, true, true, true, true, true, true, true, false, false, false] rfl rfl (by kernel_rfl) (fun _ _ _ h => h) (Or.inl ⟨by rfl, ?_⟩) hHeld ?_ ?_
                  rotate_left
                  · rintro w' ⟨s0, s1⟩
                    go_simp
                    with_reducible rfl
                  rotate_left
                  · simp only [Act.put, List.setIfInBounds_toArray, List.set_cons_zero, List.set_cons_succ, i64_w, i32_w]
                    rfl
                  refine take_ (i := 8) (N := some 94) (v := ?_) (a' := ?_) #[true, true, true, true, true, true, true, true, true, false, false] rfl rfl (by kernel_rfl) (fun _ _ _ h => h) (Or.inl ⟨by rfl, ?_⟩) hHeld ?_ ?_
                  rotate_left
                  · rintro w' ⟨s0, s1⟩
                    go_simp
                    with_reducible rfl
                  rotate_left
                  · simp only [Act.put, List.setIfInBounds_toArray, List.set_cons_zero, List.set_cons_succ, i64_w, i32_w]
                    rfl
                  refine one_ (i := 9) (N := some 95) #[true, true, true, true, true, true, true, true, true, true, false] rfl rfl (by kernel_rfl) (by decide) (fun K hK => ?_)
                  refine goes_ Tryd.func79 (by kernel_rfl) rfl #[.pointer (some ⟨b2, 0, none⟩), .int .i64 y, .int .i64 x] (by rfl) rfl rfl (by (try simp only [List.map_toArray, List.map_cons, List.map_nil]); first | done | rfl | (simp only [List.length_drop, List.length_take]; rfl)) ?_
                  with_reducible refine (KX.out _ b2 vm2 vd2 HP.out).mono ?_
                  rintro e w6 ⟨rfl, hb⟩
                  refine ⟨_, rfl, ?_⟩
                  have n1_ := Lib.hid (HT.out.below hb)
                  have n2_ := Lib.hid (HP.out.below hb)
                  have n3_ := Lib.hid (below_step HB.out hb)
                  have n4_ := Lib.hid (HR.out.below hb)
                  clear HT HP HB HR hb
                  have HT := n1_
                  have HP := n2_
                  have HB := n3_
                  have HR := n4_
                  clear n1_ n2_ n3_ n4_
                  refine hK.out _ _ ⟨(rds_val HR.out k y HY.out), (rds_val HR.out i x HX.out)⟩ (fun hHeld => ?_)
                  clear hK K
                  refine norm_ (a' := ?_) ?_ ?_
                  rotate_left
                  · show Act.put _ (some 95) _ = _
                    simp only [Act.put, List.setIfInBounds_toArray, List.set_cons_zero, List.set_cons_succ, i64_w, i32_w]
                    rfl
                  refine pure_ (i := 10) (N := some 18) (v := ?_) (a' := ?_) #[true, true, true, true, true, true, true, true, true, true, true] rfl rfl (by kernel_rfl) (fun _ _ _ h => h) (Or.inl ⟨by rfl, ?_⟩) ?_ ?_
                  rotate_left
                  · intro w'
                    go_simp
                    with_reducible rfl
                  rotate_left
                  · simp only [Act.put, List.setIfInBounds_toArray, List.set_cons_zero, List.set_cons_succ, i64_w, i32_w]
                    rfl
                  refine done_ (by kernel_rfl) ?_
                  clear hHeld
                  go_wp2
                  go_roundg k2
                  case measure => have := HK.out; omega
                  case rel => exact ⟨k + 1, sk + z, by go_num, by go_num, ⟨by have := HK.out; omega, by have := HK.out; have := HC2.out; have := HC1.out; omega, by have := HC2.out; omega⟩, ⟨by rw [HROW.out]; unfold addS; rw [if_neg (by omega)]⟩, ⟨HT.out⟩, ⟨HP.out⟩, ⟨HR.out⟩, ⟨HB.out⟩⟩
            · have e1 : decide (k < i) = false := decide_eq_false c2
              have e2 : decide ((k : Int) < (i : Int)) = false := decide_eq_false (by omega)
              obtain rfl : k = i := by have := HK.out; omega
              go_wp2
              go_roundg k1
              case measure => have := HI.out; omega
              case rel => exact ⟨k + 1, sk, by go_num, by go_num, ⟨by have := HI.out; omega, by have := HI.out; have := HC1.out; omega⟩, ⟨by rw [costS_succ, ← HS.out]; exact HSK.out⟩, ⟨HT.out⟩, ⟨HP.out⟩, ⟨HR.out⟩, ⟨HB.out⟩⟩
        · have d1 : decide (i < N) = false := decide_eq_false c1
          have d2 : decide ((i : Int) < (N : Int)) = false := decide_eq_false (by omega)
          obtain rfl : i = N := by have := HI.out; omega
          obtain rfl : su = C := by rw [HS.out]; exact HC.out
          have HTB := Lib.hid (HTA.out.below HB.out HTA.out.lt)
          go_wp2_with (first
            | (go_at_call 80; refine (KC.out _ b va vm vd HT.out HTB.out).mono ?_; rintro e w4 ⟨rfl, hb⟩; have HB1 := Lib.hid (below_step HB.out hb); clear hb)
            | (go_at_call 77; refine (HW.out _).mono ?_; rintro e w7 ⟨rfl, hb⟩; have HB3 := Lib.hid (below_step HB1.out hb); clear hb))
          go_ret
          exact ⟨rfl, HB3.out⟩
    · have KN : Hid (∀ W, Below w.heap.size w W → Calls Tryd.prog 75 #[.slice A m cap] W fun e w' => e = .returned (.tuple #[.pointer none, .int .i64 (stN xs qs m)]) ∧ Below w.heap.size w w') := Lib.hid (fun W hb => (KN0 W hb).mono (fun e w' h => by
        obtain ⟨h1, ⟨-, he⟩ | ⟨h2, -⟩⟩ := h
        · exact ⟨he, below_step hb h1⟩
        · exact absurd h2 hst))
      have KM : Hid (∀ W, Below w.heap.size w W → Calls Tryd.prog 76 #[.slice A m cap] W fun e w' => e = .returned (.tuple #[.pointer none, .int .i64 (stN xs qs m)]) ∧ Below w.heap.size w w') := Lib.hid (fun W hb => (KM0 W hb).mono (fun e w' h => by
        obtain ⟨h1, ⟨-, he⟩ | ⟨h2, -⟩⟩ := h
        · exact ⟨he, below_step hb h1⟩
        · exact absurd h2 hst))
      clear KN0 KM0 hsw hx hql hq
      obtain ⟨S, hS⟩ : ∃ S, stN xs qs m = S := ⟨_, rfl⟩
      rw [hS] at KN KM hst
      have e1 : (S != 0) = true := by simpa using hst
      have e2 : (S == S) = true := by simp
      have e3 : (S != 0) = true := e1
      clear hS hst
      go_enter Tryd.func16, Tryd.ntmps16
      go_wp2_with (first
        | (go_at_call 74; refine KF.out.mono ?_; rintro e w2 ⟨rfl, rfl⟩)
        | (go_at_call 75; refine (KN.out _ (Below.refl _ _)).mono ?_; rintro e w3 ⟨rfl, hb⟩; have B1 := Lib.hid hb; clear hb)
        | (go_at_call 76; refine (KM.out _ B1.out).mono ?_; rintro e w4 ⟨rfl, hb⟩; have B2 := Lib.hid hb; clear hb)
        | (go_at_call 77; refine (HW.out _).mono ?_; rintro e w5 ⟨rfl, hb⟩; have B3 := Lib.hid (below_step B2.out hb); clear hb))
      go_ret
      exact ⟨rfl, B3.out⟩
end Go.Proofs.YtmjkgnlmdcmdbaaDoor.Topo
