/- Law 39: Hops. -/
import Derived.Test.YtmjkgnlmdcmdbaaDoorTopo3
namespace Go.Proofs.YtmjkgnlmdcmdbaaDoor.Topo
open Go.RowKit Go.Proofs.YtmjkgnlmdcmdbaaDoorW.PrintWords Go.Proofs.YtmjkgnlmdcmdbaaDoorW.PrintLast Go.Proofs.YtmjkgnlmdcmdbaaDoorW.PrintMore Go.Proofs.YtmjkgnlmdcmdbaaDoor.Row Go.Proofs.YtmjkgnlmdcmdbaaDoor.Sets Go.Proofs.YtmjkgnlmdcmdbaaDoor.Node
set_option linter.unusedVariables false
set_option linter.unusedSimpArgs false
set_option maxRecDepth 100000
theorem one_row (a : Int) (g : Nat) (W : World) (h : W.heap[g]? = some (.cells #[.int .i64 a] 3 (0, 0))) : Calls Tryd.prog 24 #[.slice (some ⟨g, 0, none⟩) 1 1] W fun e w' => e = .returned (.int .u64 (ofS [a] : Nat)) ∧ W = w' :=
  of_any (some ⟨g, 0, none⟩) 1 [a] W (GRow.rds (e := 3) (xs := [a]) ⟨_, h, fun j hj => by
    have hj1 : j < 1 := hj
    obtain rfl : j = 0 := by omega
    rfl⟩) (by simp)
set_option maxHeartbeats 2000000 in
theorem Hops_any {w : World} {b n : Nat} {va vm vd : Value} {A D : List Int} {M : List Nat} (h : TT w b va vm vd A M D) (h0 : 0 < n) (hA : A.length = n) (hM : M.length = n) (hD : D.length = n) (hl : n ≤ 64) (hml : ∀ i, M.getD i 0 < 18446744073709551616) (hdp : ∀ i, i < n → 0 ≤ D.getD i 0 ∧ D.getD i 0 ≤ i)
    (a c : Int) (ha : hasS (M.getD 0 0) a = true) (hc : hasS (M.getD 0 0) c = true) (hne : a ≠ c) (X Y Z : Nat) (hX : overS M D (ofS [a]) n = (X : Int)) (hY : overS M D (ofS [c]) n = (Y : Int)) (hZ : overS M D (ofS [a, c]) n = (Z : Int)) :
    Calls Tryd.prog 78 #[.pointer (some ⟨b, 0, none⟩), .int .i64 a, .int .i64 c] w fun e w' => e = .returned (.int .i64 (D.getD X 0 + D.getD Y 0 - 2 * D.getD Z 0 + 1)) ∧ Below w.heap.size w w' := by
  have KN := Nodes_any h h0 hA hM hl 0
  have hb0 : belowS M 0 = M.getD 0 0 := by unfold belowS; rw [if_pos ⟨by omega, by omega⟩]; rfl
  rw [hb0] at KN
  have KA := Lib.hid (fun W => has_any (M.getD 0 0) a W (hml 0))
  have KC := Lib.hid (fun W => has_any (M.getD 0 0) c W (hml 0))
  rw [ha] at KA
  rw [hc] at KC
  have K := Lib.hid KN
  have OV : Hid (∀ (s : Nat) (W : World), s < 18446744073709551616 → TT W b va vm vd A M D → Calls Tryd.prog 84 #[.pointer (some ⟨b, 0, none⟩), .int .u64 s] W fun e w' => e = .returned (.int .i64 (overS M D s n)) ∧ Below W.heap.size W w') := Lib.hid (fun s W hs hT => Over_any hT h0 hA hM hD hl s hs hml)
  have OX : Hid (∀ W : World, TT W b va vm vd A M D → Calls Tryd.prog 84 #[.pointer (some ⟨b, 0, none⟩), .int .u64 (ofS [a] : Nat)] W fun e w' => e = .returned (.int .i64 (X : Int)) ∧ Below W.heap.size W w') := Lib.hid (fun W hT => by rw [← hX]; exact OV.out _ W (ofS_lt _) hT)
  have OY : Hid (∀ W : World, TT W b va vm vd A M D → Calls Tryd.prog 84 #[.pointer (some ⟨b, 0, none⟩), .int .u64 (ofS [c] : Nat)] W fun e w' => e = .returned (.int .i64 (Y : Int)) ∧ Below W.heap.size W w') := Lib.hid (fun W hT => by rw [← hY]; exact OV.out _ W (ofS_lt _) hT)
  have OZ : Hid (∀ W : World, TT W b va vm vd A M D → Calls Tryd.prog 84 #[.pointer (some ⟨b, 0, none⟩), .int .u64 (ofS [a, c] : Nat)] W fun e w' => e = .returned (.int .i64 (Z : Int)) ∧ Below W.heap.size W w') := Lib.hid (fun W hT => by rw [← hZ]; exact OV.out _ W (ofS_lt _) hT)
  have bX := overS_in M D (ofS [a]) n
  have bY := overS_in M D (ofS [c]) n
  have bZ := overS_in M D (ofS [a, c]) n
  rw [hX] at bX
  rw [hY] at bY
  rw [hZ] at bZ
  have dX := hdp X (by omega)
  have dY := hdp Y (by omega)
  have dZ := hdp Z (by omega)
  obtain ⟨x, hx⟩ : ∃ x, D.getD X 0 = x := ⟨_, rfl⟩
  obtain ⟨y, hy⟩ : ∃ x, D.getD Y 0 = x := ⟨_, rfl⟩
  obtain ⟨z, hz⟩ : ∃ x, D.getD Z 0 = x := ⟨_, rfl⟩
  rw [hx] at dX ⊢
  rw [hy] at dY ⊢
  rw [hz] at dZ ⊢
  have HX : Hid (X < D.length ∧ D.getD X 0 = x) := Lib.hid ⟨by omega, hx⟩
  have HY : Hid (Y < D.length ∧ D.getD Y 0 = y) := Lib.hid ⟨by omega, hy⟩
  have HZ : Hid (Z < D.length ∧ D.getD Z 0 = z) := Lib.hid ⟨by omega, hz⟩
  have e1 : (a == c) = false := by simpa using hne
  obtain ⟨gd, cd, hvd, _, _, _⟩ := Kd.R_form h.r2 (by omega)
  rw [hD] at hvd
  subst hvd
  have HT := Lib.hid h
  have HB := Lib.hid (Below.refl w.heap.size w)
  obtain ⟨SX, hSX⟩ : ∃ S, ofS [a] = S := ⟨_, rfl⟩
  obtain ⟨SY, hSY⟩ : ∃ S, ofS [c] = S := ⟨_, rfl⟩
  have LX := fun W g h => one_row a g W h
  have LY := fun W g h => one_row c g W h
  rw [hSX] at OX LX
  rw [hSY] at OY LY
  have LXH := Lib.hid LX
  have LYH := Lib.hid LY
  have x0 : (0 ≤ (X : Int) ∧ (X : Int) < (n : Int)) = True := eq_true ⟨by omega, by omega⟩
  have x1 : (0 ≤ (Y : Int) ∧ (Y : Int) < (n : Int)) = True := eq_true ⟨by omega, by omega⟩
  have x2 : (0 ≤ (Z : Int) ∧ (Z : Int) < (n : Int)) = True := eq_true ⟨by omega, by omega⟩
  have y0 : ((X : Int) < (n : Int)) = True := eq_true (by omega)
  have y1 : ((Y : Int) < (n : Int)) = True := eq_true (by omega)
  have y2 : ((Z : Int) < (n : Int)) = True := eq_true (by omega)
  have xt : ((X : Int)).toNat = X := by omega
  have yt : ((Y : Int)).toNat = Y := by omega
  have zt : ((Z : Int)).toNat = Z := by omega
  have w1 : wrap64 (x + y) = x + y := by unfold wrap64; omega
  have w2 : IntKind.i64.wrap (x + y) = x + y := by rw [IntKind.wrap_i64]; omega
  have w3 : wrap64 (2 * z) = 2 * z := by unfold wrap64; omega
  have w4 : IntKind.i64.wrap (2 * z) = 2 * z := by rw [IntKind.wrap_i64]; omega
  have w5_ : wrap64 (x + y - 2 * z) = x + y - 2 * z := by unfold wrap64; omega
  have w6_ : IntKind.i64.wrap (x + y - 2 * z) = x + y - 2 * z := by rw [IntKind.wrap_i64]; omega
  have w7_ : wrap64 (x + y - 2 * z + 1) = x + y - 2 * z + 1 := by unfold wrap64; omega
  have w8_ : IntKind.i64.wrap (x + y - 2 * z + 1) = x + y - 2 * z + 1 := by rw [IntKind.wrap_i64]; omega
  obtain ⟨m0, hm0⟩ : ∃ m, M.getD 0 0 = m := ⟨_, rfl⟩
  rw [hm0] at K KA KC
  clear h KN hb0 ha hc hne hA hM hD hml hdp hX hY hZ hx hy hz hSX hSY OV LX LY bX bY bZ dX dY dZ hm0
  have tok : True := trivial
  go_enter Tryd.func78, Tryd.ntmps78
  go_upto_region 6 with (first
    | (go_at_call 83; refine K.out.mono ?_; rintro e w2 ⟨rfl, rfl⟩)
    | (go_at_call 29; with_reducible refine (KA.out _).mono ?_; rintro e w2 ⟨rfl, rfl⟩)
    | (go_at_call 29; with_reducible refine (KC.out _).mono ?_; rintro e w2 ⟨rfl, rfl⟩)
    | (go_at_call 24; refine (of_lit [a, c] _ _ rfl (by simp)).mono ?_; rintro e w2 ⟨rfl, rfl⟩)
    | (go_at_call 84; refine (OZ.out _ (HT.out.below (below_alloc (Below.refl _ _) _))).mono ?_; rintro e w3 ⟨rfl, hb⟩; have n_ := Lib.hid ((HT.out.below (below_alloc (Below.refl _ _) _)).below hb); have n2_ := Lib.hid (below_step (below_alloc HB.out _) hb); clear HT HB hb; have HT := n_; have HB := n2_; clear n_ n2_))
  refine start_ (n := 34) (S := fun w' => w'.cell? ⟨b, 2, none⟩ = some (.slice (some ⟨gd, 0, none⟩) n cd) ∧ w'.cell? ⟨gd, X, none⟩ = some (.int .i64 x) ∧ w'.cell? ⟨gd, Y, none⟩ = some (.int .i64 y) ∧ w'.cell? ⟨gd, Z, none⟩ = some (.int .i64 z)) (ds := []) #[false, false, false, false, false, false, false, false, false, false, false, false, false, false, false, false, false, false, false, false, false, false, false, false, false, false, false, false, false, false, false, false, false, false] (by kernel_rfl) rfl rfl ⟨HT.out.c2, ((HT.out.at2 X HX.out.1).1.trans (by rw [HX.out.2])), ((HT.out.at2 Y HY.out.1).1.trans (by rw [HY.out.2])), ((HT.out.at2 Z HZ.out.1).1.trans (by rw [HZ.out.2]))⟩ (fun hHeld => ?_)
  have n_ := Lib.hid HT.out.drew
  have n2_ := Lib.hid (below_drew1 HB.out)
  clear HT HB
  have HT := n_
  have HB := n2_
  clear n_ n2_
  generalize w3.drew = w5 at HT HB hHeld ⊢
  refine pure_ (i := 0) (N := some 31) (v := ?_) (a' := ?_) #[true, false, false, false, false, false, false, false, false, false, false, false, false, false, false, false, false, false, false, false, false, false, false, false, false, false, false, false, false, false, false, false, false, false] rfl rfl (by kernel_rfl) (fun _ _ _ h => h) (Or.inl ⟨by rfl, ?_⟩) ?_ ?_
  rotate_left
  · intro w'
    go_simp
    with_reducible rfl
  rotate_left
  · simp only [Act.put, List.setIfInBounds_toArray, List.set_cons_zero, List.set_cons_succ, i64_w, i32_w]
    rfl
  refine pure_ (i := 1) (N := some 32) (v := ?_) (a' := ?_) #[true, true, false, false, false, false, false, false, false, false, false, false, false, false, false, false, false, false, false, false, false, false, false, false, false, false, false, false, false, false, false, false, false, false] rfl rfl (by kernel_rfl) (fun _ _ _ h => h) (Or.inl ⟨by rfl, ?_⟩) ?_ ?_
  rotate_left
  · intro w'
    go_simp
    with_reducible rfl
  rotate_left
  · simp only [Act.put, List.setIfInBounds_toArray, List.set_cons_zero, List.set_cons_succ, i64_w, i32_w]
    rfl
  refine pure_ (i := 2) (N := some 33) (v := ?_) (a' := ?_) #[true, true, true, false, false, false, false, false, false, false, false, false, false, false, false, false, false, false, false, false, false, false, false, false, false, false, false, false, false, false, false, false, false, false] rfl rfl (by kernel_rfl) (fun _ _ _ h => h) (Or.inl ⟨by rfl, ?_⟩) ?_ ?_
  rotate_left
  · intro w'
    go_simp
    with_reducible rfl
  rotate_left
  · simp only [Act.put, List.setIfInBounds_toArray, List.set_cons_zero, List.set_cons_succ, i64_w, i32_w]
    rfl
  refine pure_ (i := 4) (N := some 35) (v := ?_) (a' := ?_) #[true, true, true, false, true, false, false, false, false, false, false, false, false, false, false, false, false, false, false, false, false, false, false, false, false, false, false, false, false, false, false, false, false, false] rfl rfl (by kernel_rfl) (fun _ _ _ h => h) (Or.inl ⟨by rfl, ?_⟩) ?_ ?_
  rotate_left
  · intro w'
    go_simp
    with_reducible rfl
  rotate_left
  · simp only [Act.put, List.setIfInBounds_toArray, List.set_cons_zero, List.set_cons_succ, i64_w, i32_w]
    rfl
  refine pure_ (i := 5) (N := some 36) (v := ?_) (a' := ?_) #[true, true, true, false, true, true, false, false, false, false, false, false, false, false, false, false, false, false, false, false, false, false, false, false, false, false, false, false, false, false, false, false, false, false] rfl rfl (by kernel_rfl) (fun _ _ _ h => h) (Or.inl ⟨by rfl, ?_⟩) ?_ ?_
  rotate_left
  · intro w'
    go_simp
    with_reducible rfl
  rotate_left
  · simp only [Act.put, List.setIfInBounds_toArray, List.set_cons_zero, List.set_cons_succ, i64_w, i32_w]
    rfl
  refine pure_ (i := 11) (N := some 42) (v := ?_) (a' := ?_) #[true, true, true, false, true, true, false, false, false, false, false, true, false, false, false, false, false, false, false, false, false, false, false, false, false, false, false, false, false, false, false, false, false, false] rfl rfl (by kernel_rfl) (fun _ _ _ h => h) (Or.inl ⟨by rfl, ?_⟩) ?_ ?_
  rotate_left
  · intro w'
    go_simp
    with_reducible rfl
  rotate_left
  · simp only [Act.put, List.setIfInBounds_toArray, List.set_cons_zero, List.set_cons_succ, i64_w, i32_w]
    rfl
  refine pure_ (i := 12) (N := some 43) (v := ?_) (a' := ?_) #[true, true, true, false, true, true, false, false, false, false, false, true, true, false, false, false, false, false, false, false, false, false, false, false, false, false, false, false, false, false, false, false, false, false] rfl rfl (by kernel_rfl) (fun _ _ _ h => h) (Or.inl ⟨by rfl, ?_⟩) ?_ ?_
  rotate_left
  · intro w'
    go_simp
    with_reducible rfl
  rotate_left
  · simp only [Act.put, List.setIfInBounds_toArray, List.set_cons_zero, List.set_cons_succ, i64_w, i32_w]
    rfl
  refine pure_ (i := 13) (N := some 44) (v := ?_) (a' := ?_) #[true, true, true, false, true, true, false, false, false, false, false, true, true, true, false, false, false, false, false, false, false, false, false, false, false, false, false, false, false, false, false, false, false, false] rfl rfl (by kernel_rfl) (fun _ _ _ h => h) (Or.inl ⟨by rfl, ?_⟩) ?_ ?_
  rotate_left
  · intro w'
    go_simp
    with_reducible rfl
  rotate_left
  · simp only [Act.put, List.setIfInBounds_toArray, List.set_cons_zero, List.set_cons_succ, i64_w, i32_w]
    rfl
  refine pure_ (i := 15) (N := some 46) (v := ?_) (a' := ?_) #[true, true, true, false, true, true, false, false, false, false, false, true, true, true, false, true, false, false, false, false, false, false, false, false, false, false, false, false, false, false, false, false, false, false] rfl rfl (by kernel_rfl) (fun _ _ _ h => h) (Or.inl ⟨by rfl, ?_⟩) ?_ ?_
  rotate_left
  · intro w'
    go_simp
    with_reducible rfl
  rotate_left
  · simp only [Act.put, List.setIfInBounds_toArray, List.set_cons_zero, List.set_cons_succ, i64_w, i32_w]
    rfl
  refine pure_ (i := 16) (N := some 47) (v := ?_) (a' := ?_) #[true, true, true, false, true, true, false, false, false, false, false, true, true, true, false, true, true, false, false, false, false, false, false, false, false, false, false, false, false, false, false, false, false, false] rfl rfl (by kernel_rfl) (fun _ _ _ h => h) (Or.inl ⟨by rfl, ?_⟩) ?_ ?_
  rotate_left
  · intro w'
    go_simp
    with_reducible rfl
  rotate_left
  · simp only [Act.put, List.setIfInBounds_toArray, List.set_cons_zero, List.set_cons_succ, i64_w, i32_w]
    rfl
  refine pure_ (i := 23) (N := some 54) (v := ?_) (a' := ?_) #[true, true, true, false, true, true, false, false, false, false, false, true, true, true, false, true, true, false, false, false, false, false, false, true, false, false, false, false, false, false, false, false, false, false] rfl rfl (by kernel_rfl) (fun _ _ _ h => h) (Or.inl ⟨by rfl, ?_⟩) ?_ ?_
  rotate_left
  · intro w'
    go_simp
    with_reducible rfl
  rotate_left
  · simp only [Act.put, List.setIfInBounds_toArray, List.set_cons_zero, List.set_cons_succ, i64_w, i32_w]
    rfl
  refine pure_ (i := 24) (N := some 55) (v := ?_) (a' := ?_) #[true, true, true, false, true, true, false, false, false, false, false, true, true, true, false, true, true, false, false, false, false, false, false, true, true, false, false, false, false, false, false, false, false, false] rfl rfl (by kernel_rfl) (fun _ _ _ h => h) (Or.inl ⟨by rfl, ?_⟩) ?_ ?_
  rotate_left
  · intro w'
    go_simp
    with_reducible rfl
  rotate_left
  · simp only [Act.put, List.setIfInBounds_toArray, List.set_cons_zero, List.set_cons_succ, i64_w, i32_w]
    rfl
  refine pure_ (i := 25) (N := some 56) (v := ?_) (a' := ?_) #[true, true, true, false, true, true, false, false, false, false, false, true, true, true, false, true, true, false, false, false, false, false, false, true, true, true, false, false, false, false, false, false, false, false] rfl rfl (by kernel_rfl) (fun _ _ _ h => h) (Or.inl ⟨by rfl, ?_⟩) ?_ ?_
  rotate_left
  · intro w'
    go_simp
    with_reducible rfl
  rotate_left
  · simp only [Act.put, List.setIfInBounds_toArray, List.set_cons_zero, List.set_cons_succ, i64_w, i32_w]
    rfl
  refine pure_ (i := 27) (N := some 58) (v := ?_) (a' := ?_) #[true, true, true, false, true, true, false, false, false, false, false, true, true, true, false, true, true, false, false, false, false, false, false, true, true, true, false, true, false, false, false, false, false, false] rfl rfl (by kernel_rfl) (fun _ _ _ h => h) (Or.inl ⟨by rfl, ?_⟩) ?_ ?_
  rotate_left
  · intro w'
    go_simp
    with_reducible rfl
  rotate_left
  · simp only [Act.put, List.setIfInBounds_toArray, List.set_cons_zero, List.set_cons_succ, i64_w, i32_w]
    rfl
  refine take_ (i := 3) (N := some 34) (v := ?_) (a' := ?_) #[true, true, true, true, true, true, false, false, false, false, false, true, true, true, false, true, true, false, false, false, false, false, false, true, true, true, false, true, false, false, false, false, false, false] rfl rfl (by kernel_rfl) (fun _ _ _ h => h) (Or.inl ⟨by rfl, ?_⟩) hHeld ?_ ?_
  rotate_left
  · rintro w' ⟨s0, s1, s2, s3⟩
    go_simp
    with_reducible rfl
  rotate_left
  · simp only [Act.put, List.setIfInBounds_toArray, List.set_cons_zero, List.set_cons_succ, i64_w, i32_w]
    rfl
  refine take_ (i := 14) (N := some 45) (v := ?_) (a' := ?_) #[true, true, true, true, true, true, false, false, false, false, false, true, true, true, true, true, true, false, false, false, false, false, false, true, true, true, false, true, false, false, false, false, false, false] rfl rfl (by kernel_rfl) (fun _ _ _ h => h) (Or.inl ⟨by rfl, ?_⟩) hHeld ?_ ?_
  rotate_left
  · rintro w' ⟨s0, s1, s2, s3⟩
    go_simp
    with_reducible rfl
  rotate_left
  · simp only [Act.put, List.setIfInBounds_toArray, List.set_cons_zero, List.set_cons_succ, i64_w, i32_w]
    rfl
  refine take_ (i := 26) (N := some 57) (v := ?_) (a' := ?_) #[true, true, true, true, true, true, false, false, false, false, false, true, true, true, true, true, true, false, false, false, false, false, false, true, true, true, true, true, false, false, false, false, false, false] rfl rfl (by kernel_rfl) (fun _ _ _ h => h) (Or.inl ⟨by rfl, ?_⟩) hHeld ?_ ?_
  rotate_left
  · rintro w' ⟨s0, s1, s2, s3⟩
    go_simp
    with_reducible rfl
  rotate_left
  · simp only [Act.put, List.setIfInBounds_toArray, List.set_cons_zero, List.set_cons_succ, i64_w, i32_w]
    rfl
  refine pure_ (i := 28) (N := some 59) (v := ?_) (a' := ?_) #[true, true, true, true, true, true, false, false, false, false, false, true, true, true, true, true, true, false, false, false, false, false, false, true, true, true, true, true, true, false, false, false, false, false] rfl rfl (by kernel_rfl) (fun _ _ _ h => h) (Or.inl ⟨by rfl, ?_⟩) ?_ ?_
  rotate_left
  · intro w'
    go_simp
    with_reducible rfl
  rotate_left
  · simp only [Act.put, List.setIfInBounds_toArray, List.set_cons_zero, List.set_cons_succ, i64_w, i32_w]
    rfl
  refine take_ (i := 29) (N := some 60) (v := ?_) (a' := ?_) #[true, true, true, true, true, true, false, false, false, false, false, true, true, true, true, true, true, false, false, false, false, false, false, true, true, true, true, true, true, true, false, false, false, false] rfl rfl (by kernel_rfl) (fun _ _ _ h => h) (Or.inl ⟨by rfl, ?_⟩) hHeld ?_ ?_
  rotate_left
  · rintro w' ⟨s0, s1, s2, s3⟩
    go_simp
    with_reducible rfl
  rotate_left
  · simp only [Act.put, List.setIfInBounds_toArray, List.set_cons_zero, List.set_cons_succ, i64_w, i32_w]
    rfl
  refine pure_ (i := 30) (N := some 61) (v := ?_) (a' := ?_) #[true, true, true, true, true, true, false, false, false, false, false, true, true, true, true, true, true, false, false, false, false, false, false, true, true, true, true, true, true, true, true, false, false, false] rfl rfl (by kernel_rfl) (fun _ _ _ h => h) (Or.inl ⟨by rfl, ?_⟩) ?_ ?_
  rotate_left
  · intro w'
    go_simp
    with_reducible rfl
  rotate_left
  · simp only [Act.put, List.setIfInBounds_toArray, List.set_cons_zero, List.set_cons_succ, i64_w, i32_w]
    rfl
  refine join_ (σ := Value × Value) 8 #[true, true, true, true, true, true, true, true, true, true, true, true, true, true, true, true, true, true, false, false, false, false, false, true, true, true, true, true, true, true, true, false, false, false] (fun s => [(37, s.1), (38, .int .u64 (SX : Int)), (39, .int .i64 (X : Int)), (40, .pointer (some ⟨gd, X, none⟩)), (41, .int .i64 x), (48, s.2)]) (fun s w' => (∃ g2, s.2 = .slice (some ⟨g2, 0, none⟩) 1 1 ∧ w'.heap[g2]? = some (.cells #[.int .i64 c] 3 (0, 0))) ∧ TT w' b va vm (.slice (some ⟨gd, 0, none⟩) n cd) A M D ∧ Below w.heap.size w w') ?_ ?_
  rotate_left
  · intro hCont
    refine two_ (i := 6) (j := 17) (Ni := some 37) (Nj := some 48) #[true, true, true, true, true, true, true, false, false, false, false, true, true, true, true, true, true, false, false, false, false, false, false, true, true, true, true, true, true, true, true, false, false, false] #[true, true, true, true, true, true, false, false, false, false, false, true, true, true, true, true, true, true, false, false, false, false, false, true, true, true, true, true, true, true, true, false, false, false] rfl rfl rfl rfl (by kernel_rfl) (by decide) (by decide) (fun K hK => ?_) (fun K hK => ?_)
    · skip
      refine value_ (w1 := ?_) (v := ?_) (by rfl) rfl ?_ ?_
      rotate_left 2
      · go_simp
        constructor
        · rfl
        · rfl
      have c1_ := blk_new w5 (.cells #[.int .i64 a] 3)
      have n_ := Lib.hid (HT.out.below (below_alloc (Below.refl _ _) (.cells #[.int .i64 a] 3)))
      have n2_ := Lib.hid (below_alloc HB.out (.cells #[.int .i64 a] 3))
      clear HT HB
      have HT := n_
      have HB := n2_
      clear n_ n2_
      generalize w5.alloc (.cells #[.int .i64 a] 3) = wA at c1_ HT HB ⊢
      generalize w5.heap.size = g1 at c1_ ⊢
      refine hK.out _ _ ⟨HT.out.c2, ((HT.out.at2 X HX.out.1).1.trans (by rw [HX.out.2])), ((HT.out.at2 Y HY.out.1).1.trans (by rw [HY.out.2])), ((HT.out.at2 Z HZ.out.1).1.trans (by rw [HZ.out.2]))⟩ (fun hHeld => ?_)
      clear hK K
      refine norm_ (a' := ?_) ?_ ?_
      rotate_left
      · show Act.put _ (some 37) _ = _
        simp only [Act.put, List.setIfInBounds_toArray, List.set_cons_zero, List.set_cons_succ, i64_w, i32_w]
        rfl
      refine two_ (i := 7) (j := 17) (Ni := some 38) (Nj := some 48) #[true, true, true, true, true, true, true, true, false, false, false, true, true, true, true, true, true, false, false, false, false, false, false, true, true, true, true, true, true, true, true, false, false, false] #[true, true, true, true, true, true, true, false, false, false, false, true, true, true, true, true, true, true, false, false, false, false, false, true, true, true, true, true, true, true, true, false, false, false] rfl rfl rfl rfl (by kernel_rfl) (by decide) (by decide) (fun K hK => ?_) (fun K hK => ?_)
      · skip
        refine goes_ Tryd.func24 (by kernel_rfl) rfl #[.slice (some ⟨g1, 0, none⟩) 1 1] (by rfl) rfl rfl (by (try simp only [List.map_toArray, List.map_cons, List.map_nil]); first | done | rfl | (simp only [List.length_drop, List.length_take]; rfl)) ?_
        with_reducible refine (LXH.out _ g1 c1_).mono ?_
        rintro e w6 ⟨rfl, rfl⟩
        refine ⟨_, rfl, ?_⟩
        clear c1_
        refine hK.out _ _ ⟨HT.out.c2, ((HT.out.at2 X HX.out.1).1.trans (by rw [HX.out.2])), ((HT.out.at2 Y HY.out.1).1.trans (by rw [HY.out.2])), ((HT.out.at2 Z HZ.out.1).1.trans (by rw [HZ.out.2]))⟩ (fun hHeld => ?_)
        clear hK K
        refine norm_ (a' := ?_) ?_ ?_
        rotate_left
        · show Act.put _ (some 38) _ = _
          simp only [Act.put, List.setIfInBounds_toArray, List.set_cons_zero, List.set_cons_succ, i64_w, i32_w]
          rfl
        refine two_ (i := 8) (j := 17) (Ni := some 39) (Nj := some 48) #[true, true, true, true, true, true, true, true, true, false, false, true, true, true, true, true, true, false, false, false, false, false, false, true, true, true, true, true, true, true, true, false, false, false] #[true, true, true, true, true, true, true, true, false, false, false, true, true, true, true, true, true, true, false, false, false, false, false, true, true, true, true, true, true, true, true, false, false, false] rfl rfl rfl rfl (by kernel_rfl) (by decide) (by decide) (fun K hK => ?_) (fun K hK => ?_)
        · skip
          refine goes_ Tryd.func84 (by kernel_rfl) rfl #[.pointer (some ⟨b, 0, none⟩), .int .u64 (SX : Int)] (by rfl) rfl rfl (by (try simp only [List.map_toArray, List.map_cons, List.map_nil]); first | done | rfl | (simp only [List.length_drop, List.length_take]; rfl)) ?_
          with_reducible refine (OX.out _ HT.out).mono ?_
          rintro e wE ⟨rfl, hb⟩
          refine ⟨_, rfl, ?_⟩
          have n_ := Lib.hid (HT.out.below hb)
          have n2_ := Lib.hid (below_step HB.out hb)
          clear HT HB
          have HT := n_
          have HB := n2_
          clear n_ n2_
          clear hb
          refine hK.out _ _ ⟨HT.out.c2, ((HT.out.at2 X HX.out.1).1.trans (by rw [HX.out.2])), ((HT.out.at2 Y HY.out.1).1.trans (by rw [HY.out.2])), ((HT.out.at2 Z HZ.out.1).1.trans (by rw [HZ.out.2]))⟩ (fun hHeld => ?_)
          clear hK K
          refine norm_ (a' := ?_) ?_ ?_
          rotate_left
          · show Act.put _ (some 39) _ = _
            simp only [Act.put, List.setIfInBounds_toArray, List.set_cons_zero, List.set_cons_succ, i64_w, i32_w]
            rfl
          refine pure_ (i := 9) (N := some 40) (v := ?_) (a' := ?_) #[true, true, true, true, true, true, true, true, true, true, false, true, true, true, true, true, true, false, false, false, false, false, false, true, true, true, true, true, true, true, true, false, false, false] rfl rfl (by kernel_rfl) (fun _ _ _ h => h) (Or.inl ⟨by rfl, ?_⟩) ?_ ?_
          rotate_left
          · intro w'
            go_simp
            with_reducible rfl
          rotate_left
          · simp only [Act.put, List.setIfInBounds_toArray, List.set_cons_zero, List.set_cons_succ, i64_w, i32_w]
            rfl
          refine take_ (i := 10) (N := some 41) (v := ?_) (a' := ?_) #[true, true, true, true, true, true, true, true, true, true, true, true, true, true, true, true, true, false, false, false, false, false, false, true, true, true, true, true, true, true, true, false, false, false] rfl rfl (by kernel_rfl) (fun _ _ _ h => h) (Or.inl ⟨by rfl, ?_⟩) hHeld ?_ ?_
          rotate_left
          · rintro w' ⟨s0, s1, s2, s3⟩
            go_simp
            with_reducible rfl
          rotate_left
          · simp only [Act.put, List.setIfInBounds_toArray, List.set_cons_zero, List.set_cons_succ, i64_w, i32_w]
            rfl
          refine one_ (i := 17) (N := some 48) #[true, true, true, true, true, true, true, true, true, true, true, true, true, true, true, true, true, true, false, false, false, false, false, true, true, true, true, true, true, true, true, false, false, false] rfl rfl (by kernel_rfl) (by decide) (fun K hK => ?_)
          refine value_ (w1 := ?_) (v := ?_) (by rfl) rfl ?_ ?_
          rotate_left 2
          · go_simp
            constructor
            · rfl
            · rfl
          have c2_ := blk_new wE (.cells #[.int .i64 c] 3)
          have n_ := Lib.hid (HT.out.below (below_alloc (Below.refl _ _) (.cells #[.int .i64 c] 3)))
          have n2_ := Lib.hid (below_alloc HB.out (.cells #[.int .i64 c] 3))
          clear HT HB
          have HT := n_
          have HB := n2_
          clear n_ n2_
          generalize wE.alloc (.cells #[.int .i64 c] 3) = wC at c2_ HT HB ⊢
          generalize wE.heap.size = g2 at c2_ ⊢
          refine hK.out _ _ ⟨HT.out.c2, ((HT.out.at2 X HX.out.1).1.trans (by rw [HX.out.2])), ((HT.out.at2 Y HY.out.1).1.trans (by rw [HY.out.2])), ((HT.out.at2 Z HZ.out.1).1.trans (by rw [HZ.out.2]))⟩ (fun hHeld => ?_)
          clear hK K
          refine norm_ (a' := ?_) ?_ ?_
          rotate_left
          · show Act.put _ (some 48) _ = _
            simp only [Act.put, List.setIfInBounds_toArray, List.set_cons_zero, List.set_cons_succ, i64_w, i32_w]
            rfl
          exact norm_ (by simp only [putAll, Act.put, List.setIfInBounds_toArray, List.set_cons_zero, List.set_cons_succ]) (hCont (.slice (some ⟨g1, 0, none⟩) 1 1, .slice (some ⟨g2, 0, none⟩) 1 1) _ ⟨⟨g2, rfl, c2_⟩, HT.out, HB.out⟩)
        · skip
          refine value_ (w1 := ?_) (v := ?_) (by rfl) rfl ?_ ?_
          rotate_left 2
          · go_simp
            constructor
            · rfl
            · rfl
          have c2_ := blk_new wA (.cells #[.int .i64 c] 3)
          have n_ := Lib.hid (HT.out.below (below_alloc (Below.refl _ _) (.cells #[.int .i64 c] 3)))
          have n2_ := Lib.hid (below_alloc HB.out (.cells #[.int .i64 c] 3))
          clear HT HB
          have HT := n_
          have HB := n2_
          clear n_ n2_
          generalize wA.alloc (.cells #[.int .i64 c] 3) = wC at c2_ HT HB ⊢
          generalize wA.heap.size = g2 at c2_ ⊢
          refine hK.out _ _ ⟨HT.out.c2, ((HT.out.at2 X HX.out.1).1.trans (by rw [HX.out.2])), ((HT.out.at2 Y HY.out.1).1.trans (by rw [HY.out.2])), ((HT.out.at2 Z HZ.out.1).1.trans (by rw [HZ.out.2]))⟩ (fun hHeld => ?_)
          clear hK K
          refine norm_ (a' := ?_) ?_ ?_
          rotate_left
          · show Act.put _ (some 48) _ = _
            simp only [Act.put, List.setIfInBounds_toArray, List.set_cons_zero, List.set_cons_succ, i64_w, i32_w]
            rfl
          refine one_ (i := 8) (N := some 39) #[true, true, true, true, true, true, true, true, true, false, false, true, true, true, true, true, true, true, false, false, false, false, false, true, true, true, true, true, true, true, true, false, false, false] rfl rfl (by kernel_rfl) (by decide) (fun K hK => ?_)
          refine goes_ Tryd.func84 (by kernel_rfl) rfl #[.pointer (some ⟨b, 0, none⟩), .int .u64 (SX : Int)] (by rfl) rfl rfl (by (try simp only [List.map_toArray, List.map_cons, List.map_nil]); first | done | rfl | (simp only [List.length_drop, List.length_take]; rfl)) ?_
          with_reducible refine (OX.out _ HT.out).mono ?_
          rintro e wE ⟨rfl, hb⟩
          refine ⟨_, rfl, ?_⟩
          have n3_ := (hb.block g2 (blk_lt c2_)).trans c2_
          clear c2_
          have c2_ := n3_
          clear n3_
          have n_ := Lib.hid (HT.out.below hb)
          have n2_ := Lib.hid (below_step HB.out hb)
          clear HT HB
          have HT := n_
          have HB := n2_
          clear n_ n2_
          clear hb
          refine hK.out _ _ ⟨HT.out.c2, ((HT.out.at2 X HX.out.1).1.trans (by rw [HX.out.2])), ((HT.out.at2 Y HY.out.1).1.trans (by rw [HY.out.2])), ((HT.out.at2 Z HZ.out.1).1.trans (by rw [HZ.out.2]))⟩ (fun hHeld => ?_)
          clear hK K
          refine norm_ (a' := ?_) ?_ ?_
          rotate_left
          · show Act.put _ (some 39) _ = _
            simp only [Act.put, List.setIfInBounds_toArray, List.set_cons_zero, List.set_cons_succ, i64_w, i32_w]
            rfl
          refine pure_ (i := 9) (N := some 40) (v := ?_) (a' := ?_) #[true, true, true, true, true, true, true, true, true, true, false, true, true, true, true, true, true, true, false, false, false, false, false, true, true, true, true, true, true, true, true, false, false, false] rfl rfl (by kernel_rfl) (fun _ _ _ h => h) (Or.inl ⟨by rfl, ?_⟩) ?_ ?_
          rotate_left
          · intro w'
            go_simp
            with_reducible rfl
          rotate_left
          · simp only [Act.put, List.setIfInBounds_toArray, List.set_cons_zero, List.set_cons_succ, i64_w, i32_w]
            rfl
          refine take_ (i := 10) (N := some 41) (v := ?_) (a' := ?_) #[true, true, true, true, true, true, true, true, true, true, true, true, true, true, true, true, true, true, false, false, false, false, false, true, true, true, true, true, true, true, true, false, false, false] rfl rfl (by kernel_rfl) (fun _ _ _ h => h) (Or.inl ⟨by rfl, ?_⟩) hHeld ?_ ?_
          rotate_left
          · rintro w' ⟨s0, s1, s2, s3⟩
            go_simp
            with_reducible rfl
          rotate_left
          · simp only [Act.put, List.setIfInBounds_toArray, List.set_cons_zero, List.set_cons_succ, i64_w, i32_w]
            rfl
          exact norm_ (by simp only [putAll, Act.put, List.setIfInBounds_toArray, List.set_cons_zero, List.set_cons_succ]) (hCont (.slice (some ⟨g1, 0, none⟩) 1 1, .slice (some ⟨g2, 0, none⟩) 1 1) _ ⟨⟨g2, rfl, c2_⟩, HT.out, HB.out⟩)
      · skip
        refine value_ (w1 := ?_) (v := ?_) (by rfl) rfl ?_ ?_
        rotate_left 2
        · go_simp
          constructor
          · rfl
          · rfl
        have c2_ := blk_new wA (.cells #[.int .i64 c] 3)
        have n3_ := blk_alloc c1_ (.cells #[.int .i64 c] 3)
        clear c1_
        have c1_ := n3_
        clear n3_
        have n_ := Lib.hid (HT.out.below (below_alloc (Below.refl _ _) (.cells #[.int .i64 c] 3)))
        have n2_ := Lib.hid (below_alloc HB.out (.cells #[.int .i64 c] 3))
        clear HT HB
        have HT := n_
        have HB := n2_
        clear n_ n2_
        generalize wA.alloc (.cells #[.int .i64 c] 3) = wC at c2_ c1_ HT HB ⊢
        generalize wA.heap.size = g2 at c2_ ⊢
        refine hK.out _ _ ⟨HT.out.c2, ((HT.out.at2 X HX.out.1).1.trans (by rw [HX.out.2])), ((HT.out.at2 Y HY.out.1).1.trans (by rw [HY.out.2])), ((HT.out.at2 Z HZ.out.1).1.trans (by rw [HZ.out.2]))⟩ (fun hHeld => ?_)
        clear hK K
        refine norm_ (a' := ?_) ?_ ?_
        rotate_left
        · show Act.put _ (some 48) _ = _
          simp only [Act.put, List.setIfInBounds_toArray, List.set_cons_zero, List.set_cons_succ, i64_w, i32_w]
          rfl
        refine one_ (i := 7) (N := some 38) #[true, true, true, true, true, true, true, true, false, false, false, true, true, true, true, true, true, true, false, false, false, false, false, true, true, true, true, true, true, true, true, false, false, false] rfl rfl (by kernel_rfl) (by decide) (fun K hK => ?_)
        refine goes_ Tryd.func24 (by kernel_rfl) rfl #[.slice (some ⟨g1, 0, none⟩) 1 1] (by rfl) rfl rfl (by (try simp only [List.map_toArray, List.map_cons, List.map_nil]); first | done | rfl | (simp only [List.length_drop, List.length_take]; rfl)) ?_
        with_reducible refine (LXH.out _ g1 c1_).mono ?_
        rintro e w6 ⟨rfl, rfl⟩
        refine ⟨_, rfl, ?_⟩
        clear c1_
        refine hK.out _ _ ⟨HT.out.c2, ((HT.out.at2 X HX.out.1).1.trans (by rw [HX.out.2])), ((HT.out.at2 Y HY.out.1).1.trans (by rw [HY.out.2])), ((HT.out.at2 Z HZ.out.1).1.trans (by rw [HZ.out.2]))⟩ (fun hHeld => ?_)
        clear hK K
        refine norm_ (a' := ?_) ?_ ?_
        rotate_left
        · show Act.put _ (some 38) _ = _
          simp only [Act.put, List.setIfInBounds_toArray, List.set_cons_zero, List.set_cons_succ, i64_w, i32_w]
          rfl
        refine one_ (i := 8) (N := some 39) #[true, true, true, true, true, true, true, true, true, false, false, true, true, true, true, true, true, true, false, false, false, false, false, true, true, true, true, true, true, true, true, false, false, false] rfl rfl (by kernel_rfl) (by decide) (fun K hK => ?_)
        refine goes_ Tryd.func84 (by kernel_rfl) rfl #[.pointer (some ⟨b, 0, none⟩), .int .u64 (SX : Int)] (by rfl) rfl rfl (by (try simp only [List.map_toArray, List.map_cons, List.map_nil]); first | done | rfl | (simp only [List.length_drop, List.length_take]; rfl)) ?_
        with_reducible refine (OX.out _ HT.out).mono ?_
        rintro e wE ⟨rfl, hb⟩
        refine ⟨_, rfl, ?_⟩
        have n3_ := (hb.block g2 (blk_lt c2_)).trans c2_
        clear c2_
        have c2_ := n3_
        clear n3_
        have n_ := Lib.hid (HT.out.below hb)
        have n2_ := Lib.hid (below_step HB.out hb)
        clear HT HB
        have HT := n_
        have HB := n2_
        clear n_ n2_
        clear hb
        refine hK.out _ _ ⟨HT.out.c2, ((HT.out.at2 X HX.out.1).1.trans (by rw [HX.out.2])), ((HT.out.at2 Y HY.out.1).1.trans (by rw [HY.out.2])), ((HT.out.at2 Z HZ.out.1).1.trans (by rw [HZ.out.2]))⟩ (fun hHeld => ?_)
        clear hK K
        refine norm_ (a' := ?_) ?_ ?_
        rotate_left
        · show Act.put _ (some 39) _ = _
          simp only [Act.put, List.setIfInBounds_toArray, List.set_cons_zero, List.set_cons_succ, i64_w, i32_w]
          rfl
        refine pure_ (i := 9) (N := some 40) (v := ?_) (a' := ?_) #[true, true, true, true, true, true, true, true, true, true, false, true, true, true, true, true, true, true, false, false, false, false, false, true, true, true, true, true, true, true, true, false, false, false] rfl rfl (by kernel_rfl) (fun _ _ _ h => h) (Or.inl ⟨by rfl, ?_⟩) ?_ ?_
        rotate_left
        · intro w'
          go_simp
          with_reducible rfl
        rotate_left
        · simp only [Act.put, List.setIfInBounds_toArray, List.set_cons_zero, List.set_cons_succ, i64_w, i32_w]
          rfl
        refine take_ (i := 10) (N := some 41) (v := ?_) (a' := ?_) #[true, true, true, true, true, true, true, true, true, true, true, true, true, true, true, true, true, true, false, false, false, false, false, true, true, true, true, true, true, true, true, false, false, false] rfl rfl (by kernel_rfl) (fun _ _ _ h => h) (Or.inl ⟨by rfl, ?_⟩) hHeld ?_ ?_
        rotate_left
        · rintro w' ⟨s0, s1, s2, s3⟩
          go_simp
          with_reducible rfl
        rotate_left
        · simp only [Act.put, List.setIfInBounds_toArray, List.set_cons_zero, List.set_cons_succ, i64_w, i32_w]
          rfl
        exact norm_ (by simp only [putAll, Act.put, List.setIfInBounds_toArray, List.set_cons_zero, List.set_cons_succ]) (hCont (.slice (some ⟨g1, 0, none⟩) 1 1, .slice (some ⟨g2, 0, none⟩) 1 1) _ ⟨⟨g2, rfl, c2_⟩, HT.out, HB.out⟩)
    · skip
      refine value_ (w1 := ?_) (v := ?_) (by rfl) rfl ?_ ?_
      rotate_left 2
      · go_simp
        constructor
        · rfl
        · rfl
      have c2_ := blk_new w5 (.cells #[.int .i64 c] 3)
      have n_ := Lib.hid (HT.out.below (below_alloc (Below.refl _ _) (.cells #[.int .i64 c] 3)))
      have n2_ := Lib.hid (below_alloc HB.out (.cells #[.int .i64 c] 3))
      clear HT HB
      have HT := n_
      have HB := n2_
      clear n_ n2_
      generalize w5.alloc (.cells #[.int .i64 c] 3) = wC at c2_ HT HB ⊢
      generalize w5.heap.size = g2 at c2_ ⊢
      refine hK.out _ _ ⟨HT.out.c2, ((HT.out.at2 X HX.out.1).1.trans (by rw [HX.out.2])), ((HT.out.at2 Y HY.out.1).1.trans (by rw [HY.out.2])), ((HT.out.at2 Z HZ.out.1).1.trans (by rw [HZ.out.2]))⟩ (fun hHeld => ?_)
      clear hK K
      refine norm_ (a' := ?_) ?_ ?_
      rotate_left
      · show Act.put _ (some 48) _ = _
        simp only [Act.put, List.setIfInBounds_toArray, List.set_cons_zero, List.set_cons_succ, i64_w, i32_w]
        rfl
      refine one_ (i := 6) (N := some 37) #[true, true, true, true, true, true, true, false, false, false, false, true, true, true, true, true, true, true, false, false, false, false, false, true, true, true, true, true, true, true, true, false, false, false] rfl rfl (by kernel_rfl) (by decide) (fun K hK => ?_)
      refine value_ (w1 := ?_) (v := ?_) (by rfl) rfl ?_ ?_
      rotate_left 2
      · go_simp
        constructor
        · rfl
        · rfl
      have c1_ := blk_new wC (.cells #[.int .i64 a] 3)
      have n3_ := blk_alloc c2_ (.cells #[.int .i64 a] 3)
      clear c2_
      have c2_ := n3_
      clear n3_
      have n_ := Lib.hid (HT.out.below (below_alloc (Below.refl _ _) (.cells #[.int .i64 a] 3)))
      have n2_ := Lib.hid (below_alloc HB.out (.cells #[.int .i64 a] 3))
      clear HT HB
      have HT := n_
      have HB := n2_
      clear n_ n2_
      generalize wC.alloc (.cells #[.int .i64 a] 3) = wA at c1_ c2_ HT HB ⊢
      generalize wC.heap.size = g1 at c1_ ⊢
      refine hK.out _ _ ⟨HT.out.c2, ((HT.out.at2 X HX.out.1).1.trans (by rw [HX.out.2])), ((HT.out.at2 Y HY.out.1).1.trans (by rw [HY.out.2])), ((HT.out.at2 Z HZ.out.1).1.trans (by rw [HZ.out.2]))⟩ (fun hHeld => ?_)
      clear hK K
      refine norm_ (a' := ?_) ?_ ?_
      rotate_left
      · show Act.put _ (some 37) _ = _
        simp only [Act.put, List.setIfInBounds_toArray, List.set_cons_zero, List.set_cons_succ, i64_w, i32_w]
        rfl
      refine one_ (i := 7) (N := some 38) #[true, true, true, true, true, true, true, true, false, false, false, true, true, true, true, true, true, true, false, false, false, false, false, true, true, true, true, true, true, true, true, false, false, false] rfl rfl (by kernel_rfl) (by decide) (fun K hK => ?_)
      refine goes_ Tryd.func24 (by kernel_rfl) rfl #[.slice (some ⟨g1, 0, none⟩) 1 1] (by rfl) rfl rfl (by (try simp only [List.map_toArray, List.map_cons, List.map_nil]); first | done | rfl | (simp only [List.length_drop, List.length_take]; rfl)) ?_
      with_reducible refine (LXH.out _ g1 c1_).mono ?_
      rintro e w6 ⟨rfl, rfl⟩
      refine ⟨_, rfl, ?_⟩
      clear c1_
      refine hK.out _ _ ⟨HT.out.c2, ((HT.out.at2 X HX.out.1).1.trans (by rw [HX.out.2])), ((HT.out.at2 Y HY.out.1).1.trans (by rw [HY.out.2])), ((HT.out.at2 Z HZ.out.1).1.trans (by rw [HZ.out.2]))⟩ (fun hHeld => ?_)
      clear hK K
      refine norm_ (a' := ?_) ?_ ?_
      rotate_left
      · show Act.put _ (some 38) _ = _
        simp only [Act.put, List.setIfInBounds_toArray, List.set_cons_zero, List.set_cons_succ, i64_w, i32_w]
        rfl
      refine one_ (i := 8) (N := some 39) #[true, true, true, true, true, true, true, true, true, false, false, true, true, true, true, true, true, true, false, false, false, false, false, true, true, true, true, true, true, true, true, false, false, false] rfl rfl (by kernel_rfl) (by decide) (fun K hK => ?_)
      refine goes_ Tryd.func84 (by kernel_rfl) rfl #[.pointer (some ⟨b, 0, none⟩), .int .u64 (SX : Int)] (by rfl) rfl rfl (by (try simp only [List.map_toArray, List.map_cons, List.map_nil]); first | done | rfl | (simp only [List.length_drop, List.length_take]; rfl)) ?_
      with_reducible refine (OX.out _ HT.out).mono ?_
      rintro e wE ⟨rfl, hb⟩
      refine ⟨_, rfl, ?_⟩
      have n3_ := (hb.block g2 (blk_lt c2_)).trans c2_
      clear c2_
      have c2_ := n3_
      clear n3_
      have n_ := Lib.hid (HT.out.below hb)
      have n2_ := Lib.hid (below_step HB.out hb)
      clear HT HB
      have HT := n_
      have HB := n2_
      clear n_ n2_
      clear hb
      refine hK.out _ _ ⟨HT.out.c2, ((HT.out.at2 X HX.out.1).1.trans (by rw [HX.out.2])), ((HT.out.at2 Y HY.out.1).1.trans (by rw [HY.out.2])), ((HT.out.at2 Z HZ.out.1).1.trans (by rw [HZ.out.2]))⟩ (fun hHeld => ?_)
      clear hK K
      refine norm_ (a' := ?_) ?_ ?_
      rotate_left
      · show Act.put _ (some 39) _ = _
        simp only [Act.put, List.setIfInBounds_toArray, List.set_cons_zero, List.set_cons_succ, i64_w, i32_w]
        rfl
      refine pure_ (i := 9) (N := some 40) (v := ?_) (a' := ?_) #[true, true, true, true, true, true, true, true, true, true, false, true, true, true, true, true, true, true, false, false, false, false, false, true, true, true, true, true, true, true, true, false, false, false] rfl rfl (by kernel_rfl) (fun _ _ _ h => h) (Or.inl ⟨by rfl, ?_⟩) ?_ ?_
      rotate_left
      · intro w'
        go_simp
        with_reducible rfl
      rotate_left
      · simp only [Act.put, List.setIfInBounds_toArray, List.set_cons_zero, List.set_cons_succ, i64_w, i32_w]
        rfl
      refine take_ (i := 10) (N := some 41) (v := ?_) (a' := ?_) #[true, true, true, true, true, true, true, true, true, true, true, true, true, true, true, true, true, true, false, false, false, false, false, true, true, true, true, true, true, true, true, false, false, false] rfl rfl (by kernel_rfl) (fun _ _ _ h => h) (Or.inl ⟨by rfl, ?_⟩) hHeld ?_ ?_
      rotate_left
      · rintro w' ⟨s0, s1, s2, s3⟩
        go_simp
        with_reducible rfl
      rotate_left
      · simp only [Act.put, List.setIfInBounds_toArray, List.set_cons_zero, List.set_cons_succ, i64_w, i32_w]
        rfl
      exact norm_ (by simp only [putAll, Act.put, List.setIfInBounds_toArray, List.set_cons_zero, List.set_cons_succ]) (hCont (.slice (some ⟨g1, 0, none⟩) 1 1, .slice (some ⟨g2, 0, none⟩) 1 1) _ ⟨⟨g2, rfl, c2_⟩, HT.out, HB.out⟩)
  rintro ⟨u1, u2⟩ wF hF0
  obtain ⟨⟨g2, hu2, c2_⟩, hT, hB⟩ := hF0
  have hu3 : u2 = .slice (some ⟨g2, 0, none⟩) 1 1 := hu2
  subst hu3
  clear HT HB hu2
  have HT := Lib.hid hT
  have HB := Lib.hid hB
  clear hT hB
  have hHeld : wF.cell? ⟨b, 2, none⟩ = some (.slice (some ⟨gd, 0, none⟩) n cd) ∧ wF.cell? ⟨gd, X, none⟩ = some (.int .i64 x) ∧ wF.cell? ⟨gd, Y, none⟩ = some (.int .i64 y) ∧ wF.cell? ⟨gd, Z, none⟩ = some (.int .i64 z) := ⟨HT.out.c2, ((HT.out.at2 X HX.out.1).1.trans (by rw [HX.out.2])), ((HT.out.at2 Y HY.out.1).1.trans (by rw [HY.out.2])), ((HT.out.at2 Z HZ.out.1).1.trans (by rw [HZ.out.2]))⟩
  refine norm_ (a' := ?_) ?_ ?_
  rotate_left
  · simp only [putAll, Act.put, List.setIfInBounds_toArray, List.set_cons_zero, List.set_cons_succ]
    rfl
  refine one_ (i := 18) (N := some 49) #[true, true, true, true, true, true, true, true, true, true, true, true, true, true, true, true, true, true, true, false, false, false, false, true, true, true, true, true, true, true, true, false, false, false] rfl rfl (by kernel_rfl) (by decide) (fun K hK => ?_)
  refine goes_ Tryd.func24 (by kernel_rfl) rfl #[.slice (some ⟨g2, 0, none⟩) 1 1] (by rfl) rfl rfl (by (try simp only [List.map_toArray, List.map_cons, List.map_nil]); first | done | rfl | (simp only [List.length_drop, List.length_take]; rfl)) ?_
  with_reducible refine (LYH.out _ g2 c2_).mono ?_
  rintro e w6 ⟨rfl, rfl⟩
  refine ⟨_, rfl, ?_⟩
  clear c2_
  refine hK.out _ _ ⟨HT.out.c2, ((HT.out.at2 X HX.out.1).1.trans (by rw [HX.out.2])), ((HT.out.at2 Y HY.out.1).1.trans (by rw [HY.out.2])), ((HT.out.at2 Z HZ.out.1).1.trans (by rw [HZ.out.2]))⟩ (fun hHeld => ?_)
  clear hK K
  refine norm_ (a' := ?_) ?_ ?_
  rotate_left
  · show Act.put _ (some 49) _ = _
    simp only [Act.put, List.setIfInBounds_toArray, List.set_cons_zero, List.set_cons_succ, i64_w, i32_w]
    rfl
  refine one_ (i := 19) (N := some 50) #[true, true, true, true, true, true, true, true, true, true, true, true, true, true, true, true, true, true, true, true, false, false, false, true, true, true, true, true, true, true, true, false, false, false] rfl rfl (by kernel_rfl) (by decide) (fun K hK => ?_)
  refine goes_ Tryd.func84 (by kernel_rfl) rfl #[.pointer (some ⟨b, 0, none⟩), .int .u64 (SY : Int)] (by rfl) rfl rfl (by (try simp only [List.map_toArray, List.map_cons, List.map_nil]); first | done | rfl | (simp only [List.length_drop, List.length_take]; rfl)) ?_
  with_reducible refine (OY.out _ HT.out).mono ?_
  rintro e w8 ⟨rfl, hb⟩
  refine ⟨_, rfl, ?_⟩
  have n_ := Lib.hid (HT.out.below hb)
  have n2_ := Lib.hid (below_step HB.out hb)
  clear HT HB
  have HT := n_
  have HB := n2_
  clear n_ n2_
  clear hb
  refine hK.out _ _ ⟨HT.out.c2, ((HT.out.at2 X HX.out.1).1.trans (by rw [HX.out.2])), ((HT.out.at2 Y HY.out.1).1.trans (by rw [HY.out.2])), ((HT.out.at2 Z HZ.out.1).1.trans (by rw [HZ.out.2]))⟩ (fun hHeld => ?_)
  clear hK K
  refine norm_ (a' := ?_) ?_ ?_
  rotate_left
  · show Act.put _ (some 50) _ = _
    simp only [Act.put, List.setIfInBounds_toArray, List.set_cons_zero, List.set_cons_succ, i64_w, i32_w]
    rfl
  refine pure_ (i := 20) (N := some 51) (v := ?_) (a' := ?_) #[true, true, true, true, true, true, true, true, true, true, true, true, true, true, true, true, true, true, true, true, true, false, false, true, true, true, true, true, true, true, true, false, false, false] rfl rfl (by kernel_rfl) (fun _ _ _ h => h) (Or.inl ⟨by rfl, ?_⟩) ?_ ?_
  rotate_left
  · intro w'
    go_simp
    with_reducible rfl
  rotate_left
  · simp only [Act.put, List.setIfInBounds_toArray, List.set_cons_zero, List.set_cons_succ, i64_w, i32_w]
    rfl
  refine take_ (i := 21) (N := some 52) (v := ?_) (a' := ?_) #[true, true, true, true, true, true, true, true, true, true, true, true, true, true, true, true, true, true, true, true, true, true, false, true, true, true, true, true, true, true, true, false, false, false] rfl rfl (by kernel_rfl) (fun _ _ _ h => h) (Or.inl ⟨by rfl, ?_⟩) hHeld ?_ ?_
  rotate_left
  · rintro w' ⟨s0, s1, s2, s3⟩
    go_simp
    with_reducible rfl
  rotate_left
  · simp only [Act.put, List.setIfInBounds_toArray, List.set_cons_zero, List.set_cons_succ, i64_w, i32_w]
    rfl
  refine pure_ (i := 22) (N := some 53) (v := ?_) (a' := ?_) #[true, true, true, true, true, true, true, true, true, true, true, true, true, true, true, true, true, true, true, true, true, true, true, true, true, true, true, true, true, true, true, false, false, false] rfl rfl (by kernel_rfl) (fun _ _ _ h => h) (Or.inl ⟨by rfl, ?_⟩) ?_ ?_
  rotate_left
  · intro w'
    go_simp
    with_reducible rfl
  rotate_left
  · simp only [Act.put, List.setIfInBounds_toArray, List.set_cons_zero, List.set_cons_succ, i64_w, i32_w]
    rfl
  refine pure_ (i := 31) (N := some 62) (v := ?_) (a' := ?_) #[true, true, true, true, true, true, true, true, true, true, true, true, true, true, true, true, true, true, true, true, true, true, true, true, true, true, true, true, true, true, true, true, false, false] rfl rfl (by kernel_rfl) (fun _ _ _ h => h) (Or.inl ⟨by rfl, ?_⟩) ?_ ?_
  rotate_left
  · intro w'
    go_simp
    with_reducible rfl
  rotate_left
  · simp only [Act.put, List.setIfInBounds_toArray, List.set_cons_zero, List.set_cons_succ, i64_w, i32_w]
    rfl
  refine pure_ (i := 32) (N := some 63) (v := ?_) (a' := ?_) #[true, true, true, true, true, true, true, true, true, true, true, true, true, true, true, true, true, true, true, true, true, true, true, true, true, true, true, true, true, true, true, true, true, false] rfl rfl (by kernel_rfl) (fun _ _ _ h => h) (Or.inl ⟨by rfl, ?_⟩) ?_ ?_
  rotate_left
  · intro w'
    go_simp
    with_reducible rfl
  rotate_left
  · simp only [Act.put, List.setIfInBounds_toArray, List.set_cons_zero, List.set_cons_succ, i64_w, i32_w]
    rfl
  refine pure_ (i := 33) (N := some 6) (v := ?_) (a' := ?_) #[true, true, true, true, true, true, true, true, true, true, true, true, true, true, true, true, true, true, true, true, true, true, true, true, true, true, true, true, true, true, true, true, true, true] rfl rfl (by kernel_rfl) (fun _ _ _ h => h) (Or.inl ⟨by rfl, ?_⟩) ?_ ?_
  rotate_left
  · intro w'
    go_simp
    with_reducible rfl
  rotate_left
  · simp only [Act.put, List.setIfInBounds_toArray, List.set_cons_zero, List.set_cons_succ, i64_w, i32_w]
    rfl
  refine done_ (by kernel_rfl) ?_
  go_wp2
  go_ret
  exact ⟨rfl, HB.out⟩
end Go.Proofs.YtmjkgnlmdcmdbaaDoor.Topo
