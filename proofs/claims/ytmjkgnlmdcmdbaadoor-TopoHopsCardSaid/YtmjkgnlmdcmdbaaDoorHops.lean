/- Law 39: how many hops, by both, at any two nodes. -/
import Derived.Test.YtmjkgnlmdcmdbaaDoorTopo10
import Derived.Test.YtmjkgnlmdcmdbaaDoorTopo4
namespace Go.Proofs.YtmjkgnlmdcmdbaaDoor.Topo
open Go.RowKit Go.Proofs.YtmjkgnlmdcmdbaaDoorW.PrintWords Go.Proofs.YtmjkgnlmdcmdbaaDoorW.PrintLast Go.Proofs.YtmjkgnlmdcmdbaaDoorW.PrintMore Go.Proofs.YtmjkgnlmdcmdbaaDoor.Row Go.Proofs.YtmjkgnlmdcmdbaaDoor.Sets Go.Proofs.YtmjkgnlmdcmdbaaDoor.Node
set_option linter.unusedVariables false
set_option linter.unusedSimpArgs false
set_option maxRecDepth 100000
theorem hopsS_far (M : List Nat) (D : List Int) (n : Nat) (a c : Int) (ha : hasS (M.getD 0 0) a = true) (hc : hasS (M.getD 0 0) c = true) (hne : a ≠ c) (X Y Z : Nat) (hX : overS M D (ofS [a]) n = (X : Int)) (hY : overS M D (ofS [c]) n = (Y : Int)) (hZ : overS M D (ofS [a, c]) n = (Z : Int)) :
    hopsS M D n a c = D.getD X 0 + D.getD Y 0 - 2 * D.getD Z 0 + 1 := by
  unfold hopsS
  rw [if_pos ⟨ha, hc⟩, if_neg hne, hX, hY, hZ]
  simp only [Int.toNat_natCast]
theorem Hops_full {w : World} {b n : Nat} {va vm vd : Value} {A D : List Int} {M : List Nat} (h : TT w b va vm vd A M D) (h0 : 0 < n) (hA : A.length = n) (hM : M.length = n) (hD : D.length = n) (hl : n ≤ 64) (hml : ∀ i, M.getD i 0 < 18446744073709551616) (hdp : ∀ i, i < n → 0 ≤ D.getD i 0 ∧ D.getD i 0 ≤ i)
    (a c : Int) :
    Calls Tryd.prog 78 #[.pointer (some ⟨b, 0, none⟩), .int .i64 a, .int .i64 c] w fun e w' => e = .returned (.int .i64 (hopsS M D n a c)) ∧ Below w.heap.size w w' := by
  by_cases hboth : hasS (M.getD 0 0) a = true ∧ hasS (M.getD 0 0) c = true ∧ a ≠ c
  · obtain ⟨ha, hc, hne⟩ := hboth
    obtain ⟨X, Y, Z, e1, e2, e3, -⟩ := over_three M D n h0 hml a c ha hc
    rw [hopsS_far M D n a c ha hc hne X Y Z e1 e2 e3]
    exact Hops_any h h0 hA hM hD hl hml hdp a c ha hc hne X Y Z e1 e2 e3
  · have KN := Nodes_any h h0 hA hM hl 0
    have hb0 : belowS M 0 = M.getD 0 0 := by unfold belowS; rw [if_pos ⟨by omega, by omega⟩]; rfl
    rw [hb0] at KN
    have K := Lib.hid KN
    have KA := Lib.hid (fun W => has_any (M.getD 0 0) a W (hml 0))
    have KC := Lib.hid (fun W => has_any (M.getD 0 0) c W (hml 0))
    have hh : hopsS M D n a c = if hasS (M.getD 0 0) a = true ∧ hasS (M.getD 0 0) c = true then 0 else -1 := by
      unfold hopsS
      by_cases h1 : hasS (M.getD 0 0) a = true ∧ hasS (M.getD 0 0) c = true
      · rw [if_pos h1, if_pos h1, if_pos (Classical.byContradiction fun h2 => hboth ⟨h1.1, h1.2, h2⟩)]
      · rw [if_neg h1, if_neg h1]
    rw [hh]
    have hac : hasS (M.getD 0 0) a = true → hasS (M.getD 0 0) c = true → a = c := fun h1 h2 => Classical.byContradiction fun h3 => hboth ⟨h1, h2, h3⟩
    obtain ⟨p, hp⟩ : ∃ p, hasS (M.getD 0 0) a = p := ⟨_, rfl⟩
    obtain ⟨q, hq⟩ : ∃ p, hasS (M.getD 0 0) c = p := ⟨_, rfl⟩
    obtain ⟨m0, hm0⟩ : ∃ m, M.getD 0 0 = m := ⟨_, rfl⟩
    rw [hp] at KA
    rw [hq] at KC
    rw [hp, hq] at hac ⊢
    rw [hm0] at K KA KC
    clear h KN hb0 hA hM hD hml hdp hboth hh hp hq hm0
    cases p with
    | false =>
      clear hac KC
      rw [if_neg (fun hh => by cases hh.1)]
      go_enter Tryd.func78, Tryd.ntmps78
      go_wp2_with (first
        | (go_at_call 83; refine K.out.mono ?_; rintro e w2 ⟨rfl, rfl⟩)
        | (go_at_call 29; with_reducible refine (KA.out _).mono ?_; rintro e w2 ⟨rfl, rfl⟩))
      go_ret; exact ⟨rfl, Below.refl _ _⟩
    | true =>
      cases q with
      | false =>
        clear hac
        rw [if_neg (fun hh => by cases hh.2)]
        go_enter Tryd.func78, Tryd.ntmps78
        go_wp2_with (first
          | (go_at_call 83; refine K.out.mono ?_; rintro e w2 ⟨rfl, rfl⟩)
          | (go_at_call 29; with_reducible refine (KA.out _).mono ?_; rintro e w2 ⟨rfl, rfl⟩)
          | (go_at_call 29; with_reducible refine (KC.out _).mono ?_; rintro e w2 ⟨rfl, rfl⟩))
        go_ret; exact ⟨rfl, Below.refl _ _⟩
      | true =>
        have e := hac rfl rfl
        rw [if_pos ⟨rfl, rfl⟩]
        have e1 : (a == c) = true := by simp [e]
        clear hac e
        go_enter Tryd.func78, Tryd.ntmps78
        go_wp2_with (first
          | (go_at_call 83; refine K.out.mono ?_; rintro e w2 ⟨rfl, rfl⟩)
          | (go_at_call 29; with_reducible refine (KA.out _).mono ?_; rintro e w2 ⟨rfl, rfl⟩)
          | (go_at_call 29; with_reducible refine (KC.out _).mono ?_; rintro e w2 ⟨rfl, rfl⟩))
        go_ret; exact ⟨rfl, Below.refl _ _⟩
set_option maxHeartbeats 2000000 in
theorem hops39_any {w : World} {b n ee : Nat} {B : Option Addr} {vm vd : Value} {D : List Int} {M : List Nat} (h : PP w b B n ee vm vd M D) (h0 : 0 < n) (hM : M.length = n) (hD : D.length = n) (hl : n ≤ 64) (hml : ∀ i, M.getD i 0 < 18446744073709551616) (hdp : ∀ i, i < n → 0 ≤ D.getD i 0 ∧ D.getD i 0 ≤ i)
    (a c : Int) :
    Calls Tryd.prog 79 #[.pointer (some ⟨b, 0, none⟩), .int .i64 a, .int .i64 c] w fun e w' => e = .returned (.int .i64 (hopsS M D n a c)) ∧ Below w.heap.size w w' := by
  have KA := Lib.hid (fun W => has_any (M.getD 0 0) a W (hml 0))
  have KC := Lib.hid (fun W => has_any (M.getD 0 0) c W (hml 0))
  obtain ⟨gm, cm, hvm, _, _, _⟩ := Kd.R_form h.r1 (by simp [Sets.nums]; omega)
  have hl1 : (Sets.nums M).length = n := by simp [Sets.nums, hM]
  rw [hl1] at hvm
  subst hvm
  obtain ⟨gd, cd, hvd, _, _, _⟩ := Kd.R_form h.r2 (by omega)
  rw [hD] at hvd
  subst hvd
  have c1' := h.c1
  have qa := (h.at1 0 (by omega)).1
  have z0 : (0 ≤ (0 : Int) ∧ (0 : Int) < (n : Int)) = True := eq_true ⟨by omega, by omega⟩
  have z1 : ((0 : Int) < (n : Int)) = True := eq_true (by omega)
  have z2 : (0 < n) = True := eq_true h0
  by_cases hboth : hasS (M.getD 0 0) a = true ∧ hasS (M.getD 0 0) c = true ∧ a ≠ c
  · obtain ⟨ha, hc, hne⟩ := hboth
    obtain ⟨X, Y, Z, hX, hY, hZ, lX, lY, lZ, -⟩ := over_three M D n h0 hml a c ha hc
    rw [hopsS_far M D n a c ha hc hne X Y Z hX hY hZ]
    rw [ha] at KA
    rw [hc] at KC
    have OV : Hid (∀ (s : Nat) (W : World), s < 18446744073709551616 → PP W b B n ee (.slice (some ⟨gm, 0, none⟩) n cm) (.slice (some ⟨gd, 0, none⟩) n cd) M D → Calls Tryd.prog 109 #[.pointer (some ⟨b, 0, none⟩), .int .u64 s] W fun e w' => e = .returned (.int .i64 (overS M D s n)) ∧ Below W.heap.size W w') := Lib.hid (fun s W hs hT => over39_any hT h0 hM hD hl s hs hml)
    have OX : Hid (∀ W : World, PP W b B n ee (.slice (some ⟨gm, 0, none⟩) n cm) (.slice (some ⟨gd, 0, none⟩) n cd) M D → Calls Tryd.prog 109 #[.pointer (some ⟨b, 0, none⟩), .int .u64 (ofS [a] : Nat)] W fun e w' => e = .returned (.int .i64 (X : Int)) ∧ Below W.heap.size W w') := Lib.hid (fun W hT => by rw [← hX]; exact OV.out _ W (ofS_lt _) hT)
    have OY : Hid (∀ W : World, PP W b B n ee (.slice (some ⟨gm, 0, none⟩) n cm) (.slice (some ⟨gd, 0, none⟩) n cd) M D → Calls Tryd.prog 109 #[.pointer (some ⟨b, 0, none⟩), .int .u64 (ofS [c] : Nat)] W fun e w' => e = .returned (.int .i64 (Y : Int)) ∧ Below W.heap.size W w') := Lib.hid (fun W hT => by rw [← hY]; exact OV.out _ W (ofS_lt _) hT)
    have OZ : Hid (∀ W : World, PP W b B n ee (.slice (some ⟨gm, 0, none⟩) n cm) (.slice (some ⟨gd, 0, none⟩) n cd) M D → Calls Tryd.prog 109 #[.pointer (some ⟨b, 0, none⟩), .int .u64 (ofS [a, c] : Nat)] W fun e w' => e = .returned (.int .i64 (Z : Int)) ∧ Below W.heap.size W w') := Lib.hid (fun W hT => by rw [← hZ]; exact OV.out _ W (ofS_lt _) hT)
    have dX := hdp X lX
    have dY := hdp Y lY
    have dZ := hdp Z lZ
    obtain ⟨x, hx⟩ : ∃ x, D.getD X 0 = x := ⟨_, rfl⟩
    obtain ⟨y, hy⟩ : ∃ x, D.getD Y 0 = x := ⟨_, rfl⟩
    obtain ⟨z, hz⟩ : ∃ x, D.getD Z 0 = x := ⟨_, rfl⟩
    rw [hx] at dX ⊢
    rw [hy] at dY ⊢
    rw [hz] at dZ ⊢
    have HX : Hid (X < D.length ∧ D.getD X 0 = x) := Lib.hid ⟨by omega, hx⟩
    have HY : Hid (Y < D.length ∧ D.getD Y 0 = y) := Lib.hid ⟨by omega, hy⟩
    have HZ : Hid (Z < D.length ∧ D.getD Z 0 = z) := Lib.hid ⟨by omega, hz⟩
    have e1 : (a == c) = false := by simpa using hne
    have HT := Lib.hid h
    have HB := Lib.hid (Below.refl w.heap.size w)
    have lt1 : decide ((X : Int) < 0) = false := decide_eq_false (by omega)
    have lt2 : decide ((Y : Int) < 0) = false := decide_eq_false (by omega)
    have lt3 : decide ((Z : Int) < 0) = false := decide_eq_false (by omega)
    have x0 : (0 ≤ (X : Int) ∧ (X : Int) < (n : Int)) = True := eq_true ⟨by omega, by omega⟩
    have x1 : (0 ≤ (Y : Int) ∧ (Y : Int) < (n : Int)) = True := eq_true ⟨by omega, by omega⟩
    have x2 : (0 ≤ (Z : Int) ∧ (Z : Int) < (n : Int)) = True := eq_true ⟨by omega, by omega⟩
    have y0 : ((X : Int) < (n : Int)) = True := eq_true (by omega)
    have y1 : ((Y : Int) < (n : Int)) = True := eq_true (by omega)
    have y2 : ((Z : Int) < (n : Int)) = True := eq_true (by omega)
    have xt : ((X : Int)).toNat = X := by omega
    have yt : ((Y : Int)).toNat = Y := by omega
    have zt : ((Z : Int)).toNat = Z := by omega
    have w1 : wrap64 (x + y) = x + y := by unfold wrap64; omega
    have w2 : IntKind.i64.wrap (x + y) = x + y := by rw [IntKind.wrap_i64]; omega
    have w3 : wrap64 (2 * z) = 2 * z := by unfold wrap64; omega
    have w4 : IntKind.i64.wrap (2 * z) = 2 * z := by rw [IntKind.wrap_i64]; omega
    have w5_ : wrap64 (x + y - 2 * z) = x + y - 2 * z := by unfold wrap64; omega
    have w6_ : IntKind.i64.wrap (x + y - 2 * z) = x + y - 2 * z := by rw [IntKind.wrap_i64]; omega
    have w7_ : wrap64 (x + y - 2 * z + 1) = x + y - 2 * z + 1 := by unfold wrap64; omega
    have w8_ : IntKind.i64.wrap (x + y - 2 * z + 1) = x + y - 2 * z + 1 := by rw [IntKind.wrap_i64]; omega
    obtain ⟨m0, hm0⟩ : ∃ m, M.getD 0 0 = m := ⟨_, rfl⟩
    rw [hm0] at KA KC qa
    clear h ha hc hne hM hD hml hdp hX hY hZ hx hy hz OV dX dY dZ hm0 hl1 lX lY lZ
    go_enter Tryd.func79, Tryd.ntmps79
    go_upto_region 5 with (first
      | (go_at_call 29; with_reducible refine (KA.out _).mono ?_; rintro e w2 ⟨rfl, rfl⟩)
      | (go_at_call 29; with_reducible refine (KC.out _).mono ?_; rintro e w2 ⟨rfl, rfl⟩))
    clear c1' qa z0 z1
    have LX : Hid (∀ W : World, Calls Tryd.prog 24 #[.slice (some ⟨W.heap.size, 0, none⟩) 1 1] (W.alloc (.cells #[.int .i64 a] 3)) fun e w' => e = .returned (.int .u64 (ofS [a] : Nat)) ∧ W.alloc (.cells #[.int .i64 a] 3) = w') := Lib.hid (fun W => of_lit [a] W W.heap.size rfl (by simp))
    have LY : Hid (∀ W : World, Calls Tryd.prog 24 #[.slice (some ⟨W.heap.size, 0, none⟩) 1 1] (W.alloc (.cells #[.int .i64 c] 3)) fun e w' => e = .returned (.int .u64 (ofS [c] : Nat)) ∧ W.alloc (.cells #[.int .i64 c] 3) = w') := Lib.hid (fun W => of_lit [c] W W.heap.size rfl (by simp))
    have LZ : Hid (∀ W : World, Calls Tryd.prog 24 #[.slice (some ⟨W.heap.size, 0, none⟩) 2 2] (W.alloc (.cells #[.int .i64 a, .int .i64 c] 3)) fun e w' => e = .returned (.int .u64 (ofS [a, c] : Nat)) ∧ W.alloc (.cells #[.int .i64 a, .int .i64 c] 3) = w') := Lib.hid (fun W => of_lit [a, c] W W.heap.size rfl (by simp))
    go_upto_region 8 with (first
      | (go_at_call 24; with_reducible refine (LX.out _).mono ?_; rintro e w2 ⟨rfl, rfl⟩)
      | (go_at_call 109; with_reducible refine (OX.out _ (HT.out.below (below_alloc (Below.refl _ _) _))).mono ?_; clear OX; rintro e w3 ⟨rfl, hb⟩; have n_ := Lib.hid ((HT.out.below (below_alloc (Below.refl _ _) _)).below hb); have n2_ := Lib.hid (below_step (below_alloc HB.out _) hb); clear HT HB hb; have HT := n_; have HB := n2_; clear n_ n2_)
      | (go_at_call 24; with_reducible refine (LY.out _).mono ?_; rintro e w2 ⟨rfl, rfl⟩)
      | (go_at_call 109; with_reducible refine (OY.out _ (HT.out.below (below_alloc (Below.refl _ _) _))).mono ?_; clear OY; rintro e w3 ⟨rfl, hb⟩; have n_ := Lib.hid ((HT.out.below (below_alloc (Below.refl _ _) _)).below hb); have n2_ := Lib.hid (below_step (below_alloc HB.out _) hb); clear HT HB hb; have HT := n_; have HB := n2_; clear n_ n2_)
      | (go_at_call 24; with_reducible refine (LZ.out _).mono ?_; rintro e w2 ⟨rfl, rfl⟩)
      | (go_at_call 109; with_reducible refine (OZ.out _ (HT.out.below (below_alloc (Below.refl _ _) _))).mono ?_; clear OZ; rintro e w3 ⟨rfl, hb⟩; have n_ := Lib.hid ((HT.out.below (below_alloc (Below.refl _ _) _)).below hb); have n2_ := Lib.hid (below_step (below_alloc HB.out _) hb); clear HT HB hb; have HT := n_; have HB := n2_; clear n_ n2_))
    refine start_ (n := 26) (S := fun w' => w'.cell? ⟨b, 2, none⟩ = some (.slice (some ⟨gd, 0, none⟩) n cd) ∧ w'.cell? ⟨gd, X, none⟩ = some (.int .i64 x) ∧ w'.cell? ⟨gd, Y, none⟩ = some (.int .i64 y) ∧ w'.cell? ⟨gd, Z, none⟩ = some (.int .i64 z)) (ds := []) #[false, false, false, false, false, false, false, false, false, false, false, false, false, false, false, false, false, false, false, false, false, false, false, false, false, false] (by kernel_rfl) rfl rfl ⟨HT.out.c2, ((HT.out.at2 X HX.out.1).1.trans (by rw [HX.out.2])), ((HT.out.at2 Y HY.out.1).1.trans (by rw [HY.out.2])), ((HT.out.at2 Z HZ.out.1).1.trans (by rw [HZ.out.2]))⟩ (fun hHeld => ?_)
    have n_ := Lib.hid HT.out.drew
    have n2_ := Lib.hid (below_drew1 HB.out)
    clear HT HB
    have HT := n_
    have HB := n2_
    clear n_ n2_
    generalize w3.drew = w5 at HT HB hHeld ⊢
    refine pure_ (i := 0) (N := some 59) (v := ?_) (a' := ?_) #[true, false, false, false, false, false, false, false, false, false, false, false, false, false, false, false, false, false, false, false, false, false, false, false, false, false] rfl rfl (by kernel_rfl) (fun _ _ _ h => h) (Or.inl ⟨by rfl, ?_⟩) ?_ ?_
    rotate_left
    · intro w'
      go_simp
      with_reducible rfl
    rotate_left
    · simp only [Act.put, List.setIfInBounds_toArray, List.set_cons_zero, List.set_cons_succ, i64_w, i32_w]
      rfl
    refine pure_ (i := 1) (N := some 60) (v := ?_) (a' := ?_) #[true, true, false, false, false, false, false, false, false, false, false, false, false, false, false, false, false, false, false, false, false, false, false, false, false, false] rfl rfl (by kernel_rfl) (fun _ _ _ h => h) (Or.inl ⟨by rfl, ?_⟩) ?_ ?_
    rotate_left
    · intro w'
      go_simp
      with_reducible rfl
    rotate_left
    · simp only [Act.put, List.setIfInBounds_toArray, List.set_cons_zero, List.set_cons_succ, i64_w, i32_w]
      rfl
    refine pure_ (i := 2) (N := some 61) (v := ?_) (a' := ?_) #[true, true, true, false, false, false, false, false, false, false, false, false, false, false, false, false, false, false, false, false, false, false, false, false, false, false] rfl rfl (by kernel_rfl) (fun _ _ _ h => h) (Or.inl ⟨by rfl, ?_⟩) ?_ ?_
    rotate_left
    · intro w'
      go_simp
      with_reducible rfl
    rotate_left
    · simp only [Act.put, List.setIfInBounds_toArray, List.set_cons_zero, List.set_cons_succ, i64_w, i32_w]
      rfl
    refine pure_ (i := 4) (N := some 63) (v := ?_) (a' := ?_) #[true, true, true, false, true, false, false, false, false, false, false, false, false, false, false, false, false, false, false, false, false, false, false, false, false, false] rfl rfl (by kernel_rfl) (fun _ _ _ h => h) (Or.inl ⟨by rfl, ?_⟩) ?_ ?_
    rotate_left
    · intro w'
      go_simp
      with_reducible rfl
    rotate_left
    · simp only [Act.put, List.setIfInBounds_toArray, List.set_cons_zero, List.set_cons_succ, i64_w, i32_w]
      rfl
    refine pure_ (i := 7) (N := some 66) (v := ?_) (a' := ?_) #[true, true, true, false, true, false, false, true, false, false, false, false, false, false, false, false, false, false, false, false, false, false, false, false, false, false] rfl rfl (by kernel_rfl) (fun _ _ _ h => h) (Or.inl ⟨by rfl, ?_⟩) ?_ ?_
    rotate_left
    · intro w'
      go_simp
      with_reducible rfl
    rotate_left
    · simp only [Act.put, List.setIfInBounds_toArray, List.set_cons_zero, List.set_cons_succ, i64_w, i32_w]
      rfl
    refine pure_ (i := 8) (N := some 67) (v := ?_) (a' := ?_) #[true, true, true, false, true, false, false, true, true, false, false, false, false, false, false, false, false, false, false, false, false, false, false, false, false, false] rfl rfl (by kernel_rfl) (fun _ _ _ h => h) (Or.inl ⟨by rfl, ?_⟩) ?_ ?_
    rotate_left
    · intro w'
      go_simp
      with_reducible rfl
    rotate_left
    · simp only [Act.put, List.setIfInBounds_toArray, List.set_cons_zero, List.set_cons_succ, i64_w, i32_w]
      rfl
    refine pure_ (i := 9) (N := some 68) (v := ?_) (a' := ?_) #[true, true, true, false, true, false, false, true, true, true, false, false, false, false, false, false, false, false, false, false, false, false, false, false, false, false] rfl rfl (by kernel_rfl) (fun _ _ _ h => h) (Or.inl ⟨by rfl, ?_⟩) ?_ ?_
    rotate_left
    · intro w'
      go_simp
      with_reducible rfl
    rotate_left
    · simp only [Act.put, List.setIfInBounds_toArray, List.set_cons_zero, List.set_cons_succ, i64_w, i32_w]
      rfl
    refine pure_ (i := 11) (N := some 70) (v := ?_) (a' := ?_) #[true, true, true, false, true, false, false, true, true, true, false, true, false, false, false, false, false, false, false, false, false, false, false, false, false, false] rfl rfl (by kernel_rfl) (fun _ _ _ h => h) (Or.inl ⟨by rfl, ?_⟩) ?_ ?_
    rotate_left
    · intro w'
      go_simp
      with_reducible rfl
    rotate_left
    · simp only [Act.put, List.setIfInBounds_toArray, List.set_cons_zero, List.set_cons_succ, i64_w, i32_w]
      rfl
    refine pure_ (i := 15) (N := some 74) (v := ?_) (a' := ?_) #[true, true, true, false, true, false, false, true, true, true, false, true, false, false, false, true, false, false, false, false, false, false, false, false, false, false] rfl rfl (by kernel_rfl) (fun _ _ _ h => h) (Or.inl ⟨by rfl, ?_⟩) ?_ ?_
    rotate_left
    · intro w'
      go_simp
      with_reducible rfl
    rotate_left
    · simp only [Act.put, List.setIfInBounds_toArray, List.set_cons_zero, List.set_cons_succ, i64_w, i32_w]
      rfl
    refine pure_ (i := 16) (N := some 75) (v := ?_) (a' := ?_) #[true, true, true, false, true, false, false, true, true, true, false, true, false, false, false, true, true, false, false, false, false, false, false, false, false, false] rfl rfl (by kernel_rfl) (fun _ _ _ h => h) (Or.inl ⟨by rfl, ?_⟩) ?_ ?_
    rotate_left
    · intro w'
      go_simp
      with_reducible rfl
    rotate_left
    · simp only [Act.put, List.setIfInBounds_toArray, List.set_cons_zero, List.set_cons_succ, i64_w, i32_w]
      rfl
    refine pure_ (i := 17) (N := some 76) (v := ?_) (a' := ?_) #[true, true, true, false, true, false, false, true, true, true, false, true, false, false, false, true, true, true, false, false, false, false, false, false, false, false] rfl rfl (by kernel_rfl) (fun _ _ _ h => h) (Or.inl ⟨by rfl, ?_⟩) ?_ ?_
    rotate_left
    · intro w'
      go_simp
      with_reducible rfl
    rotate_left
    · simp only [Act.put, List.setIfInBounds_toArray, List.set_cons_zero, List.set_cons_succ, i64_w, i32_w]
      rfl
    refine pure_ (i := 19) (N := some 78) (v := ?_) (a' := ?_) #[true, true, true, false, true, false, false, true, true, true, false, true, false, false, false, true, true, true, false, true, false, false, false, false, false, false] rfl rfl (by kernel_rfl) (fun _ _ _ h => h) (Or.inl ⟨by rfl, ?_⟩) ?_ ?_
    rotate_left
    · intro w'
      go_simp
      with_reducible rfl
    rotate_left
    · simp only [Act.put, List.setIfInBounds_toArray, List.set_cons_zero, List.set_cons_succ, i64_w, i32_w]
      rfl
    refine take_ (i := 3) (N := some 62) (v := ?_) (a' := ?_) #[true, true, true, true, true, false, false, true, true, true, false, true, false, false, false, true, true, true, false, true, false, false, false, false, false, false] rfl rfl (by kernel_rfl) (fun _ _ _ h => h) (Or.inl ⟨by rfl, ?_⟩) hHeld ?_ ?_
    rotate_left
    · rintro w' ⟨s0, s1, s2, s3⟩
      go_simp
      with_reducible rfl
    rotate_left
    · simp only [Act.put, List.setIfInBounds_toArray, List.set_cons_zero, List.set_cons_succ, i64_w, i32_w]
      rfl
    refine pure_ (i := 5) (N := some 64) (v := ?_) (a' := ?_) #[true, true, true, true, true, true, false, true, true, true, false, true, false, false, false, true, true, true, false, true, false, false, false, false, false, false] rfl rfl (by kernel_rfl) (fun _ _ _ h => h) (Or.inl ⟨by rfl, ?_⟩) ?_ ?_
    rotate_left
    · intro w'
      go_simp
      with_reducible rfl
    rotate_left
    · simp only [Act.put, List.setIfInBounds_toArray, List.set_cons_zero, List.set_cons_succ, i64_w, i32_w]
      rfl
    refine take_ (i := 6) (N := some 65) (v := ?_) (a' := ?_) #[true, true, true, true, true, true, true, true, true, true, false, true, false, false, false, true, true, true, false, true, false, false, false, false, false, false] rfl rfl (by kernel_rfl) (fun _ _ _ h => h) (Or.inl ⟨by rfl, ?_⟩) hHeld ?_ ?_
    rotate_left
    · rintro w' ⟨s0, s1, s2, s3⟩
      go_simp
      with_reducible rfl
    rotate_left
    · simp only [Act.put, List.setIfInBounds_toArray, List.set_cons_zero, List.set_cons_succ, i64_w, i32_w]
      rfl
    refine take_ (i := 10) (N := some 69) (v := ?_) (a' := ?_) #[true, true, true, true, true, true, true, true, true, true, true, true, false, false, false, true, true, true, false, true, false, false, false, false, false, false] rfl rfl (by kernel_rfl) (fun _ _ _ h => h) (Or.inl ⟨by rfl, ?_⟩) hHeld ?_ ?_
    rotate_left
    · rintro w' ⟨s0, s1, s2, s3⟩
      go_simp
      with_reducible rfl
    rotate_left
    · simp only [Act.put, List.setIfInBounds_toArray, List.set_cons_zero, List.set_cons_succ, i64_w, i32_w]
      rfl
    refine pure_ (i := 12) (N := some 71) (v := ?_) (a' := ?_) #[true, true, true, true, true, true, true, true, true, true, true, true, true, false, false, true, true, true, false, true, false, false, false, false, false, false] rfl rfl (by kernel_rfl) (fun _ _ _ h => h) (Or.inl ⟨by rfl, ?_⟩) ?_ ?_
    rotate_left
    · intro w'
      go_simp
      with_reducible rfl
    rotate_left
    · simp only [Act.put, List.setIfInBounds_toArray, List.set_cons_zero, List.set_cons_succ, i64_w, i32_w]
      rfl
    refine take_ (i := 13) (N := some 72) (v := ?_) (a' := ?_) #[true, true, true, true, true, true, true, true, true, true, true, true, true, true, false, true, true, true, false, true, false, false, false, false, false, false] rfl rfl (by kernel_rfl) (fun _ _ _ h => h) (Or.inl ⟨by rfl, ?_⟩) hHeld ?_ ?_
    rotate_left
    · rintro w' ⟨s0, s1, s2, s3⟩
      go_simp
      with_reducible rfl
    rotate_left
    · simp only [Act.put, List.setIfInBounds_toArray, List.set_cons_zero, List.set_cons_succ, i64_w, i32_w]
      rfl
    refine pure_ (i := 14) (N := some 73) (v := ?_) (a' := ?_) #[true, true, true, true, true, true, true, true, true, true, true, true, true, true, true, true, true, true, false, true, false, false, false, false, false, false] rfl rfl (by kernel_rfl) (fun _ _ _ h => h) (Or.inl ⟨by rfl, ?_⟩) ?_ ?_
    rotate_left
    · intro w'
      go_simp
      with_reducible rfl
    rotate_left
    · simp only [Act.put, List.setIfInBounds_toArray, List.set_cons_zero, List.set_cons_succ, i64_w, i32_w]
      rfl
    refine take_ (i := 18) (N := some 77) (v := ?_) (a' := ?_) #[true, true, true, true, true, true, true, true, true, true, true, true, true, true, true, true, true, true, true, true, false, false, false, false, false, false] rfl rfl (by kernel_rfl) (fun _ _ _ h => h) (Or.inl ⟨by rfl, ?_⟩) hHeld ?_ ?_
    rotate_left
    · rintro w' ⟨s0, s1, s2, s3⟩
      go_simp
      with_reducible rfl
    rotate_left
    · simp only [Act.put, List.setIfInBounds_toArray, List.set_cons_zero, List.set_cons_succ, i64_w, i32_w]
      rfl
    refine pure_ (i := 20) (N := some 79) (v := ?_) (a' := ?_) #[true, true, true, true, true, true, true, true, true, true, true, true, true, true, true, true, true, true, true, true, true, false, false, false, false, false] rfl rfl (by kernel_rfl) (fun _ _ _ h => h) (Or.inl ⟨by rfl, ?_⟩) ?_ ?_
    rotate_left
    · intro w'
      go_simp
      with_reducible rfl
    rotate_left
    · simp only [Act.put, List.setIfInBounds_toArray, List.set_cons_zero, List.set_cons_succ, i64_w, i32_w]
      rfl
    refine take_ (i := 21) (N := some 80) (v := ?_) (a' := ?_) #[true, true, true, true, true, true, true, true, true, true, true, true, true, true, true, true, true, true, true, true, true, true, false, false, false, false] rfl rfl (by kernel_rfl) (fun _ _ _ h => h) (Or.inl ⟨by rfl, ?_⟩) hHeld ?_ ?_
    rotate_left
    · rintro w' ⟨s0, s1, s2, s3⟩
      go_simp
      with_reducible rfl
    rotate_left
    · simp only [Act.put, List.setIfInBounds_toArray, List.set_cons_zero, List.set_cons_succ, i64_w, i32_w]
      rfl
    refine pure_ (i := 22) (N := some 81) (v := ?_) (a' := ?_) #[true, true, true, true, true, true, true, true, true, true, true, true, true, true, true, true, true, true, true, true, true, true, true, false, false, false] rfl rfl (by kernel_rfl) (fun _ _ _ h => h) (Or.inl ⟨by rfl, ?_⟩) ?_ ?_
    rotate_left
    · intro w'
      go_simp
      with_reducible rfl
    rotate_left
    · simp only [Act.put, List.setIfInBounds_toArray, List.set_cons_zero, List.set_cons_succ, i64_w, i32_w]
      rfl
    refine pure_ (i := 23) (N := some 82) (v := ?_) (a' := ?_) #[true, true, true, true, true, true, true, true, true, true, true, true, true, true, true, true, true, true, true, true, true, true, true, true, false, false] rfl rfl (by kernel_rfl) (fun _ _ _ h => h) (Or.inl ⟨by rfl, ?_⟩) ?_ ?_
    rotate_left
    · intro w'
      go_simp
      with_reducible rfl
    rotate_left
    · simp only [Act.put, List.setIfInBounds_toArray, List.set_cons_zero, List.set_cons_succ, i64_w, i32_w]
      rfl
    refine pure_ (i := 24) (N := some 83) (v := ?_) (a' := ?_) #[true, true, true, true, true, true, true, true, true, true, true, true, true, true, true, true, true, true, true, true, true, true, true, true, true, false] rfl rfl (by kernel_rfl) (fun _ _ _ h => h) (Or.inl ⟨by rfl, ?_⟩) ?_ ?_
    rotate_left
    · intro w'
      go_simp
      with_reducible rfl
    rotate_left
    · simp only [Act.put, List.setIfInBounds_toArray, List.set_cons_zero, List.set_cons_succ, i64_w, i32_w]
      rfl
    refine pure_ (i := 25) (N := some 6) (v := ?_) (a' := ?_) #[true, true, true, true, true, true, true, true, true, true, true, true, true, true, true, true, true, true, true, true, true, true, true, true, true, true] rfl rfl (by kernel_rfl) (fun _ _ _ h => h) (Or.inl ⟨by rfl, ?_⟩) ?_ ?_
    rotate_left
    · intro w'
      go_simp
      with_reducible rfl
    rotate_left
    · simp only [Act.put, List.setIfInBounds_toArray, List.set_cons_zero, List.set_cons_succ, i64_w, i32_w]
      rfl
    refine done_ (by kernel_rfl) ?_
    clear hHeld
    go_wp2
    go_ret
    exact ⟨rfl, HB.out⟩
  · have hh : hopsS M D n a c = if hasS (M.getD 0 0) a = true ∧ hasS (M.getD 0 0) c = true then 0 else -1 := by
      unfold hopsS
      by_cases h1 : hasS (M.getD 0 0) a = true ∧ hasS (M.getD 0 0) c = true
      · rw [if_pos h1, if_pos h1, if_pos (Classical.byContradiction fun h2 => hboth ⟨h1.1, h1.2, h2⟩)]
      · rw [if_neg h1, if_neg h1]
    rw [hh]
    have hac : hasS (M.getD 0 0) a = true → hasS (M.getD 0 0) c = true → a = c := fun h1 h2 => Classical.byContradiction fun h3 => hboth ⟨h1, h2, h3⟩
    obtain ⟨p, hp⟩ : ∃ p, hasS (M.getD 0 0) a = p := ⟨_, rfl⟩
    obtain ⟨q, hq⟩ : ∃ p, hasS (M.getD 0 0) c = p := ⟨_, rfl⟩
    obtain ⟨m0, hm0⟩ : ∃ m, M.getD 0 0 = m := ⟨_, rfl⟩
    rw [hp] at KA
    rw [hq] at KC
    rw [hp, hq] at hac ⊢
    rw [hm0] at KA KC qa
    clear h hM hD hml hdp hboth hh hp hq hm0 hl1
    cases p with
    | false =>
      clear hac KC
      rw [if_neg (fun hh => by cases hh.1)]
      go_enter Tryd.func79, Tryd.ntmps79
      go_wp2_with (go_at_call 29; with_reducible refine (KA.out _).mono ?_; rintro e w2 ⟨rfl, rfl⟩)
      go_ret; exact ⟨rfl, Below.refl _ _⟩
    | true =>
      cases q with
      | false =>
        clear hac
        rw [if_neg (fun hh => by cases hh.2)]
        go_enter Tryd.func79, Tryd.ntmps79
        go_wp2_with (first
          | (go_at_call 29; with_reducible refine (KA.out _).mono ?_; rintro e w2 ⟨rfl, rfl⟩)
          | (go_at_call 29; with_reducible refine (KC.out _).mono ?_; rintro e w2 ⟨rfl, rfl⟩))
        go_ret; exact ⟨rfl, Below.refl _ _⟩
      | true =>
        have e := hac rfl rfl
        rw [if_pos ⟨rfl, rfl⟩]
        have e1 : (a == c) = true := by simp [e]
        clear hac e
        go_enter Tryd.func79, Tryd.ntmps79
        go_wp2_with (first
          | (go_at_call 29; with_reducible refine (KA.out _).mono ?_; rintro e w2 ⟨rfl, rfl⟩)
          | (go_at_call 29; with_reducible refine (KC.out _).mono ?_; rintro e w2 ⟨rfl, rfl⟩))
        go_ret; exact ⟨rfl, Below.refl _ _⟩
end Go.Proofs.YtmjkgnlmdcmdbaaDoor.Topo
