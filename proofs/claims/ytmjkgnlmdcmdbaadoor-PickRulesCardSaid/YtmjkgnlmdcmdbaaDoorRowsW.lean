/- PickRows: the law's own rows of a list: the walk. -/
import Derived.Test.YtmjkgnlmdcmdbaaDoorRowsL
namespace Go.Proofs.YtmjkgnlmdcmdbaaDoor.Pick
open Go.RowKit Go.Proofs.YtmjkgnlmdcmdbaaDoorW.PrintWords Go.Proofs.YtmjkgnlmdcmdbaaDoorW.PrintLast Go.Proofs.YtmjkgnlmdcmdbaaDoorW.PrintMore Go.Proofs.YtmjkgnlmdcmdbaaDoor.Row Go.Proofs.YtmjkgnlmdcmdbaaDoor.Sets
set_option linter.unusedVariables false
set_option linter.unusedSimpArgs false
set_option maxRecDepth 100000 in
set_option maxHeartbeats 2000000 in
theorem rows38_any (A : Option Addr) (n c : Nat) (l : List Nat) (w : World) (hr : Rds (Value.int .i64) w A (Sets.nums l)) (hl : l.length = n) (h64 : n ≤ 64) (hlt : ∀ i, l.getD i 0 < 64) :
    Calls Tryd.prog 70 #[.slice A n c] w fun e w' => ∃ v, e = .returned v ∧ K2.R 101 w' w.heap.size (fun _ => True) v (prs (rowsOn l)) ∧ Below w.heap.size w w' := by
  have HR := Lib.hid hr
  have HL := Lib.hid hl
  have HLT := Lib.hid hlt
  have HB := Lib.hid (Below.refl w.heap.size w)
  clear hr hl hlt
  go_enter Tryd.func70, Tryd.ntmps70
  go_wp2
  go_loopg [3, 4] (n + 1) (fun kq v3 v4 w' => ∃ (i : Nat), v4 = .int .i64 i ∧ Aside0 (i + kq = n + 1 ∧ 1 ≤ kq) ∧ Aside0 (K2.R 101 w' w.heap.size (fun _ => True) v3 (prs (rowsOn (l.take i)))) ∧ Aside0 (Below w.heap.size w w'))
  case atStart => exact ⟨0, rfl, ⟨by omega, by omega⟩, ⟨Kd.R_nil _ _ _ _ _⟩, ⟨HB.out⟩⟩
  case round =>
    clear HB
    obtain ⟨i, rfl, HI, HO, HB⟩ := hrel
    obtain ⟨k1, rfl⟩ : ∃ k1, gk = k1 + 1 := ⟨gk - 1, by have := HI.out; omega⟩
    by_cases c1 : i < n
    · have d1 : decide (i < n) = true := decide_eq_true c1
      have d2 : decide ((i : Int) < (n : Int)) = true := decide_eq_true (by omega)
      have HC1 := Lib.hid c1
      obtain ⟨ad, rfl, -⟩ := rdsI_at (HR.out.below HB.out) i (by rw [HL.out]; exact c1)
      have hsn := rowsOn_snoc (l.getD i 0) (l.take i)
      have htk : l.take (i + 1) = l.take i ++ [l.getD i 0] := by
        rw [List.take_succ_eq_append_getElem (by rw [HL.out]; exact c1), List.getD_eq_getElem?_getD, List.getElem?_eq_getElem (by rw [HL.out]; exact c1)]
        rfl
      rw [← htk] at hsn
      have hll := rowsOn_len (l.take i)
      have hsm := rowsOn_at_small (l.take i)
      have hil : (l.take i).length = i := by rw [List.length_take, HL.out]; omega
      rw [hil] at hsn hll
      have hsm : ∀ q, ((rowsOn (l.take i)).getD q (0, 0)).2 ≤ i := fun q => by have := hsm q; rw [hil] at this; exact this
      obtain ⟨x, hx⟩ : ∃ x, l.getD i 0 = x := ⟨_, rfl⟩
      have hx64 := HLT.out i
      rw [hx] at hsn hx64
      have HX : Hid (i < l.length ∧ l.getD i 0 = x) := Lib.hid ⟨by rw [HL.out]; exact c1, hx⟩
      have HHL := Lib.hid hll
      have HSM := Lib.hid hsm
      have hne : i ≠ 0 → l.take i ≠ [] := fun h e => by rw [e] at hil; exact h hil.symm
      have hlast : i ≠ 0 → (l.take i).getD (i - 1) 0 = l.getD (i - 1) 0 := fun h => by
        rw [List.getD_eq_getElem?_getD, List.getElem?_take, if_pos (by omega), ← List.getD_eq_getElem?_getD]
      have hro : i ≠ 0 → rowsOn (l.take i) ≠ [] := fun h e => by
        cases hc : l.take i with
        | nil => exact hne h hc
        | cons a b => rw [hc] at e; exact rowsOn_ne a b e
      have HRO := Lib.hid hro
      have x0 : (0 ≤ (i : Int) ∧ (i : Int) < (n : Int)) = True := eq_true ⟨by omega, by omega⟩
      have y0 : ((i : Int) < (n : Int)) = True := eq_true (by omega)
      have xt : ((i : Int)).toNat = i := by omega
      clear htk hll hil hx hro hsm
      obtain ⟨L, hLL⟩ : ∃ L, rowsOn (l.take i) = L := ⟨_, rfl⟩
      rw [hLL] at HO hsn HHL HRO HSM
      clear hLL
      by_cases c0 : i = 0
      · have e0 : decide (0 < (i : Int)) = false := decide_eq_false (by omega)
        have e1 : decide (0 < i) = false := decide_eq_false (by omega)
        have HSN : Hid (rowsOn (l.take (i + 1)) = L ++ [(x, 1)]) := Lib.hid (by rw [hsn, if_neg (fun h => h.1 (by rw [c0]; rfl))])
        clear hsn hne hlast c0
        go_upto_region 5 with fail
        refine start_ (n := 15) (S := fun w' => True) (ds := []) #[false, false, false, false, false, false, false, false, false, false, false, false, false, false, false] (by kernel_rfl) rfl rfl trivial (fun hHeld => ?_)
        have n_ := Lib.hid (Kd.R_below HO.out (below_drew (Below.refl _ _)))
        have n2_ := Lib.hid (below_drew1 HB.out)
        clear HO HB
        have HO := n_
        have HB := n2_
        clear n_ n2_
        generalize wr.drew = w12 at HO HB ⊢
        refine pure_ (i := 0) (N := some 12) (v := ?_) (a' := ?_) #[true, false, false, false, false, false, false, false, false, false, false, false, false, false, false] rfl rfl (by kernel_rfl) (fun _ _ _ h => h) (Or.inl ⟨by rfl, ?_⟩) ?_ ?_
        rotate_left
        · intro w'
          go_simp
          with_reducible rfl
        rotate_left
        · simp only [Act.put, List.setIfInBounds_toArray, List.set_cons_zero, List.set_cons_succ, i64_w, i32_w]
          rfl
        refine pure_ (i := 1) (N := some 13) (v := ?_) (a' := ?_) #[true, true, false, false, false, false, false, false, false, false, false, false, false, false, false] rfl rfl (by kernel_rfl) (fun _ _ _ h => h) (Or.inl ⟨by rfl, ?_⟩) ?_ ?_
        rotate_left
        · intro w'
          go_simp
          with_reducible rfl
        rotate_left
        · simp only [Act.put, List.setIfInBounds_toArray, List.set_cons_zero, List.set_cons_succ, i64_w, i32_w]
          rfl
        refine pure_ (i := 2) (N := some 14) (v := ?_) (a' := ?_) #[true, true, true, false, false, false, false, false, false, false, false, false, false, false, false] rfl rfl (by kernel_rfl) (fun _ _ _ h => h) (Or.inl ⟨by rfl, ?_⟩) ?_ ?_
        rotate_left
        · intro w'
          go_simp
          with_reducible rfl
        rotate_left
        · simp only [Act.put, List.setIfInBounds_toArray, List.set_cons_zero, List.set_cons_succ, i64_w, i32_w]
          rfl
        refine pure_ (i := 3) (N := some 15) (v := undef) (a' := ?_) #[true, true, true, true, false, false, false, false, false, false, false, false, false, false, false] rfl rfl (by kernel_rfl) (fun _ _ _ h => h) (Or.inr ⟨by rfl, rfl⟩) ?_ ?_
        rotate_left
        · simp only [Act.put, List.setIfInBounds_toArray, List.set_cons_zero, List.set_cons_succ, i64_w, i32_w]
          rfl
        refine pure_ (i := 4) (N := some 16) (v := undef) (a' := ?_) #[true, true, true, true, true, false, false, false, false, false, false, false, false, false, false] rfl rfl (by kernel_rfl) (fun _ _ _ h => h) (Or.inr ⟨by rfl, rfl⟩) ?_ ?_
        rotate_left
        · simp only [Act.put, List.setIfInBounds_toArray, List.set_cons_zero, List.set_cons_succ, i64_w, i32_w]
          rfl
        refine pure_ (i := 5) (N := some 17) (v := undef) (a' := ?_) #[true, true, true, true, true, true, false, false, false, false, false, false, false, false, false] rfl rfl (by kernel_rfl) (fun _ _ _ h => h) (Or.inr ⟨by rfl, rfl⟩) ?_ ?_
        rotate_left
        · simp only [Act.put, List.setIfInBounds_toArray, List.set_cons_zero, List.set_cons_succ, i64_w, i32_w]
          rfl
        refine pure_ (i := 6) (N := some 18) (v := undef) (a' := ?_) #[true, true, true, true, true, true, true, false, false, false, false, false, false, false, false] rfl rfl (by kernel_rfl) (fun _ _ _ h => h) (Or.inr ⟨by rfl, rfl⟩) ?_ ?_
        rotate_left
        · simp only [Act.put, List.setIfInBounds_toArray, List.set_cons_zero, List.set_cons_succ, i64_w, i32_w]
          rfl
        refine pure_ (i := 7) (N := some 19) (v := undef) (a' := ?_) #[true, true, true, true, true, true, true, true, false, false, false, false, false, false, false] rfl rfl (by kernel_rfl) (fun _ _ _ h => h) (Or.inr ⟨by rfl, rfl⟩) ?_ ?_
        rotate_left
        · simp only [Act.put, List.setIfInBounds_toArray, List.set_cons_zero, List.set_cons_succ, i64_w, i32_w]
          rfl
        refine pure_ (i := 8) (N := some 20) (v := undef) (a' := ?_) #[true, true, true, true, true, true, true, true, true, false, false, false, false, false, false] rfl rfl (by kernel_rfl) (fun _ _ _ h => h) (Or.inr ⟨by rfl, rfl⟩) ?_ ?_
        rotate_left
        · simp only [Act.put, List.setIfInBounds_toArray, List.set_cons_zero, List.set_cons_succ, i64_w, i32_w]
          rfl
        refine pure_ (i := 9) (N := some 21) (v := undef) (a' := ?_) #[true, true, true, true, true, true, true, true, true, true, false, false, false, false, false] rfl rfl (by kernel_rfl) (fun _ _ _ h => h) (Or.inr ⟨by rfl, rfl⟩) ?_ ?_
        rotate_left
        · simp only [Act.put, List.setIfInBounds_toArray, List.set_cons_zero, List.set_cons_succ, i64_w, i32_w]
          rfl
        refine pure_ (i := 10) (N := some 22) (v := undef) (a' := ?_) #[true, true, true, true, true, true, true, true, true, true, true, false, false, false, false] rfl rfl (by kernel_rfl) (fun _ _ _ h => h) (Or.inr ⟨by rfl, rfl⟩) ?_ ?_
        rotate_left
        · simp only [Act.put, List.setIfInBounds_toArray, List.set_cons_zero, List.set_cons_succ, i64_w, i32_w]
          rfl
        refine pure_ (i := 11) (N := some 23) (v := undef) (a' := ?_) #[true, true, true, true, true, true, true, true, true, true, true, true, false, false, false] rfl rfl (by kernel_rfl) (fun _ _ _ h => h) (Or.inr ⟨by rfl, rfl⟩) ?_ ?_
        rotate_left
        · simp only [Act.put, List.setIfInBounds_toArray, List.set_cons_zero, List.set_cons_succ, i64_w, i32_w]
          rfl
        refine pure_ (i := 12) (N := some 24) (v := undef) (a' := ?_) #[true, true, true, true, true, true, true, true, true, true, true, true, true, false, false] rfl rfl (by kernel_rfl) (fun _ _ _ h => h) (Or.inr ⟨by rfl, rfl⟩) ?_ ?_
        rotate_left
        · simp only [Act.put, List.setIfInBounds_toArray, List.set_cons_zero, List.set_cons_succ, i64_w, i32_w]
          rfl
        refine pure_ (i := 13) (N := some 25) (v := undef) (a' := ?_) #[true, true, true, true, true, true, true, true, true, true, true, true, true, true, false] rfl rfl (by kernel_rfl) (fun _ _ _ h => h) (Or.inr ⟨by rfl, rfl⟩) ?_ ?_
        rotate_left
        · simp only [Act.put, List.setIfInBounds_toArray, List.set_cons_zero, List.set_cons_succ, i64_w, i32_w]
          rfl
        refine pure_ (i := 14) (N := some 26) (v := ?_) (a' := ?_) #[true, true, true, true, true, true, true, true, true, true, true, true, true, true, true] rfl rfl (by kernel_rfl) (fun _ _ _ h => h) (Or.inl ⟨by rfl, ?_⟩) ?_ ?_
        rotate_left
        · intro w'
          go_simp
          with_reducible rfl
        rotate_left
        · simp only [Act.put, List.setIfInBounds_toArray, List.set_cons_zero, List.set_cons_succ, i64_w, i32_w]
          rfl
        refine done_ (by kernel_rfl) ?_
        have q0 := rdsI_val (HR.out.below HB.out) i x HX.out
        have HL1 : Hid ((prs L).length = L.length) := Lib.hid (prs_len L)
        go_wp2_with ((with_reducible refine gate_builtin (b := .append) (xs := #[.tmp 44, .tmp 50]) rfl ?_); at_builtin; go_loud (refine Kd.R_append K2 (w0 := w) w.heap.size rfl (.tmp 44) (.tmp 50) 98 101 (.agg #[.int .i64 0, .int .i64 0]) 16 rfl Tryd.underlying98 info_pair pair_cells pair_sz (by omega) _ (prs L) ((x : Int), (1 : Int)) [.int .i64 (x : Int), .int .i64 1] (fun _ => True) (fun _ => False) rfl rfl ?aPa (fun _ hk => hk.elim) ?aFa ?aOa ?aBa ?aSa ?aLa ?_; (case aPa => exact pair_M _ _ _ _ _); (case aBa => exact HB.out); (case aFa => exact (fun _ _ => trivial)); (case aOa => exact HO.out); (case aSa => exact below_size HB.out); (case aLa => have := HL1.out; have := HHL.out; have := HC1.out; omega); intro v113 w5 ho hb hg hat; have HO1 := Lib.hid ho; have HB1 := Lib.hid hb); clear ho hb hg hat)
        go_roundg k1
        case measure => have := HI.out; omega
        case rel => exact ⟨i + 1, by go_num, ⟨by have := HI.out; omega, by have := HI.out; have := HC1.out; omega⟩, ⟨by rw [HSN.out, prs_snoc]; exact HO1.out⟩, ⟨HB1.out⟩⟩
      · have e0 : decide (0 < (i : Int)) = true := decide_eq_true (by omega)
        have e1 : decide (0 < i) = true := decide_eq_true (by omega)
        have hlast := hlast c0
        have hne := hne c0
        have hro := HRO.out c0
        obtain ⟨j, hj⟩ : ∃ j, i - 1 = j := ⟨_, rfl⟩
        obtain ⟨y, hy⟩ : ∃ y, l.getD j 0 = y := ⟨_, rfl⟩
        rw [hj, hy] at hlast
        rw [hj, hlast] at hsn
        have hy64 := HLT.out j
        rw [hy] at hy64
        have HY : Hid (j < l.length ∧ l.getD j 0 = y) := Lib.hid ⟨by rw [HL.out]; omega, hy⟩
        have WA := Lib.hid (wrap_ok (show (i : Int) - 1 = (j : Int) by omega) (by omega) (by omega))
        have WB := Lib.hid (wrap_ok (show (y : Int) + 1 = (y : Int) + 1 from rfl) (by omega) (by omega))
        have x1 : (0 ≤ (j : Int) ∧ (j : Int) < (n : Int)) = True := eq_true ⟨by omega, by omega⟩
        have y1 : ((j : Int) < (n : Int)) = True := eq_true (by omega)
        have xt1 : ((j : Int)).toNat = j := by omega
        clear hlast hy
        by_cases cy : y + 1 = x
        · have e2 : ((x : Int) == (y : Int) + 1) = true := by simp; omega
          have HSN : Hid (rowsOn (l.take (i + 1)) = bump L) := Lib.hid (by rw [hsn, if_pos ⟨hne, cy⟩])
          clear hsn hne
          have w1 := WA.out.1
          have w2 := WA.out.2
          have w3 := WB.out.1
          have w4 := WB.out.2
          go_upto_region 5 with fail
          refine start_ (n := 15) (S := fun w' => w'.cell? (ad.add i) = some (.int .i64 (x : Int)) ∧ w'.cell? (ad.add j) = some (.int .i64 (y : Int))) (ds := []) #[false, false, false, false, false, false, false, false, false, false, false, false, false, false, false] (by kernel_rfl) rfl rfl ⟨(rdsI_val (HR.out.below HB.out) i x HX.out), (rdsI_val (HR.out.below HB.out) j y HY.out)⟩ (fun hHeld => ?_)
          have n_ := Lib.hid (Kd.R_below HO.out (below_drew (Below.refl _ _)))
          have n2_ := Lib.hid (below_drew1 HB.out)
          clear HO HB
          have HO := n_
          have HB := n2_
          clear n_ n2_
          generalize wr.drew = w12 at HO HB hHeld ⊢
          refine pure_ (i := 0) (N := some 12) (v := ?_) (a' := ?_) #[true, false, false, false, false, false, false, false, false, false, false, false, false, false, false] rfl rfl (by kernel_rfl) (fun _ _ _ h => h) (Or.inl ⟨by rfl, ?_⟩) ?_ ?_
          rotate_left
          · intro w'
            go_simp
            with_reducible rfl
          rotate_left
          · simp only [Act.put, List.setIfInBounds_toArray, List.set_cons_zero, List.set_cons_succ, i64_w, i32_w]
            rfl
          refine pure_ (i := 1) (N := some 13) (v := ?_) (a' := ?_) #[true, true, false, false, false, false, false, false, false, false, false, false, false, false, false] rfl rfl (by kernel_rfl) (fun _ _ _ h => h) (Or.inl ⟨by rfl, ?_⟩) ?_ ?_
          rotate_left
          · intro w'
            go_simp
            with_reducible rfl
          rotate_left
          · simp only [Act.put, List.setIfInBounds_toArray, List.set_cons_zero, List.set_cons_succ, i64_w, i32_w]
            rfl
          refine pure_ (i := 2) (N := some 14) (v := ?_) (a' := ?_) #[true, true, true, false, false, false, false, false, false, false, false, false, false, false, false] rfl rfl (by kernel_rfl) (fun _ _ _ h => h) (Or.inl ⟨by rfl, ?_⟩) ?_ ?_
          rotate_left
          · intro w'
            go_simp
            with_reducible rfl
          rotate_left
          · simp only [Act.put, List.setIfInBounds_toArray, List.set_cons_zero, List.set_cons_succ, i64_w, i32_w]
            rfl
          refine pure_ (i := 3) (N := some 15) (v := ?_) (a' := ?_) #[true, true, true, true, false, false, false, false, false, false, false, false, false, false, false] rfl rfl (by kernel_rfl) (fun _ _ _ h => h) (Or.inl ⟨by rfl, ?_⟩) ?_ ?_
          rotate_left
          · intro w'
            go_simp
            with_reducible rfl
          rotate_left
          · simp only [Act.put, List.setIfInBounds_toArray, List.set_cons_zero, List.set_cons_succ, i64_w, i32_w]
            rfl
          refine pure_ (i := 4) (N := some 16) (v := ?_) (a' := ?_) #[true, true, true, true, true, false, false, false, false, false, false, false, false, false, false] rfl rfl (by kernel_rfl) (fun _ _ _ h => h) (Or.inl ⟨by rfl, ?_⟩) ?_ ?_
          rotate_left
          · intro w'
            go_simp
            with_reducible rfl
          rotate_left
          · simp only [Act.put, List.setIfInBounds_toArray, List.set_cons_zero, List.set_cons_succ, i64_w, i32_w]
            rfl
          refine pure_ (i := 5) (N := some 17) (v := ?_) (a' := ?_) #[true, true, true, true, true, true, false, false, false, false, false, false, false, false, false] rfl rfl (by kernel_rfl) (fun _ _ _ h => h) (Or.inl ⟨by rfl, ?_⟩) ?_ ?_
          rotate_left
          · intro w'
            go_simp
            with_reducible rfl
          rotate_left
          · simp only [Act.put, List.setIfInBounds_toArray, List.set_cons_zero, List.set_cons_succ, i64_w, i32_w]
            rfl
          refine pure_ (i := 7) (N := some 19) (v := ?_) (a' := ?_) #[true, true, true, true, true, true, false, true, false, false, false, false, false, false, false] rfl rfl (by kernel_rfl) (fun _ _ _ h => h) (Or.inl ⟨by rfl, ?_⟩) ?_ ?_
          rotate_left
          · intro w'
            go_simp
            with_reducible rfl
          rotate_left
          · simp only [Act.put, List.setIfInBounds_toArray, List.set_cons_zero, List.set_cons_succ, i64_w, i32_w]
            rfl
          refine pure_ (i := 8) (N := some 20) (v := ?_) (a' := ?_) #[true, true, true, true, true, true, false, true, true, false, false, false, false, false, false] rfl rfl (by kernel_rfl) (fun _ _ _ h => h) (Or.inl ⟨by rfl, ?_⟩) ?_ ?_
          rotate_left
          · intro w'
            go_simp
            with_reducible rfl
          rotate_left
          · simp only [Act.put, List.setIfInBounds_toArray, List.set_cons_zero, List.set_cons_succ, i64_w, i32_w]
            rfl
          refine pure_ (i := 9) (N := some 21) (v := ?_) (a' := ?_) #[true, true, true, true, true, true, false, true, true, true, false, false, false, false, false] rfl rfl (by kernel_rfl) (fun _ _ _ h => h) (Or.inl ⟨by rfl, ?_⟩) ?_ ?_
          rotate_left
          · intro w'
            go_simp
            with_reducible rfl
          rotate_left
          · simp only [Act.put, List.setIfInBounds_toArray, List.set_cons_zero, List.set_cons_succ, i64_w, i32_w]
            rfl
          refine pure_ (i := 10) (N := some 22) (v := ?_) (a' := ?_) #[true, true, true, true, true, true, false, true, true, true, true, false, false, false, false] rfl rfl (by kernel_rfl) (fun _ _ _ h => h) (Or.inl ⟨by rfl, ?_⟩) ?_ ?_
          rotate_left
          · intro w'
            go_simp
            with_reducible rfl
          rotate_left
          · simp only [Act.put, List.setIfInBounds_toArray, List.set_cons_zero, List.set_cons_succ, i64_w, i32_w]
            rfl
          refine take_ (i := 6) (N := some 18) (v := ?_) (a' := ?_) #[true, true, true, true, true, true, true, true, true, true, true, false, false, false, false] rfl rfl (by kernel_rfl) (fun _ _ _ h => h) (Or.inl ⟨by rfl, ?_⟩) hHeld ?_ ?_
          rotate_left
          · rintro w' ⟨s0, s1⟩
            go_simp
            with_reducible rfl
          rotate_left
          · simp only [Act.put, List.setIfInBounds_toArray, List.set_cons_zero, List.set_cons_succ, i64_w, i32_w]
            rfl
          refine take_ (i := 11) (N := some 23) (v := ?_) (a' := ?_) #[true, true, true, true, true, true, true, true, true, true, true, true, false, false, false] rfl rfl (by kernel_rfl) (fun _ _ _ h => h) (Or.inl ⟨by rfl, ?_⟩) hHeld ?_ ?_
          rotate_left
          · rintro w' ⟨s0, s1⟩
            go_simp
            with_reducible rfl
          rotate_left
          · simp only [Act.put, List.setIfInBounds_toArray, List.set_cons_zero, List.set_cons_succ, i64_w, i32_w]
            rfl
          refine pure_ (i := 12) (N := some 24) (v := ?_) (a' := ?_) #[true, true, true, true, true, true, true, true, true, true, true, true, true, false, false] rfl rfl (by kernel_rfl) (fun _ _ _ h => h) (Or.inl ⟨by rfl, ?_⟩) ?_ ?_
          rotate_left
          · intro w'
            go_simp
            with_reducible rfl
          rotate_left
          · simp only [Act.put, List.setIfInBounds_toArray, List.set_cons_zero, List.set_cons_succ, i64_w, i32_w]
            rfl
          refine pure_ (i := 13) (N := some 25) (v := ?_) (a' := ?_) #[true, true, true, true, true, true, true, true, true, true, true, true, true, true, false] rfl rfl (by kernel_rfl) (fun _ _ _ h => h) (Or.inl ⟨by rfl, ?_⟩) ?_ ?_
          rotate_left
          · intro w'
            go_simp
            with_reducible rfl
          rotate_left
          · simp only [Act.put, List.setIfInBounds_toArray, List.set_cons_zero, List.set_cons_succ, i64_w, i32_w]
            rfl
          refine pure_ (i := 14) (N := some 26) (v := ?_) (a' := ?_) #[true, true, true, true, true, true, true, true, true, true, true, true, true, true, true] rfl rfl (by kernel_rfl) (fun _ _ _ h => h) (Or.inl ⟨by rfl, ?_⟩) ?_ ?_
          rotate_left
          · intro w'
            go_simp
            with_reducible rfl
          rotate_left
          · simp only [Act.put, List.setIfInBounds_toArray, List.set_cons_zero, List.set_cons_succ, i64_w, i32_w]
            rfl
          refine done_ (by kernel_rfl) ?_
          clear hHeld w1 w2 w3 w4
          obtain ⟨g, cap, hv, hg1, hg2, -⟩ := Kd.R_form HO.out (by rw [prs_len]; exact List.length_pos_iff.2 hro)
          rw [prs_len] at hv
          subst hv
          obtain ⟨Q, hQ⟩ : ∃ Q, L.length = Q := ⟨_, rfl⟩
          have HQ := Lib.hid hQ
          have hq1 := List.length_pos_iff.2 hro
          rw [hQ] at HO hq1 ⊢
          have hq64 : Q ≤ 64 := by have := HHL.out; omega
          obtain ⟨q, hq⟩ : ∃ q, Q - 1 = q := ⟨_, rfl⟩
          have HSB : Hid (bump L = L.set q ((L.getD q (0, 0)).1, (L.getD q (0, 0)).2 + 1)) := Lib.hid (by rw [bump_last L hro, hQ, hq])
          have hql : q < L.length := by omega
          obtain ⟨p0, p1, pf0, pf1⟩ := pair_at HO.out q hql
          obtain ⟨a, ha⟩ : ∃ a, (L.getD q (0, 0)).1 = a := ⟨_, rfl⟩
          obtain ⟨m, hm⟩ : ∃ a, (L.getD q (0, 0)).2 = a := ⟨_, rfl⟩
          rw [ha, hm] at HSB
          rw [ha] at p0
          rw [hm] at p1
          have HQL := Lib.hid hql
          have hm64 : m ≤ 64 := by have := HSM.out q; omega
          have WC := Lib.hid (wrap_ok (show (Q : Int) - 1 = (q : Int) by omega) (by omega) (by omega))
          have WD := Lib.hid (wrap_ok (show (m : Int) + 1 = ((m + 1 : Nat) : Int) by omega) (by omega) (by omega))
          have x2 : (0 ≤ (q : Int) ∧ (q : Int) < (Q : Int)) = True := eq_true ⟨by omega, by omega⟩
          have y2 : ((q : Int) < (Q : Int)) = True := eq_true (by omega)
          have xt2 : ((q : Int)).toNat = q := by omega
          clear ha hm hQ hq hql hro
          have w5 := WC.out.1
          have w6 := WC.out.2
          have w7 := WD.out.1
          have w8 := WD.out.2
          go_upto_region 7 with fail
          have cb := blk_new w12 (.cells #[.int .i64 (a : Int), .int .i64 (m : Int)] 101)
          have n_ := Lib.hid (Kd.R_below HO.out (below_alloc (Below.refl _ _) (.cells #[.int .i64 (a : Int), .int .i64 (m : Int)] 101)))
          have n2_ := Lib.hid (below_alloc HB.out (.cells #[.int .i64 (a : Int), .int .i64 (m : Int)] 101))
          clear HO HB p0 p1 pf0 pf1
          have HO := n_
          have HB := n2_
          clear n_ n2_
          generalize w12.alloc (.cells #[.int .i64 (a : Int), .int .i64 (m : Int)] 101) = w13 at HO HB cb ⊢
          generalize w12.heap.size = bx at hg2 cb ⊢
          have b0 := (blk_cell cb 0).trans rfl
          have b1 := (blk_cell cb 1).trans rfl
          obtain ⟨p0, p1, pf0, pf1⟩ := pair_at HO.out q HQL.out
          clear cb
          go_wp2
          clear w5 w6 w7 w8
          go_roundg k1
          case measure => have := HI.out; omega
          case rel => exact ⟨i + 1, by go_num, ⟨by have := HI.out; omega, by have := HI.out; have := HC1.out; omega⟩, ⟨by rw [HSN.out, HSB.out]; exact pair_put HO.out q HQL.out a (m + 1)⟩, ⟨(HB.out.setCell (p := ⟨g, q * 2, none⟩) hg1 _).setCell (p := ⟨g, q * 2 + 1, none⟩) hg1 _⟩⟩
        · have e2 : ((x : Int) == (y : Int) + 1) = false := by simp; omega
          have HSN : Hid (rowsOn (l.take (i + 1)) = L ++ [(x, 1)]) := Lib.hid (by rw [hsn, if_neg (fun h => cy h.2)])
          clear hsn hne
          have w1 := WA.out.1
          have w2 := WA.out.2
          have w3 := WB.out.1
          have w4 := WB.out.2
          go_upto_region 5 with fail
          refine start_ (n := 15) (S := fun w' => w'.cell? (ad.add i) = some (.int .i64 (x : Int)) ∧ w'.cell? (ad.add j) = some (.int .i64 (y : Int))) (ds := []) #[false, false, false, false, false, false, false, false, false, false, false, false, false, false, false] (by kernel_rfl) rfl rfl ⟨(rdsI_val (HR.out.below HB.out) i x HX.out), (rdsI_val (HR.out.below HB.out) j y HY.out)⟩ (fun hHeld => ?_)
          have n_ := Lib.hid (Kd.R_below HO.out (below_drew (Below.refl _ _)))
          have n2_ := Lib.hid (below_drew1 HB.out)
          clear HO HB
          have HO := n_
          have HB := n2_
          clear n_ n2_
          generalize wr.drew = w12 at HO HB hHeld ⊢
          refine pure_ (i := 0) (N := some 12) (v := ?_) (a' := ?_) #[true, false, false, false, false, false, false, false, false, false, false, false, false, false, false] rfl rfl (by kernel_rfl) (fun _ _ _ h => h) (Or.inl ⟨by rfl, ?_⟩) ?_ ?_
          rotate_left
          · intro w'
            go_simp
            with_reducible rfl
          rotate_left
          · simp only [Act.put, List.setIfInBounds_toArray, List.set_cons_zero, List.set_cons_succ, i64_w, i32_w]
            rfl
          refine pure_ (i := 1) (N := some 13) (v := ?_) (a' := ?_) #[true, true, false, false, false, false, false, false, false, false, false, false, false, false, false] rfl rfl (by kernel_rfl) (fun _ _ _ h => h) (Or.inl ⟨by rfl, ?_⟩) ?_ ?_
          rotate_left
          · intro w'
            go_simp
            with_reducible rfl
          rotate_left
          · simp only [Act.put, List.setIfInBounds_toArray, List.set_cons_zero, List.set_cons_succ, i64_w, i32_w]
            rfl
          refine pure_ (i := 2) (N := some 14) (v := ?_) (a' := ?_) #[true, true, true, false, false, false, false, false, false, false, false, false, false, false, false] rfl rfl (by kernel_rfl) (fun _ _ _ h => h) (Or.inl ⟨by rfl, ?_⟩) ?_ ?_
          rotate_left
          · intro w'
            go_simp
            with_reducible rfl
          rotate_left
          · simp only [Act.put, List.setIfInBounds_toArray, List.set_cons_zero, List.set_cons_succ, i64_w, i32_w]
            rfl
          refine pure_ (i := 3) (N := some 15) (v := ?_) (a' := ?_) #[true, true, true, true, false, false, false, false, false, false, false, false, false, false, false] rfl rfl (by kernel_rfl) (fun _ _ _ h => h) (Or.inl ⟨by rfl, ?_⟩) ?_ ?_
          rotate_left
          · intro w'
            go_simp
            with_reducible rfl
          rotate_left
          · simp only [Act.put, List.setIfInBounds_toArray, List.set_cons_zero, List.set_cons_succ, i64_w, i32_w]
            rfl
          refine pure_ (i := 4) (N := some 16) (v := ?_) (a' := ?_) #[true, true, true, true, true, false, false, false, false, false, false, false, false, false, false] rfl rfl (by kernel_rfl) (fun _ _ _ h => h) (Or.inl ⟨by rfl, ?_⟩) ?_ ?_
          rotate_left
          · intro w'
            go_simp
            with_reducible rfl
          rotate_left
          · simp only [Act.put, List.setIfInBounds_toArray, List.set_cons_zero, List.set_cons_succ, i64_w, i32_w]
            rfl
          refine pure_ (i := 5) (N := some 17) (v := ?_) (a' := ?_) #[true, true, true, true, true, true, false, false, false, false, false, false, false, false, false] rfl rfl (by kernel_rfl) (fun _ _ _ h => h) (Or.inl ⟨by rfl, ?_⟩) ?_ ?_
          rotate_left
          · intro w'
            go_simp
            with_reducible rfl
          rotate_left
          · simp only [Act.put, List.setIfInBounds_toArray, List.set_cons_zero, List.set_cons_succ, i64_w, i32_w]
            rfl
          refine pure_ (i := 7) (N := some 19) (v := ?_) (a' := ?_) #[true, true, true, true, true, true, false, true, false, false, false, false, false, false, false] rfl rfl (by kernel_rfl) (fun _ _ _ h => h) (Or.inl ⟨by rfl, ?_⟩) ?_ ?_
          rotate_left
          · intro w'
            go_simp
            with_reducible rfl
          rotate_left
          · simp only [Act.put, List.setIfInBounds_toArray, List.set_cons_zero, List.set_cons_succ, i64_w, i32_w]
            rfl
          refine pure_ (i := 8) (N := some 20) (v := ?_) (a' := ?_) #[true, true, true, true, true, true, false, true, true, false, false, false, false, false, false] rfl rfl (by kernel_rfl) (fun _ _ _ h => h) (Or.inl ⟨by rfl, ?_⟩) ?_ ?_
          rotate_left
          · intro w'
            go_simp
            with_reducible rfl
          rotate_left
          · simp only [Act.put, List.setIfInBounds_toArray, List.set_cons_zero, List.set_cons_succ, i64_w, i32_w]
            rfl
          refine pure_ (i := 9) (N := some 21) (v := ?_) (a' := ?_) #[true, true, true, true, true, true, false, true, true, true, false, false, false, false, false] rfl rfl (by kernel_rfl) (fun _ _ _ h => h) (Or.inl ⟨by rfl, ?_⟩) ?_ ?_
          rotate_left
          · intro w'
            go_simp
            with_reducible rfl
          rotate_left
          · simp only [Act.put, List.setIfInBounds_toArray, List.set_cons_zero, List.set_cons_succ, i64_w, i32_w]
            rfl
          refine pure_ (i := 10) (N := some 22) (v := ?_) (a' := ?_) #[true, true, true, true, true, true, false, true, true, true, true, false, false, false, false] rfl rfl (by kernel_rfl) (fun _ _ _ h => h) (Or.inl ⟨by rfl, ?_⟩) ?_ ?_
          rotate_left
          · intro w'
            go_simp
            with_reducible rfl
          rotate_left
          · simp only [Act.put, List.setIfInBounds_toArray, List.set_cons_zero, List.set_cons_succ, i64_w, i32_w]
            rfl
          refine take_ (i := 6) (N := some 18) (v := ?_) (a' := ?_) #[true, true, true, true, true, true, true, true, true, true, true, false, false, false, false] rfl rfl (by kernel_rfl) (fun _ _ _ h => h) (Or.inl ⟨by rfl, ?_⟩) hHeld ?_ ?_
          rotate_left
          · rintro w' ⟨s0, s1⟩
            go_simp
            with_reducible rfl
          rotate_left
          · simp only [Act.put, List.setIfInBounds_toArray, List.set_cons_zero, List.set_cons_succ, i64_w, i32_w]
            rfl
          refine take_ (i := 11) (N := some 23) (v := ?_) (a' := ?_) #[true, true, true, true, true, true, true, true, true, true, true, true, false, false, false] rfl rfl (by kernel_rfl) (fun _ _ _ h => h) (Or.inl ⟨by rfl, ?_⟩) hHeld ?_ ?_
          rotate_left
          · rintro w' ⟨s0, s1⟩
            go_simp
            with_reducible rfl
          rotate_left
          · simp only [Act.put, List.setIfInBounds_toArray, List.set_cons_zero, List.set_cons_succ, i64_w, i32_w]
            rfl
          refine pure_ (i := 12) (N := some 24) (v := ?_) (a' := ?_) #[true, true, true, true, true, true, true, true, true, true, true, true, true, false, false] rfl rfl (by kernel_rfl) (fun _ _ _ h => h) (Or.inl ⟨by rfl, ?_⟩) ?_ ?_
          rotate_left
          · intro w'
            go_simp
            with_reducible rfl
          rotate_left
          · simp only [Act.put, List.setIfInBounds_toArray, List.set_cons_zero, List.set_cons_succ, i64_w, i32_w]
            rfl
          refine pure_ (i := 13) (N := some 25) (v := ?_) (a' := ?_) #[true, true, true, true, true, true, true, true, true, true, true, true, true, true, false] rfl rfl (by kernel_rfl) (fun _ _ _ h => h) (Or.inl ⟨by rfl, ?_⟩) ?_ ?_
          rotate_left
          · intro w'
            go_simp
            with_reducible rfl
          rotate_left
          · simp only [Act.put, List.setIfInBounds_toArray, List.set_cons_zero, List.set_cons_succ, i64_w, i32_w]
            rfl
          refine pure_ (i := 14) (N := some 26) (v := ?_) (a' := ?_) #[true, true, true, true, true, true, true, true, true, true, true, true, true, true, true] rfl rfl (by kernel_rfl) (fun _ _ _ h => h) (Or.inl ⟨by rfl, ?_⟩) ?_ ?_
          rotate_left
          · intro w'
            go_simp
            with_reducible rfl
          rotate_left
          · simp only [Act.put, List.setIfInBounds_toArray, List.set_cons_zero, List.set_cons_succ, i64_w, i32_w]
            rfl
          refine done_ (by kernel_rfl) ?_
          clear hHeld w1 w2 w3 w4
          have q0 := rdsI_val (HR.out.below HB.out) i x HX.out
          have HL1 : Hid ((prs L).length = L.length) := Lib.hid (prs_len L)
          go_wp2_with ((with_reducible refine gate_builtin (b := .append) (xs := #[.tmp 44, .tmp 50]) rfl ?_); at_builtin; go_loud (refine Kd.R_append K2 (w0 := w) w.heap.size rfl (.tmp 44) (.tmp 50) 98 101 (.agg #[.int .i64 0, .int .i64 0]) 16 rfl Tryd.underlying98 info_pair pair_cells pair_sz (by omega) _ (prs L) ((x : Int), (1 : Int)) [.int .i64 (x : Int), .int .i64 1] (fun _ => True) (fun _ => False) rfl rfl ?aPb (fun _ hk => hk.elim) ?aFb ?aOb ?aBb ?aSb ?aLb ?_; (case aPb => exact pair_M _ _ _ _ _); (case aBb => exact HB.out); (case aFb => exact (fun _ _ => trivial)); (case aOb => exact HO.out); (case aSb => exact below_size HB.out); (case aLb => have := HL1.out; have := HHL.out; have := HC1.out; omega); intro v113 w5 ho hb hg hat; have HO1 := Lib.hid ho; have HB1 := Lib.hid hb); clear ho hb hg hat)
          go_roundg k1
          case measure => have := HI.out; omega
          case rel => exact ⟨i + 1, by go_num, ⟨by have := HI.out; omega, by have := HI.out; have := HC1.out; omega⟩, ⟨by rw [HSN.out, prs_snoc]; exact HO1.out⟩, ⟨HB1.out⟩⟩
    · have d1 : decide (i < n) = false := decide_eq_false c1
      have d2 : decide ((i : Int) < (n : Int)) = false := decide_eq_false (by omega)
      obtain rfl : i = n := by have := HI.out; omega
      have hO := HO.out
      rw [← HL.out, List.take_length] at hO
      have HO2 := Lib.hid hO
      clear hO HO
      go_wp2
      go_ret
      exact ⟨_, rfl, HO2.out, HB.out⟩
end Go.Proofs.YtmjkgnlmdcmdbaaDoor.Pick
