/- Law 39: put. -/
import Derived.Test.YtmjkgnlmdcmdbaaDoorTopo
namespace Go.Proofs.YtmjkgnlmdcmdbaaDoor.Topo
open Go.RowKit Go.Proofs.YtmjkgnlmdcmdbaaDoorW.PrintWords Go.Proofs.YtmjkgnlmdcmdbaaDoorW.PrintLast Go.Proofs.YtmjkgnlmdcmdbaaDoorW.PrintMore Go.Proofs.YtmjkgnlmdcmdbaaDoor.Row Go.Proofs.YtmjkgnlmdcmdbaaDoor.Sets Go.Proofs.YtmjkgnlmdcmdbaaDoor.Node
set_option linter.unusedVariables false
set_option linter.unusedSimpArgs false
set_option maxRecDepth 100000
/-- the tree at block b while a switch, boxed at block bx, is put in -/
structure TP (w0 w : World) (b bx : Nat) (a : Int) (q : Nat) (va vm vd : Value) (A : List Int) (M : List Nat) (D : List Int) : Prop where
  tt : TT w b va vm vd A M D
  bk : w.heap[bx]? = some (.cells #[.int .i64 a, .int .u64 q] 136 (0, 0))
  be : Below w0.heap.size w0 w
  ap : w0.heap.size ≤ b ∧ b ≠ bx
section
variable {w0 w w' : World} {b bx q : Nat} {a : Int} {va vm vd : Value} {A D : List Int} {M : List Nat}
theorem TP.below (h : TP w0 w b bx a q va vm vd A M D) (hb : Below w.heap.size w w') : TP w0 w' b bx a q va vm vd A M D :=
  ⟨h.tt.below hb, (hb.block bx (blk_lt h.bk)).trans h.bk, below_step h.be hb, h.ap⟩
theorem TP.drew (h : TP w0 w b bx a q va vm vd A M D) : TP w0 w.drew b bx a q va vm vd A M D := h.below (below_drew (Below.refl _ _))
theorem TP.ca (h : TP w0 w b bx a q va vm vd A M D) : w.cell? ⟨bx, 0, none⟩ = some (.int .i64 a) := (blk_cell h.bk 0).trans rfl
theorem TP.cq (h : TP w0 w b bx a q va vm vd A M D) : w.cell? ⟨bx, 1, none⟩ = some (.int .u64 q) := (blk_cell h.bk 1).trans rfl
theorem TP.app0 (h : TP w0 w b bx a q va vm vd A M D) {w1 : World} {v1 : Value} {x : Int} (ho : Kd.R (Kd.int .i64) 3 w1 (b + 1) (fun k => True ∧ some k ≠ vd.ownBlock) v1 (A ++ [x])) (hb : Below (b + 1) w w1) (hg : w.grownBy w1 va.ownBlock) (hat : v1.ownBlock = va.ownBlock ∨ ∃ b, v1.ownBlock = some b ∧ w.heap.size ≤ b) :
    TP w0 (w1.setCell ⟨b, 0, none⟩ v1) b bx a q v1 vm vd (A ++ [x]) M D :=
  ⟨h.tt.app0 ho hb hg hat, (Below.heap_setCell w1 ⟨b, 0, none⟩ v1 bx h.ap.2.symm).trans ((hg.block bx (blk_lt h.bk) (Kd.R_ne h.tt.r0 h.bk (by decide))).trans h.bk), (h.be.trans (hb.mono (by have := h.ap.1; omega))).setCell (p := ⟨b, 0, none⟩) h.ap.1 _, h.ap⟩
theorem TP.app1 (h : TP w0 w b bx a q va vm vd A M D) {w1 : World} {v1 : Value} {x : Nat} (ho : Kd.R (Kd.int .u64) 23 w1 (b + 1) (fun _ => True) v1 (Sets.nums M ++ [(x : Int)])) (hb : Below (b + 1) w w1) (hg : w.grownBy w1 vm.ownBlock) :
    TP w0 (w1.setCell ⟨b, 1, none⟩ v1) b bx a q va v1 vd A (M ++ [x]) D :=
  ⟨h.tt.app1 ho hb hg, (Below.heap_setCell w1 ⟨b, 1, none⟩ v1 bx h.ap.2.symm).trans ((hg.block bx (blk_lt h.bk) (Kd.R_ne h.tt.r1 h.bk (by decide))).trans h.bk), (h.be.trans (hb.mono (by have := h.ap.1; omega))).setCell (p := ⟨b, 1, none⟩) h.ap.1 _, h.ap⟩
theorem TP.app2 (h : TP w0 w b bx a q va vm vd A M D) {w1 : World} {v1 : Value} {x : Int} (ho : Kd.R (Kd.int .i64) 3 w1 (b + 1) (fun k => True ∧ some k ≠ va.ownBlock) v1 (D ++ [x])) (hb : Below (b + 1) w w1) (hg : w.grownBy w1 vd.ownBlock) (hat : v1.ownBlock = vd.ownBlock ∨ ∃ b, v1.ownBlock = some b ∧ w.heap.size ≤ b) :
    TP w0 (w1.setCell ⟨b, 2, none⟩ v1) b bx a q va vm v1 A M (D ++ [x]) :=
  ⟨h.tt.app2 ho hb hg hat, (Below.heap_setCell w1 ⟨b, 2, none⟩ v1 bx h.ap.2.symm).trans ((hg.block bx (blk_lt h.bk) (Kd.R_ne h.tt.r2 h.bk (by decide))).trans h.bk), (h.be.trans (hb.mono (by have := h.ap.1; omega))).setCell (p := ⟨b, 2, none⟩) h.ap.1 _, h.ap⟩
theorem TP.set2 {n g c : Nat} (h : TP w0 w b bx a q va vm (.slice (some ⟨g, 0, none⟩) n c) A M D) (i : Nat) (x : Int) : TP w0 (w.setCell ⟨g, i, none⟩ (.int .i64 x)) b bx a q va vm (.slice (some ⟨g, 0, none⟩) n c) A M (D.set i x) :=
  have hg := Kd.R_base h.tt.r2 g (by simp [Value.ownBlock])
  have hn : bx ≠ g := fun e => Kd.R_ne h.tt.r2 h.bk (by decide) (by rw [e]; simp [Value.ownBlock])
  ⟨h.tt.set2 i x, (Below.heap_setCell w ⟨g, i, none⟩ _ bx hn).trans h.bk, h.be.setCell (p := ⟨g, i, none⟩) (by have := h.ap.1; show w0.heap.size ≤ g; omega) _, h.ap⟩
theorem TP.set1 {n g c : Nat} (h : TP w0 w b bx a q va (.slice (some ⟨g, 0, none⟩) n c) vd A M D) (i : Nat) (x : Nat) : TP w0 (w.setCell ⟨g, i, none⟩ (.int .u64 x)) b bx a q va (.slice (some ⟨g, 0, none⟩) n c) vd A (M.set i x) D :=
  have hg := Kd.R_base h.tt.r1 g (by simp [Value.ownBlock])
  have hn : bx ≠ g := fun e => Kd.R_ne h.tt.r1 h.bk (by decide) (by rw [e]; simp [Value.ownBlock])
  ⟨h.tt.set1 i x, (Below.heap_setCell w ⟨g, i, none⟩ _ bx hn).trans h.bk, h.be.setCell (p := ⟨g, i, none⟩) (by have := h.ap.1; show w0.heap.size ≤ g; omega) _, h.ap⟩
end
theorem climb_step (A : List Int) (q f t : Nat) (M : List Nat) : climb A q (f + 1) (t : Int) M = climb A q f (A.getD t 0) (M.set t (M.getD t 0 ||| q)) := by
  show (if (t : Int) < 0 then M else climb A q f (A.getD ((t : Int)).toNat 0) (M.set ((t : Int)).toNat (M.getD ((t : Int)).toNat 0 ||| q))) = _
  rw [if_neg (by omega), show ((t : Int)).toNat = t by omega]
def PutPost (w0 : World) (b : Nat) (A : List Int) (M : List Nat) (D : List Int) (e : Ending) (w' : World) : Prop := e = .returned (.tuple #[]) ∧ (∃ va vm vd, TT w' b va vm vd A M D) ∧ Below w0.heap.size w0 w'
set_option maxHeartbeats 2000000 in
theorem put_any (b k : Nat) (va vm vd : Value) (A D : List Int) (M : List Nat) (a : Int) (q : Nat) (w0 w : World) (h : TT w b va vm vd A M D) (hB : Below w0.heap.size w0 w) (hb : w0.heap.size ≤ b) (hA : A.length = k) (hM : M.length = k) (hD : D.length = k) (hk : k < 64) (ha : -1 ≤ a ∧ a < k)
    (hup : ∀ i, i < k → -1 ≤ A.getD i 0 ∧ A.getD i 0 < i) (hdp : ∀ i, i < k → 0 ≤ D.getD i 0 ∧ D.getD i 0 ≤ i) (hml : ∀ i, M.getD i 0 < 18446744073709551616) (hq : q < 18446744073709551616) :
    Calls Tryd.prog 108 #[.pointer (some ⟨b, 0, none⟩), .agg #[.int .i64 a, .int .u64 q]] w (PutPost w0 b (A ++ [a]) (climb (A ++ [a]) q (k + 1) k (M ++ [0])) (D ++ [if 0 ≤ a then D.getD a.toNat 0 + 1 else 0])) := by
  obtain ⟨P1, hP1⟩ : ∃ P, PutPost w0 b (A ++ [a]) (climb (A ++ [a]) q (k + 1) k (M ++ [0])) (D ++ [if 0 ≤ a then D.getD a.toNat 0 + 1 else 0]) = P := ⟨_, rfl⟩
  have HP1 := Lib.hid hP1
  rw [hP1]
  have H0 := Lib.hid h
  have HB0 := Lib.hid hB
  have HLT := Lib.hid h.lt
  have HA := Lib.hid hA
  have HM := Lib.hid hM
  have HD := Lib.hid hD
  have HUP := Lib.hid hup
  have HDP := Lib.hid hdp
  have HML := Lib.hid hml
  have HBB := Lib.hid hb
  clear h hB hA hM hD hup hdp hml hP1 hb
  go_enter Tryd.func108, Tryd.ntmps108
  go_upto_region 1 with fail
  have HT : Hid (TP w0 (w.alloc (.cells #[.int .i64 a, .int .u64 q] 136)) b w.heap.size a q va vm vd A M D) := Lib.hid ⟨H0.out.below (below_alloc (Below.refl _ _) _), blk_new w _, below_alloc HB0.out _, ⟨HBB.out, Nat.ne_of_lt HLT.out⟩⟩
  clear H0 HB0
  generalize w.heap.size = bx at HT HLT ⊢
  generalize w.alloc (.cells #[.int .i64 a, .int .u64 q] 136) = w2 at HT ⊢
  refine start_ (n := 12) (S := fun w' => w'.cell? ⟨b, 0, none⟩ = some va ∧ w'.cell? ⟨bx, 0, none⟩ = some (.int .i64 a)) (ds := [8, 11]) #[false, false, false, false, false, false, false, false, false, false, false, false] (by kernel_rfl) rfl rfl ⟨HT.out.tt.c0, HT.out.ca⟩ (fun hHeld => ?_)
  have n_ := Lib.hid HT.out.drew
  clear HT
  have HT := n_
  clear n_
  generalize w2.drew = w5 at HT hHeld ⊢
  have f0 := HT.out.tt.f0
  refine pure_ (i := 0) (N := some 5) (v := ?_) (a' := ?_) #[true, false, false, false, false, false, false, false, false, false, false, false] rfl rfl (by kernel_rfl) (fun _ _ _ h => h) (Or.inl ⟨by rfl, ?_⟩) ?_ ?_
  rotate_left
  · intro w'
    go_simp
    with_reducible rfl
  rotate_left
  · simp only [Act.put, List.setIfInBounds_toArray, List.set_cons_zero, List.set_cons_succ, i64_w, i32_w]
    rfl
  refine pure_ (i := 1) (N := some 6) (v := ?_) (a' := ?_) #[true, true, false, false, false, false, false, false, false, false, false, false] rfl rfl (by kernel_rfl) (fun _ _ _ h => h) (Or.inl ⟨by rfl, ?_⟩) ?_ ?_
  rotate_left
  · intro w'
    go_simp
    with_reducible rfl
  rotate_left
  · simp only [Act.put, List.setIfInBounds_toArray, List.set_cons_zero, List.set_cons_succ, i64_w, i32_w]
    rfl
  refine pure_ (i := 2) (N := some 7) (v := ?_) (a' := ?_) #[true, true, true, false, false, false, false, false, false, false, false, false] rfl rfl (by kernel_rfl) (fun _ _ _ h => h) (Or.inl ⟨by rfl, ?_⟩) ?_ ?_
  rotate_left
  · intro w'
    go_simp
    with_reducible rfl
  rotate_left
  · simp only [Act.put, List.setIfInBounds_toArray, List.set_cons_zero, List.set_cons_succ, i64_w, i32_w]
    rfl
  refine pure_ (i := 3) (N := some 8) (v := ?_) (a' := ?_) #[true, true, true, true, false, false, false, false, false, false, false, false] rfl rfl (by kernel_rfl) (fun _ _ _ h => h) (Or.inl ⟨by rfl, ?_⟩) ?_ ?_
  rotate_left
  · intro w'
    go_simp
    with_reducible rfl
  rotate_left
  · simp only [Act.put, List.setIfInBounds_toArray, List.set_cons_zero, List.set_cons_succ, i64_w, i32_w]
    rfl
  refine pure_ (i := 5) (N := some 10) (v := ?_) (a' := ?_) #[true, true, true, true, false, true, false, false, false, false, false, false] rfl rfl (by kernel_rfl) (fun _ _ _ h => h) (Or.inl ⟨by rfl, ?_⟩) ?_ ?_
  rotate_left
  · intro w'
    go_simp
    with_reducible rfl
  rotate_left
  · simp only [Act.put, List.setIfInBounds_toArray, List.set_cons_zero, List.set_cons_succ, i64_w, i32_w]
    rfl
  refine take_ (i := 4) (N := some 9) (v := ?_) (a' := ?_) #[true, true, true, true, true, true, false, false, false, false, false, false] rfl rfl (by kernel_rfl) (fun _ _ _ h => h) (Or.inl ⟨by rfl, ?_⟩) hHeld ?_ ?_
  rotate_left
  · rintro w' ⟨s0, s1⟩
    go_simp
    with_reducible rfl
  rotate_left
  · simp only [Act.put, List.setIfInBounds_toArray, List.set_cons_zero, List.set_cons_succ, i64_w, i32_w]
    rfl
  refine take_ (i := 6) (N := some 11) (v := ?_) (a' := ?_) #[true, true, true, true, true, true, true, false, false, false, false, false] rfl rfl (by kernel_rfl) (fun _ _ _ h => h) (Or.inl ⟨by rfl, ?_⟩) hHeld ?_ ?_
  rotate_left
  · rintro w' ⟨s0, s1⟩
    go_simp
    with_reducible rfl
  rotate_left
  · simp only [Act.put, List.setIfInBounds_toArray, List.set_cons_zero, List.set_cons_succ, i64_w, i32_w]
    rfl
  refine one_ (i := 7) (N := some 12) #[true, true, true, true, true, true, true, true, false, false, false, false] rfl rfl (by kernel_rfl) (by decide) (fun K hK => ?_)
  refine value_ (w1 := ?_) (v := ?_) (by rfl) rfl ?_ ?_
  rotate_left 2
  · go_simp
    constructor
    · rfl
    · rfl
  have HT2 := Lib.hid (HT.out.below (below_alloc (Below.refl _ _) (.cells #[.int .i64 a] 3)))
  refine hK.out _ _ ⟨HT2.out.tt.c0, HT2.out.ca⟩ (fun hHeld => ?_)
  clear hK K
  refine norm_ (a' := ?_) ?_ ?_
  rotate_left
  · show Act.put _ (some 12) _ = _
    simp only [Act.put, List.setIfInBounds_toArray, List.set_cons_zero, List.set_cons_succ, i64_w, i32_w]
    rfl
  refine last_ (i := 8) (N := some 13) #[true, true, true, true, true, true, true, true, true, false, false, false] rfl rfl (by kernel_rfl) (by decide) (fun K hK => ?_)
  refine Kd.R_append_step (Kd.int .i64) (w0 := ?wz1) (b + 1) (by rfl) (.tmp 9) (.tmp 12) 30 3 (.int .i64 0) 8 rfl Tryd.underlying30 info_int rfl (by decide) (by omega) va A a [.int .i64 a] (fun k => True ∧ some k ≠ vd.ownBlock) (fun _ => False) rfl rfl ?aP1 (fun _ hk => hk.elim) ?aF1 ?aO1 ?aB1 ?aS1 ?aL1 ?_
  case aP1 => exact rfl
  case aB1 => exact Below.refl _ _
  case aF1 => exact HT.out.tt.new6
  case aO1 => exact HT.out.tt.r0
  case aS1 => exact HT.out.tt.lt
  case aL1 => have := HA.out; omega
  intro v1 w6 ho hb hg hat
  obtain ⟨A8, k8, hv8⟩ := Kd.R_slice ho
  rw [List.length_append, HA.out, List.length_singleton] at hv8
  subst hv8
  have HT3 := Lib.hid (HT.out.app0 ho hb hg hat)
  have c0 := (World.cell?_of_block (a := ⟨b, 0, none⟩) (hb.block b (Nat.lt_succ_self b))).trans HT.out.tt.c0
  have f0 := (World.frozen?_of_block (a := ⟨b, 0, none⟩) (hb.block b (Nat.lt_succ_self b))).trans HT.out.tt.f0
  refine hK.out _ _ ?_
  clear hK K
  refine norm_ (a' := ?_) ?_ ?_
  rotate_left
  · show Act.put _ (some 13) _ = _
    simp only [Act.put, List.setIfInBounds_toArray, List.set_cons_zero, List.set_cons_succ, i64_w, i32_w]
    rfl
  refine pure_ (i := 9) (N := some 14) (v := ?_) (a' := ?_) #[true, true, true, true, true, true, true, true, true, true, false, false] rfl rfl (by kernel_rfl) (fun _ _ _ h => h) (Or.inl ⟨by rfl, ?_⟩) ?_ ?_
  rotate_left
  · intro w'
    go_simp
    with_reducible rfl
  rotate_left
  · simp only [Act.put, List.setIfInBounds_toArray, List.set_cons_zero, List.set_cons_succ, i64_w, i32_w]
    rfl
  refine pure_ (i := 10) (N := some 15) (v := ?_) (a' := ?_) #[true, true, true, true, true, true, true, true, true, true, true, false] rfl rfl (by kernel_rfl) (fun _ _ _ h => h) (Or.inl ⟨by rfl, ?_⟩) ?_ ?_
  rotate_left
  · intro w'
    go_simp
    with_reducible rfl
  rotate_left
  · simp only [Act.put, List.setIfInBounds_toArray, List.set_cons_zero, List.set_cons_succ, i64_w, i32_w]
    rfl
  refine last_ (i := 11) (N := none) #[true, true, true, true, true, true, true, true, true, true, true, true] rfl rfl (by kernel_rfl) (by decide) (fun K hK => ?_)
  refine skip_ (w1 := ?_) (by rfl) rfl ?_ ?_
  rotate_left
  · go_simp
    rfl
  refine hK.out _ _ ?_
  clear hK K
  refine done_ (by kernel_rfl) ?_
  clear HT HT2 hHeld f0 c0
  have HT := HT3
  clear HT3
  generalize w6.setCell ⟨b, 0, none⟩ (.slice A8 (k + 1) k8) = w7 at HT ⊢
  have c1 := HT.out.tt.c1
  have f1 := HT.out.tt.f1
  obtain ⟨A1, k1, hv1⟩ := Kd.R_slice HT.out.tt.r1
  have hl1 : (Sets.nums M).length = k := by simp [Sets.nums, HM.out]
  have HL1 := Lib.hid hl1
  rw [hl1] at hv1
  subst hv1
  clear hl1
  obtain ⟨A2, k2, hv2⟩ := Kd.R_slice HT.out.tt.r2
  rw [HD.out] at hv2
  subst hv2
  go_upto_region 3 with ((with_reducible refine gate_builtin (b := .append) (xs := #[.tmp 20, .tmp 21]) rfl ?_); at_builtin; go_loud (refine Kd.R_append (Kd.int .u64) (w0 := ?wz2) (b + 1) rfl (.tmp 20) (.tmp 21) 36 23 (.int .u64 0) 8 rfl Tryd.underlying36 info_set rfl (by decide) (by omega) _ (Sets.nums M) ((0 : Nat) : Int) [.int .u64 0] (fun _ => True) (fun _ => False) rfl rfl ?aP2 (fun _ hk => hk.elim) ?aF2 ?aO2 ?aB2 ?aS2 ?aL2 ?_; (case aP2 => exact rfl); (case aB2 => exact Below.refl _ _); (case aF2 => exact (fun _ _ => trivial)); (case aO2 => exact HT.out.tt.r1); (case aS2 => exact HT.out.tt.lt); (case aL2 => have := HL1.out; omega); intro v2 w8 ho hb hg hat; obtain ⟨A9, k9, hv9⟩ := Kd.R_slice ho; rw [List.length_append, HL1.out, List.length_singleton] at hv9; subst hv9; have HT4 := Lib.hid (HT.out.app1 ho hb hg); have c1' := (World.cell?_of_block (a := ⟨b, 1, none⟩) (hb.block b (Nat.lt_succ_self b))).trans c1; have f1' := (World.frozen?_of_block (a := ⟨b, 1, none⟩) (hb.block b (Nat.lt_succ_self b))).trans f1; clear c1 f1 HT ho hb hg hat))
  clear c1' f1'
  have HT := HT4
  clear HT4
  generalize w8.setCell ⟨b, 1, none⟩ (.slice A9 (k + 1) k9) = w9 at HT ⊢
  have c2 := HT.out.tt.c2
  have f2 := HT.out.tt.f2
  go_upto_region 4 with ((with_reducible refine gate_builtin (b := .append) (xs := #[.tmp 29, .tmp 30]) rfl ?_); at_builtin; go_loud (refine Kd.R_append (Kd.int .i64) (w0 := ?wz3) (b + 1) rfl (.tmp 29) (.tmp 30) 30 3 (.int .i64 0) 8 rfl Tryd.underlying30 info_int rfl (by decide) (by omega) _ D (0 : Int) [.int .i64 0] (fun j => True ∧ some j ≠ (Value.slice A8 (k + 1) k8).ownBlock) (fun _ => False) rfl rfl ?aP3 (fun _ hk => hk.elim) ?aF3 ?aO3 ?aB3 ?aS3 ?aL3 ?_; (case aP3 => exact rfl); (case aB3 => exact Below.refl _ _); (case aF3 => exact HT.out.tt.new7); (case aO3 => exact HT.out.tt.r2); (case aS3 => exact HT.out.tt.lt); (case aL3 => have := HD.out; omega); intro v3 w10 ho hb hg hat; obtain ⟨A10, k10, hv10⟩ := Kd.R_slice ho; rw [List.length_append, HD.out, List.length_singleton] at hv10; subst hv10; have HT4 := Lib.hid (HT.out.app2 ho hb hg hat); have c2' := (World.cell?_of_block (a := ⟨b, 2, none⟩) (hb.block b (Nat.lt_succ_self b))).trans c2; have f2' := (World.frozen?_of_block (a := ⟨b, 2, none⟩) (hb.block b (Nat.lt_succ_self b))).trans f2; clear c2 f2 HT ho hb hg hat))
  clear c2' f2'
  have HT := HT4
  clear HT4
  generalize w10.setCell ⟨b, 2, none⟩ (.slice A10 (k + 1) k10) = w11 at HT ⊢
  obtain ⟨ga, ca, hva, _, _, _⟩ := Kd.R_form HT.out.tt.r0 (by rw [List.length_append, List.length_singleton]; omega)
  injection hva with e1 e2 e3
  subst e1
  clear e2 e3
  obtain ⟨gm, cm, hvm, _, _, _⟩ := Kd.R_form HT.out.tt.r1 (by simp [Sets.nums])
  injection hvm with e1 e2 e3
  subst e1
  clear e2 e3
  obtain ⟨gd, cd, hvd, _, _, _⟩ := Kd.R_form HT.out.tt.r2 (by rw [List.length_append, List.length_singleton]; omega)
  injection hvd with e1 e2 e3
  subst e1
  clear e2 e3
  obtain ⟨n, hn⟩ : ∃ n, k + 1 = n := ⟨_, rfl⟩
  rw [hn] at HT
  have HN := Lib.hid hn
  obtain ⟨A', hA'⟩ : ∃ A', A ++ [a] = A' := ⟨_, rfl⟩
  have HAL : Hid (A'.length = n) := Lib.hid (by rw [← hA', List.length_append, List.length_singleton, HA.out]; exact hn)
  have HUQ : Hid (∀ i, i < n → -1 ≤ A'.getD i 0 ∧ A'.getD i 0 < i) := Lib.hid (fun i hi => by
    rw [← hA', List.getD_eq_getElem?_getD, List.getElem?_append]
    by_cases hik : i < A.length
    · rw [if_pos hik, ← List.getD_eq_getElem?_getD]; exact HUP.out i (by rw [← HA.out]; exact hik)
    · have hik2 : i = k := by have := HA.out; omega
      rw [if_neg hik, show i - A.length = 0 by have := HA.out; omega]
      subst hik2
      exact ha)
  have HMB : Hid (∀ i, (M ++ [0]).getD i 0 < 18446744073709551616) := Lib.hid (fun i => by
    rw [List.getD_eq_getElem?_getD, List.getElem?_append]
    by_cases hik : i < M.length
    · rw [if_pos hik, ← List.getD_eq_getElem?_getD]; exact HML.out i
    · rw [if_neg hik]
      cases hx : i - M.length with
      | zero => exact (by decide : (0 : Nat) < 18446744073709551616)
      | succ x => exact (by decide : (0 : Nat) < 18446744073709551616))
  have HMN : Hid ((M ++ [0]).length = n) := Lib.hid (by rw [List.length_append, List.length_singleton, HM.out]; exact hn)
  rw [hA'] at HT HP1
  clear hA' HA HUP HML
  have c0 := HT.out.tt.c0
  have cx := HT.out.ca
  have e1 : wrap64 ((n : Int) - 1) = k := by unfold wrap64; omega
  have e2 : IntKind.i64.wrap ((n : Int) - 1) = k := by rw [IntKind.wrap_i64]; omega
  clear hn
  go_upto_if 42 with fail
  clear c0 cx
  go_cut [] (fun wx => Aside0 (TP w0 wx b bx a q (.slice (some ⟨ga, 0, none⟩) n k8) (.slice (some ⟨gm, 0, none⟩) n k9) (.slice (some ⟨gd, 0, none⟩) n k10) A' (M ++ [0]) (D ++ [if 0 ≤ a then D.getD a.toNat 0 + 1 else 0])))
  case first =>
    by_cases ca0 : 0 ≤ a
    · have d1 : decide (0 ≤ a) = true := decide_eq_true ca0
      obtain ⟨t, rfl⟩ : ∃ t : Nat, a = (t : Int) := ⟨a.toNat, by omega⟩
      obtain ⟨x, hx⟩ : ∃ x, D.getD t 0 = x := ⟨_, rfl⟩
      have hx2 : (D ++ [0]).getD t 0 = x := by
        rw [← hx, List.getD_eq_getElem?_getD, List.getElem?_append, if_pos (by have := HD.out; omega), ← List.getD_eq_getElem?_getD]
      have hbx := HDP.out t (by omega)
      rw [hx] at hbx
      have HX : Hid (t < (D ++ [0]).length ∧ (D ++ [0]).getD t 0 = x) := Lib.hid ⟨by rw [List.length_append, HD.out]; omega, hx2⟩
      have HK : Hid (k < (D ++ [(0 : Int)]).length) := Lib.hid (by rw [List.length_append, HD.out, List.length_singleton]; omega)
      have HS2 : Hid ((D ++ [0]).set k (x + 1) = D ++ [if 0 ≤ (t : Int) then D.getD ((t : Int)).toNat 0 + 1 else 0]) := Lib.hid (by
        rw [if_pos ca0, show ((t : Int)).toNat = t by omega, hx, ← HD.out, List.set_append_right _ _ (Nat.le_refl _), Nat.sub_self]
        rfl)
      clear hx hx2
      have x0 : (0 ≤ (t : Int) ∧ (t : Int) < (n : Int)) = True := eq_true ⟨by omega, by have := HN.out; omega⟩
      have x1 : (0 ≤ (k : Int) ∧ (k : Int) < (n : Int)) = True := eq_true ⟨by omega, by have := HN.out; omega⟩
      have y0 : ((t : Int) < (n : Int)) = True := eq_true (by have := HN.out; omega)
      have y1 : ((k : Int) < (n : Int)) = True := eq_true (by have := HN.out; omega)
      have xt : ((t : Int)).toNat = t := by omega
      have kt : ((k : Int)).toNat = k := by omega
      have e3 : wrap64 (x + 1) = x + 1 := by unfold wrap64; omega
      have e4 : IntKind.i64.wrap (x + 1) = x + 1 := by rw [IntKind.wrap_i64]; omega
      go_upto_region 6 with fail
      refine start_ (n := 16) (S := fun w' => w'.cell? ⟨b, 2, none⟩ = some (.slice (some ⟨gd, 0, none⟩) n k10) ∧ w'.cell? ⟨bx, 0, none⟩ = some (.int .i64 (t : Int)) ∧ w'.cell? ⟨gd, t, none⟩ = some (.int .i64 x)) (ds := [15]) #[false, false, false, false, false, false, false, false, false, false, false, false, false, false, false, false] (by kernel_rfl) rfl rfl ⟨HT.out.tt.c2, HT.out.ca, ((HT.out.tt.at2 t HX.out.1).1.trans (by rw [HX.out.2]))⟩ (fun hHeld => ?_)
      have n_ := Lib.hid HT.out.drew
      clear HT
      have HT := n_
      clear n_
      generalize w11.drew = w12 at HT hHeld ⊢
      have qk := HT.out.tt.at2 k HK.out
      have q1 := qk.1
      have q2 := qk.2
      clear qk
      refine pure_ (i := 0) (N := some 43) (v := ?_) (a' := ?_) #[true, false, false, false, false, false, false, false, false, false, false, false, false, false, false, false] rfl rfl (by kernel_rfl) (fun _ _ _ h => h) (Or.inl ⟨by rfl, ?_⟩) ?_ ?_
      rotate_left
      · intro w'
        go_simp
        with_reducible rfl
      rotate_left
      · simp only [Act.put, List.setIfInBounds_toArray, List.set_cons_zero, List.set_cons_succ, i64_w, i32_w]
        rfl
      refine pure_ (i := 1) (N := some 44) (v := ?_) (a' := ?_) #[true, true, false, false, false, false, false, false, false, false, false, false, false, false, false, false] rfl rfl (by kernel_rfl) (fun _ _ _ h => h) (Or.inl ⟨by rfl, ?_⟩) ?_ ?_
      rotate_left
      · intro w'
        go_simp
        with_reducible rfl
      rotate_left
      · simp only [Act.put, List.setIfInBounds_toArray, List.set_cons_zero, List.set_cons_succ, i64_w, i32_w]
        rfl
      refine pure_ (i := 2) (N := some 45) (v := ?_) (a' := ?_) #[true, true, true, false, false, false, false, false, false, false, false, false, false, false, false, false] rfl rfl (by kernel_rfl) (fun _ _ _ h => h) (Or.inl ⟨by rfl, ?_⟩) ?_ ?_
      rotate_left
      · intro w'
        go_simp
        with_reducible rfl
      rotate_left
      · simp only [Act.put, List.setIfInBounds_toArray, List.set_cons_zero, List.set_cons_succ, i64_w, i32_w]
        rfl
      refine pure_ (i := 4) (N := some 47) (v := ?_) (a' := ?_) #[true, true, true, false, true, false, false, false, false, false, false, false, false, false, false, false] rfl rfl (by kernel_rfl) (fun _ _ _ h => h) (Or.inl ⟨by rfl, ?_⟩) ?_ ?_
      rotate_left
      · intro w'
        go_simp
        with_reducible rfl
      rotate_left
      · simp only [Act.put, List.setIfInBounds_toArray, List.set_cons_zero, List.set_cons_succ, i64_w, i32_w]
        rfl
      refine pure_ (i := 5) (N := some 48) (v := ?_) (a' := ?_) #[true, true, true, false, true, true, false, false, false, false, false, false, false, false, false, false] rfl rfl (by kernel_rfl) (fun _ _ _ h => h) (Or.inl ⟨by rfl, ?_⟩) ?_ ?_
      rotate_left
      · intro w'
        go_simp
        with_reducible rfl
      rotate_left
      · simp only [Act.put, List.setIfInBounds_toArray, List.set_cons_zero, List.set_cons_succ, i64_w, i32_w]
        rfl
      refine pure_ (i := 6) (N := some 49) (v := ?_) (a' := ?_) #[true, true, true, false, true, true, true, false, false, false, false, false, false, false, false, false] rfl rfl (by kernel_rfl) (fun _ _ _ h => h) (Or.inl ⟨by rfl, ?_⟩) ?_ ?_
      rotate_left
      · intro w'
        go_simp
        with_reducible rfl
      rotate_left
      · simp only [Act.put, List.setIfInBounds_toArray, List.set_cons_zero, List.set_cons_succ, i64_w, i32_w]
        rfl
      refine pure_ (i := 7) (N := some 50) (v := ?_) (a' := ?_) #[true, true, true, false, true, true, true, true, false, false, false, false, false, false, false, false] rfl rfl (by kernel_rfl) (fun _ _ _ h => h) (Or.inl ⟨by rfl, ?_⟩) ?_ ?_
      rotate_left
      · intro w'
        go_simp
        with_reducible rfl
      rotate_left
      · simp only [Act.put, List.setIfInBounds_toArray, List.set_cons_zero, List.set_cons_succ, i64_w, i32_w]
        rfl
      refine pure_ (i := 9) (N := some 52) (v := ?_) (a' := ?_) #[true, true, true, false, true, true, true, true, false, true, false, false, false, false, false, false] rfl rfl (by kernel_rfl) (fun _ _ _ h => h) (Or.inl ⟨by rfl, ?_⟩) ?_ ?_
      rotate_left
      · intro w'
        go_simp
        with_reducible rfl
      rotate_left
      · simp only [Act.put, List.setIfInBounds_toArray, List.set_cons_zero, List.set_cons_succ, i64_w, i32_w]
        rfl
      refine take_ (i := 3) (N := some 46) (v := ?_) (a' := ?_) #[true, true, true, true, true, true, true, true, false, true, false, false, false, false, false, false] rfl rfl (by kernel_rfl) (fun _ _ _ h => h) (Or.inl ⟨by rfl, ?_⟩) hHeld ?_ ?_
      rotate_left
      · rintro w' ⟨s0, s1, s2⟩
        go_simp
        with_reducible rfl
      rotate_left
      · simp only [Act.put, List.setIfInBounds_toArray, List.set_cons_zero, List.set_cons_succ, i64_w, i32_w]
        rfl
      refine take_ (i := 8) (N := some 51) (v := ?_) (a' := ?_) #[true, true, true, true, true, true, true, true, true, true, false, false, false, false, false, false] rfl rfl (by kernel_rfl) (fun _ _ _ h => h) (Or.inl ⟨by rfl, ?_⟩) hHeld ?_ ?_
      rotate_left
      · rintro w' ⟨s0, s1, s2⟩
        go_simp
        with_reducible rfl
      rotate_left
      · simp only [Act.put, List.setIfInBounds_toArray, List.set_cons_zero, List.set_cons_succ, i64_w, i32_w]
        rfl
      refine take_ (i := 10) (N := some 53) (v := ?_) (a' := ?_) #[true, true, true, true, true, true, true, true, true, true, true, false, false, false, false, false] rfl rfl (by kernel_rfl) (fun _ _ _ h => h) (Or.inl ⟨by rfl, ?_⟩) hHeld ?_ ?_
      rotate_left
      · rintro w' ⟨s0, s1, s2⟩
        go_simp
        with_reducible rfl
      rotate_left
      · simp only [Act.put, List.setIfInBounds_toArray, List.set_cons_zero, List.set_cons_succ, i64_w, i32_w]
        rfl
      refine pure_ (i := 11) (N := some 54) (v := ?_) (a' := ?_) #[true, true, true, true, true, true, true, true, true, true, true, true, false, false, false, false] rfl rfl (by kernel_rfl) (fun _ _ _ h => h) (Or.inl ⟨by rfl, ?_⟩) ?_ ?_
      rotate_left
      · intro w'
        go_simp
        with_reducible rfl
      rotate_left
      · simp only [Act.put, List.setIfInBounds_toArray, List.set_cons_zero, List.set_cons_succ, i64_w, i32_w]
        rfl
      refine take_ (i := 12) (N := some 55) (v := ?_) (a' := ?_) #[true, true, true, true, true, true, true, true, true, true, true, true, true, false, false, false] rfl rfl (by kernel_rfl) (fun _ _ _ h => h) (Or.inl ⟨by rfl, ?_⟩) hHeld ?_ ?_
      rotate_left
      · rintro w' ⟨s0, s1, s2⟩
        go_simp
        with_reducible rfl
      rotate_left
      · simp only [Act.put, List.setIfInBounds_toArray, List.set_cons_zero, List.set_cons_succ, i64_w, i32_w]
        rfl
      refine pure_ (i := 13) (N := some 56) (v := ?_) (a' := ?_) #[true, true, true, true, true, true, true, true, true, true, true, true, true, true, false, false] rfl rfl (by kernel_rfl) (fun _ _ _ h => h) (Or.inl ⟨by rfl, ?_⟩) ?_ ?_
      rotate_left
      · intro w'
        go_simp
        with_reducible rfl
      rotate_left
      · simp only [Act.put, List.setIfInBounds_toArray, List.set_cons_zero, List.set_cons_succ, i64_w, i32_w]
        rfl
      refine pure_ (i := 14) (N := some 57) (v := ?_) (a' := ?_) #[true, true, true, true, true, true, true, true, true, true, true, true, true, true, true, false] rfl rfl (by kernel_rfl) (fun _ _ _ h => h) (Or.inl ⟨by rfl, ?_⟩) ?_ ?_
      rotate_left
      · intro w'
        go_simp
        with_reducible rfl
      rotate_left
      · simp only [Act.put, List.setIfInBounds_toArray, List.set_cons_zero, List.set_cons_succ, i64_w, i32_w]
        rfl
      refine last_ (i := 15) (N := none) #[true, true, true, true, true, true, true, true, true, true, true, true, true, true, true, true] rfl rfl (by kernel_rfl) (by decide) (fun K hK => ?_)
      refine skip_ (w1 := ?_) (by rfl) rfl ?_ ?_
      rotate_left
      · go_simp
        rfl
      refine hK.out _ _ ?_
      clear hK K
      refine done_ (by kernel_rfl) ?_
      go_wp2
      go_meet
      exact ⟨by rw [← HS2.out]; exact HT.out.set2 k (x + 1)⟩
    · have d1 : decide (0 ≤ a) = false := decide_eq_false ca0
      go_wp2
      go_meet
      exact ⟨by rw [if_neg (by omega)]; exact HT.out⟩
  case rest =>
    clear HT
    obtain ⟨HT0⟩ := hcut
    have HT := Lib.hid HT0
    clear HT0
    obtain ⟨wd, rfl⟩ : ∃ wd : World, wd = wc := ⟨_, rfl⟩
    go_wp2
    go_loopg [4] (k + 2) (fun kq v4 w' => ∃ (j : Int) (f : Nat) (M1 : List Nat), v4 = .int .i64 j ∧ Aside0 (j + 2 ≤ (kq : Int) ∧ -1 ≤ j ∧ j < (n : Int)) ∧ Aside0 (TP w0 w' b bx a q (.slice (some ⟨ga, 0, none⟩) n k8) (.slice (some ⟨gm, 0, none⟩) n k9) (.slice (some ⟨gd, 0, none⟩) n k10) A' M1 (D ++ [if 0 ≤ a then D.getD a.toNat 0 + 1 else 0])) ∧ Aside0 (climb A' q f j M1 = climb A' q n k (M ++ [0]) ∧ j + 1 ≤ (f : Int)) ∧ Aside0 (M1.length = n ∧ ∀ i, M1.getD i 0 < 18446744073709551616))
    case atStart => exact ⟨k, n, M ++ [0], rfl, ⟨by omega, by omega, by have := HN.out; omega⟩, ⟨HT.out⟩, ⟨rfl, by have := HN.out; omega⟩, ⟨HMN.out, HMB.out⟩⟩
    case round =>
      clear HT HMB HMN
      obtain ⟨j, f, M1, rfl, HI, HT, HC, HM1⟩ := hrel
      obtain ⟨g1, rfl⟩ : ∃ g1, gk = g1 + 1 := ⟨gk - 1, by have := HI.out; omega⟩
      by_cases cj : 0 ≤ j
      · have d1 : decide (0 ≤ j) = true := decide_eq_true cj
        obtain ⟨t, rfl⟩ : ∃ t : Nat, j = (t : Int) := ⟨j.toNat, by omega⟩
        obtain ⟨f1, rfl⟩ : ∃ f1, f = f1 + 1 := ⟨f - 1, by have := HC.out.2; omega⟩
        have htn : t < n := by have := HI.out; omega
        have HTN := Lib.hid htn
        obtain ⟨m, hm⟩ : ∃ m, M1.getD t 0 = m := ⟨_, rfl⟩
        have hmb := HM1.out.2 t
        rw [hm] at hmb
        have hor := bits_or_u64_nat m q hmb hq
        have HMM : Hid (t < M1.length ∧ M1.getD t 0 = m) := Lib.hid ⟨by rw [HM1.out.1]; exact htn, hm⟩
        have HOL := Lib.hid (or_lt m q hmb hq)
        have hc := HC.out.1
        rw [climb_step, hm] at hc
        have HC1 := Lib.hid hc
        obtain ⟨y, hy⟩ : ∃ y, A'.getD t 0 = y := ⟨_, rfl⟩
        have hyb := HUQ.out t htn
        rw [hy] at hyb
        have HY : Hid (t < A'.length ∧ A'.getD t 0 = y) := Lib.hid ⟨by rw [HAL.out]; exact htn, hy⟩
        have x0 : (0 ≤ (t : Int) ∧ (t : Int) < (n : Int)) = True := eq_true ⟨by omega, by omega⟩
        have y0 : ((t : Int) < (n : Int)) = True := eq_true (by omega)
        have xt : ((t : Int)).toNat = t := by omega
        clear hm hc hy hmb
        go_upto_region 9 with fail
        refine start_ (n := 12) (S := fun w' => w'.cell? ⟨b, 1, none⟩ = some (.slice (some ⟨gm, 0, none⟩) n k9) ∧ w'.cell? ⟨bx, 1, none⟩ = some (.int .u64 (q : Int)) ∧ w'.cell? ⟨gm, t, none⟩ = some (.int .u64 (m : Int))) (ds := [11]) #[false, false, false, false, false, false, false, false, false, false, false, false] (by kernel_rfl) rfl rfl ⟨HT.out.tt.c1, HT.out.cq, ((HT.out.tt.at1 t HMM.out.1).1.trans (by rw [HMM.out.2]))⟩ (fun hHeld => ?_)
        have n_ := Lib.hid HT.out.drew
        clear HT
        have HT := n_
        clear n_
        generalize wr.drew = w12 at HT hHeld ⊢
        have q2 := (HT.out.tt.at1 t HMM.out.1).2
        refine pure_ (i := 0) (N := some 67) (v := ?_) (a' := ?_) #[true, false, false, false, false, false, false, false, false, false, false, false] rfl rfl (by kernel_rfl) (fun _ _ _ h => h) (Or.inl ⟨by rfl, ?_⟩) ?_ ?_
        rotate_left
        · intro w'
          go_simp
          with_reducible rfl
        rotate_left
        · simp only [Act.put, List.setIfInBounds_toArray, List.set_cons_zero, List.set_cons_succ, i64_w, i32_w]
          rfl
        refine pure_ (i := 1) (N := some 68) (v := ?_) (a' := ?_) #[true, true, false, false, false, false, false, false, false, false, false, false] rfl rfl (by kernel_rfl) (fun _ _ _ h => h) (Or.inl ⟨by rfl, ?_⟩) ?_ ?_
        rotate_left
        · intro w'
          go_simp
          with_reducible rfl
        rotate_left
        · simp only [Act.put, List.setIfInBounds_toArray, List.set_cons_zero, List.set_cons_succ, i64_w, i32_w]
          rfl
        refine pure_ (i := 2) (N := some 69) (v := ?_) (a' := ?_) #[true, true, true, false, false, false, false, false, false, false, false, false] rfl rfl (by kernel_rfl) (fun _ _ _ h => h) (Or.inl ⟨by rfl, ?_⟩) ?_ ?_
        rotate_left
        · intro w'
          go_simp
          with_reducible rfl
        rotate_left
        · simp only [Act.put, List.setIfInBounds_toArray, List.set_cons_zero, List.set_cons_succ, i64_w, i32_w]
          rfl
        refine pure_ (i := 4) (N := some 71) (v := ?_) (a' := ?_) #[true, true, true, false, true, false, false, false, false, false, false, false] rfl rfl (by kernel_rfl) (fun _ _ _ h => h) (Or.inl ⟨by rfl, ?_⟩) ?_ ?_
        rotate_left
        · intro w'
          go_simp
          with_reducible rfl
        rotate_left
        · simp only [Act.put, List.setIfInBounds_toArray, List.set_cons_zero, List.set_cons_succ, i64_w, i32_w]
          rfl
        refine pure_ (i := 7) (N := some 74) (v := ?_) (a' := ?_) #[true, true, true, false, true, false, false, true, false, false, false, false] rfl rfl (by kernel_rfl) (fun _ _ _ h => h) (Or.inl ⟨by rfl, ?_⟩) ?_ ?_
        rotate_left
        · intro w'
          go_simp
          with_reducible rfl
        rotate_left
        · simp only [Act.put, List.setIfInBounds_toArray, List.set_cons_zero, List.set_cons_succ, i64_w, i32_w]
          rfl
        refine take_ (i := 3) (N := some 70) (v := ?_) (a' := ?_) #[true, true, true, true, true, false, false, true, false, false, false, false] rfl rfl (by kernel_rfl) (fun _ _ _ h => h) (Or.inl ⟨by rfl, ?_⟩) hHeld ?_ ?_
        rotate_left
        · rintro w' ⟨s0, s1, s2⟩
          go_simp
          with_reducible rfl
        rotate_left
        · simp only [Act.put, List.setIfInBounds_toArray, List.set_cons_zero, List.set_cons_succ, i64_w, i32_w]
          rfl
        refine pure_ (i := 5) (N := some 72) (v := ?_) (a' := ?_) #[true, true, true, true, true, true, false, true, false, false, false, false] rfl rfl (by kernel_rfl) (fun _ _ _ h => h) (Or.inl ⟨by rfl, ?_⟩) ?_ ?_
        rotate_left
        · intro w'
          go_simp
          with_reducible rfl
        rotate_left
        · simp only [Act.put, List.setIfInBounds_toArray, List.set_cons_zero, List.set_cons_succ, i64_w, i32_w]
          rfl
        refine take_ (i := 6) (N := some 73) (v := ?_) (a' := ?_) #[true, true, true, true, true, true, true, true, false, false, false, false] rfl rfl (by kernel_rfl) (fun _ _ _ h => h) (Or.inl ⟨by rfl, ?_⟩) hHeld ?_ ?_
        rotate_left
        · rintro w' ⟨s0, s1, s2⟩
          go_simp
          with_reducible rfl
        rotate_left
        · simp only [Act.put, List.setIfInBounds_toArray, List.set_cons_zero, List.set_cons_succ, i64_w, i32_w]
          rfl
        refine take_ (i := 8) (N := some 75) (v := ?_) (a' := ?_) #[true, true, true, true, true, true, true, true, true, false, false, false] rfl rfl (by kernel_rfl) (fun _ _ _ h => h) (Or.inl ⟨by rfl, ?_⟩) hHeld ?_ ?_
        rotate_left
        · rintro w' ⟨s0, s1, s2⟩
          go_simp
          with_reducible rfl
        rotate_left
        · simp only [Act.put, List.setIfInBounds_toArray, List.set_cons_zero, List.set_cons_succ, i64_w, i32_w]
          rfl
        refine pure_ (i := 9) (N := some 76) (v := ?_) (a' := ?_) #[true, true, true, true, true, true, true, true, true, true, false, false] rfl rfl (by kernel_rfl) (fun _ _ _ h => h) (Or.inl ⟨by rfl, ?_⟩) ?_ ?_
        rotate_left
        · intro w'
          go_simp
          with_reducible rfl
        rotate_left
        · simp only [Act.put, List.setIfInBounds_toArray, List.set_cons_zero, List.set_cons_succ, i64_w, i32_w]
          rfl
        refine pure_ (i := 10) (N := some 77) (v := ?_) (a' := ?_) #[true, true, true, true, true, true, true, true, true, true, true, false] rfl rfl (by kernel_rfl) (fun _ _ _ h => h) (Or.inl ⟨by rfl, ?_⟩) ?_ ?_
        rotate_left
        · intro w'
          go_simp
          with_reducible rfl
        rotate_left
        · simp only [Act.put, List.setIfInBounds_toArray, List.set_cons_zero, List.set_cons_succ, i64_w, i32_w]
          rfl
        refine last_ (i := 11) (N := none) #[true, true, true, true, true, true, true, true, true, true, true, true] rfl rfl (by kernel_rfl) (by decide) (fun K hK => ?_)
        refine skip_ (w1 := ?_) (by rfl) rfl ?_ ?_
        rotate_left
        · go_simp
          rfl
        refine hK.out _ _ ?_
        clear hK K
        refine done_ (by kernel_rfl) ?_
        clear hHeld q2
        have HT1 := Lib.hid (HT.out.set1 t (m ||| q))
        clear HT
        generalize w12.setCell ⟨gm, t, none⟩ (.int .u64 ((m ||| q : Nat) : Int)) = w13 at HT1 ⊢
        have c0 := HT1.out.tt.c0
        have q0 := HT1.out.tt.at0 t HY.out.1
        rw [HY.out.2] at q0
        go_wp2
        go_roundg g1
        case measure => have := HI.out; omega
        case rel => exact ⟨y, f1, M1.set t (m ||| q), by go_num, ⟨by have := HI.out; omega, by omega, by have := HTN.out; omega⟩, ⟨HT1.out⟩, ⟨by rw [← HC1.out, HY.out.2], by have := HC.out.2; omega⟩, ⟨by rw [List.length_set]; exact HM1.out.1, fun i => by
            rw [List.getD_eq_getElem?_getD, List.getElem?_set]
            by_cases hti : t = i
            · rw [if_pos hti]
              split
              · exact HOL.out
              · exact (by decide : (0 : Nat) < 18446744073709551616)
            · rw [if_neg hti, ← List.getD_eq_getElem?_getD]
              exact HM1.out.2 i⟩⟩
      · have d1 : decide (0 ≤ j) = false := decide_eq_false cj
        have hfin : M1 = climb A' q n k (M ++ [0]) := by
          rw [← HC.out.1]
          cases f with
          | zero => rfl
          | succ f => unfold climb; rw [if_pos (by omega)]
        have HF := Lib.hid hfin
        clear hfin
        go_wp2
        go_end0
        rw [← HP1.out, HN.out]
        exact ⟨rfl, ⟨_, _, _, by rw [← HF.out]; exact HT.out.tt⟩, HT.out.be⟩
end Go.Proofs.YtmjkgnlmdcmdbaaDoor.Topo
