/- Law 39: a tree at a block: three slices, each in a cell. -/
import Derived.Test.YtmjkgnlmdcmdbaaDoorNode3
import Derived.RegionTactic
import Derived.Deep.RegionWith
import Derived.Deep.DeepCutAuto
import Derived.Deep.CutBlock
import Derived.OpenShut
import Derived.StillTailTactics
import Derived.Handy
import Derived.Deep.RegionHeld3
namespace Go.Proofs.YtmjkgnlmdcmdbaaDoor.Topo
open Go.RowKit Go.Proofs.YtmjkgnlmdcmdbaaDoorW.PrintWords Go.Proofs.YtmjkgnlmdcmdbaaDoorW.PrintLast Go.Proofs.YtmjkgnlmdcmdbaaDoorW.PrintMore Go.Proofs.YtmjkgnlmdcmdbaaDoor.Row Go.Proofs.YtmjkgnlmdcmdbaaDoor.Sets Go.Proofs.YtmjkgnlmdcmdbaaDoor.Node
set_option linter.unusedVariables false
set_option linter.unusedSimpArgs false
set_option maxRecDepth 100000
/-- the tree at block b: the switches above, the nodes below, the depths -/
structure TT (w : World) (b : Nat) (va vm vd : Value) (A : List Int) (M : List Nat) (D : List Int) : Prop where
  c0 : w.cell? ⟨b, 0, none⟩ = some va
  c1 : w.cell? ⟨b, 1, none⟩ = some vm
  c2 : w.cell? ⟨b, 2, none⟩ = some vd
  f0 : w.frozen? ⟨b, 0, none⟩ = false
  f1 : w.frozen? ⟨b, 1, none⟩ = false
  f2 : w.frozen? ⟨b, 2, none⟩ = false
  r0 : Kd.R (Kd.int .i64) 3 w (b + 1) (fun k => True ∧ some k ≠ vd.ownBlock) va A
  r1 : Kd.R (Kd.int .u64) 23 w (b + 1) (fun _ => True) vm (Sets.nums M)
  r2 : Kd.R (Kd.int .i64) 3 w (b + 1) (fun k => True ∧ some k ≠ va.ownBlock) vd D
section
variable {w w' : World} {b : Nat} {va vm vd : Value} {A D : List Int} {M : List Nat}
theorem TT.lt (h : TT w b va vm vd A M D) : b < w.heap.size := World.block_lt_of_cell? w _ h.c0
theorem TT.below (h : TT w b va vm vd A M D) (hb : Below w.heap.size w w') : TT w' b va vm vd A M D :=
  have hh := hb.block b h.lt
  ⟨(World.cell?_of_block hh).trans h.c0, (World.cell?_of_block hh).trans h.c1, (World.cell?_of_block hh).trans h.c2, (World.frozen?_of_block hh).trans h.f0, (World.frozen?_of_block hh).trans h.f1, (World.frozen?_of_block hh).trans h.f2, Kd.R_below h.r0 hb, Kd.R_below h.r1 hb, Kd.R_below h.r2 hb⟩
theorem TT.drew (h : TT w b va vm vd A M D) : TT w.drew b va vm vd A M D := h.below (below_drew (Below.refl _ _))
theorem far_b {d : Kd Int} {e : Nat} {ok : Nat → Prop} {v : Value} {xs : List Int} (h : Kd.R d e w (b + 1) ok v xs) (o : Nat) (u : Value) : Kd.R d e (w.setCell ⟨b, o, none⟩ u) (b + 1) ok v xs :=
  Kd.R_mono (Kd.R_far (p := ⟨b, o, none⟩) (Kd.R_bound h) (fun k hk => by have := hk.2.1; show k ≠ b; omega) _) (fun _ hk => hk.1)
theorem TT.app0 (h : TT w b va vm vd A M D) {w1 : World} {v1 : Value} {x : Int} (ho : Kd.R (Kd.int .i64) 3 w1 (b + 1) (fun k => True ∧ some k ≠ vd.ownBlock) v1 (A ++ [x])) (hb : Below (b + 1) w w1) (hg : w.grownBy w1 va.ownBlock) (hat : v1.ownBlock = va.ownBlock ∨ ∃ b, v1.ownBlock = some b ∧ w.heap.size ≤ b) :
    TT (w1.setCell ⟨b, 0, none⟩ v1) b v1 vm vd (A ++ [x]) M D := by
  have hh := hb.block b (by omega)
  have c0 := (World.cell?_of_block (a := ⟨b, 0, none⟩) hh).trans h.c0
  have c1 := (World.cell?_of_block (a := ⟨b, 1, none⟩) hh).trans h.c1
  have c2 := (World.cell?_of_block (a := ⟨b, 2, none⟩) hh).trans h.c2
  have f0 := (World.frozen?_of_block (a := ⟨b, 0, none⟩) hh).trans h.f0
  have f1 := (World.frozen?_of_block (a := ⟨b, 1, none⟩) hh).trans h.f1
  have f2 := (World.frozen?_of_block (a := ⟨b, 2, none⟩) hh).trans h.f2
  exact ⟨by go_cell, by go_cell, by go_cell, by simp [go_sem, f0], by simp [go_sem, f1], by simp [go_sem, f2], far_b ho _ _, far_b (Kd.R_over h.r1 h.r0 (by decide) hg) _ _, far_b (Kd.R_after h.r2 hg hat) _ _⟩
theorem TT.app2 (h : TT w b va vm vd A M D) {w1 : World} {v1 : Value} {x : Int} (ho : Kd.R (Kd.int .i64) 3 w1 (b + 1) (fun k => True ∧ some k ≠ va.ownBlock) v1 (D ++ [x])) (hb : Below (b + 1) w w1) (hg : w.grownBy w1 vd.ownBlock) (hat : v1.ownBlock = vd.ownBlock ∨ ∃ b, v1.ownBlock = some b ∧ w.heap.size ≤ b) :
    TT (w1.setCell ⟨b, 2, none⟩ v1) b va vm v1 A M (D ++ [x]) := by
  have hh := hb.block b (by omega)
  have c0 := (World.cell?_of_block (a := ⟨b, 0, none⟩) hh).trans h.c0
  have c1 := (World.cell?_of_block (a := ⟨b, 1, none⟩) hh).trans h.c1
  have c2 := (World.cell?_of_block (a := ⟨b, 2, none⟩) hh).trans h.c2
  have f0 := (World.frozen?_of_block (a := ⟨b, 0, none⟩) hh).trans h.f0
  have f1 := (World.frozen?_of_block (a := ⟨b, 1, none⟩) hh).trans h.f1
  have f2 := (World.frozen?_of_block (a := ⟨b, 2, none⟩) hh).trans h.f2
  exact ⟨by go_cell, by go_cell, by go_cell, by simp [go_sem, f0], by simp [go_sem, f1], by simp [go_sem, f2], far_b (Kd.R_after h.r0 hg hat) _ _, far_b (Kd.R_over h.r1 h.r2 (by decide) hg) _ _, far_b ho _ _⟩
theorem TT.app1 (h : TT w b va vm vd A M D) {w1 : World} {v1 : Value} {x : Nat} (ho : Kd.R (Kd.int .u64) 23 w1 (b + 1) (fun _ => True) v1 (Sets.nums M ++ [(x : Int)])) (hb : Below (b + 1) w w1) (hg : w.grownBy w1 vm.ownBlock) :
    TT (w1.setCell ⟨b, 1, none⟩ v1) b va v1 vd A (M ++ [x]) D := by
  have hh := hb.block b (by omega)
  have c0 := (World.cell?_of_block (a := ⟨b, 0, none⟩) hh).trans h.c0
  have c1 := (World.cell?_of_block (a := ⟨b, 1, none⟩) hh).trans h.c1
  have c2 := (World.cell?_of_block (a := ⟨b, 2, none⟩) hh).trans h.c2
  have f0 := (World.frozen?_of_block (a := ⟨b, 0, none⟩) hh).trans h.f0
  have f1 := (World.frozen?_of_block (a := ⟨b, 1, none⟩) hh).trans h.f1
  have f2 := (World.frozen?_of_block (a := ⟨b, 2, none⟩) hh).trans h.f2
  have e : Sets.nums (M ++ [x]) = Sets.nums M ++ [(x : Int)] := by simp [Sets.nums]
  exact ⟨by go_cell, by go_cell, by go_cell, by simp [go_sem, f0], by simp [go_sem, f1], by simp [go_sem, f2], far_b (Kd.R_over h.r0 h.r1 (by decide) hg) _ _, by rw [e]; exact far_b ho _ _, far_b (Kd.R_over h.r2 h.r1 (by decide) hg) _ _⟩
theorem TT.new6 (h : TT w b va vm vd A M D) (k : Nat) (hk : w.heap.size ≤ k) : True ∧ some k ≠ vd.ownBlock := ⟨trivial, fun e => by have := Kd.R_lt h.r2 k e.symm; omega⟩
theorem TT.new7 (h : TT w b va vm vd A M D) (k : Nat) (hk : w.heap.size ≤ k) : True ∧ some k ≠ va.ownBlock := ⟨trivial, fun e => by have := Kd.R_lt h.r0 k e.symm; omega⟩
/-- what any of its rows holds -/
theorem TT.at0 {n g c : Nat} (h : TT w b (.slice (some ⟨g, 0, none⟩) n c) vm vd A M D) (i : Nat) (hi : i < A.length) : w.cell? ⟨g, i, none⟩ = some (.int .i64 (A.getD i 0)) := by
  have h1 := Kd.R_celln (enc := Value.int .i64) 0 h.r0 (i : Int) (by omega) (by have := (Kd.R_reads' h.r0).1; omega)
  rw [show ((i : Int)).toNat = i by omega] at h1
  rw [h1.1]
  rfl
theorem TT.at1 {n g c : Nat} (h : TT w b va (.slice (some ⟨g, 0, none⟩) n c) vd A M D) (i : Nat) (hi : i < M.length) : w.cell? ⟨g, i, none⟩ = some (.int .u64 (M.getD i 0 : Nat)) ∧ w.frozen? ⟨g, i, none⟩ = false := by
  have hn := (Kd.R_reads' h.r1).1
  have hl : (Sets.nums M).length = M.length := by simp [Sets.nums]
  have h1 := Kd.R_celln (enc := Value.int .u64) 0 h.r1 (i : Int) (by omega) (by omega)
  rw [show ((i : Int)).toNat = i by omega] at h1
  refine ⟨?_, h1.2⟩
  rw [h1.1]
  show some (Value.int .u64 ((Sets.nums M).getD ((i : Int)).toNat 0)) = _
  rw [show ((i : Int)).toNat = i by omega, List.getD_eq_getElem?_getD, List.getD_eq_getElem?_getD, List.getElem?_eq_getElem (by omega), List.getElem?_eq_getElem hi]
  simp [Sets.nums]
theorem TT.at2 {n g c : Nat} (h : TT w b va vm (.slice (some ⟨g, 0, none⟩) n c) A M D) (i : Nat) (hi : i < D.length) : w.cell? ⟨g, i, none⟩ = some (.int .i64 (D.getD i 0)) ∧ w.frozen? ⟨g, i, none⟩ = false := by
  have h1 := Kd.R_celln (enc := Value.int .i64) 0 h.r2 (i : Int) (by omega) (by have := (Kd.R_reads' h.r2).1; omega)
  rw [show ((i : Int)).toNat = i by omega] at h1
  exact ⟨by rw [h1.1]; rfl, h1.2⟩
theorem TT.set2 {n g c : Nat} (h : TT w b va vm (.slice (some ⟨g, 0, none⟩) n c) A M D) (i : Nat) (x : Int) : TT (w.setCell ⟨g, i, none⟩ (.int .i64 x)) b va vm (.slice (some ⟨g, 0, none⟩) n c) A M (D.set i x) := by
  obtain rfl := (Kd.R_reads' h.r2).1
  have hbg : b ≠ g := by have := Kd.R_base h.r2 g (by simp [Value.ownBlock]); omega
  have hh := Below.heap_setCell w ⟨g, i, none⟩ (.int .i64 x) b hbg
  have hp := Kd.R_put (enc := Value.int .i64) h.r2 (i : Int) x
  rw [show ((i : Int)).toNat = i by omega] at hp
  have hg : w.grownBy (w.setCell ⟨g, i, none⟩ (.int .i64 x)) (Value.slice (some ⟨g, 0, none⟩) D.length c).ownBlock := hp.2
  have h2 := hp.1
  exact ⟨(World.cell?_of_block (a := ⟨b, 0, none⟩) hh).trans h.c0, (World.cell?_of_block (a := ⟨b, 1, none⟩) hh).trans h.c1, (World.cell?_of_block (a := ⟨b, 2, none⟩) hh).trans h.c2, (World.frozen?_of_block (a := ⟨b, 0, none⟩) hh).trans h.f0, (World.frozen?_of_block (a := ⟨b, 1, none⟩) hh).trans h.f1, (World.frozen?_of_block (a := ⟨b, 2, none⟩) hh).trans h.f2, Kd.R_grown h.r0 hg (fun k hk => hk.2), Kd.R_over h.r1 h.r2 (by decide) hg, h2⟩
theorem TT.set1 {n g c : Nat} (h : TT w b va (.slice (some ⟨g, 0, none⟩) n c) vd A M D) (i : Nat) (x : Nat) : TT (w.setCell ⟨g, i, none⟩ (.int .u64 x)) b va (.slice (some ⟨g, 0, none⟩) n c) vd A (M.set i x) D := by
  obtain rfl := (Kd.R_reads' h.r1).1
  have hbg : b ≠ g := by have := Kd.R_base h.r1 g (by simp [Value.ownBlock]); omega
  have hh := Below.heap_setCell w ⟨g, i, none⟩ (.int .u64 x) b hbg
  have hp := Kd.R_put (enc := Value.int .u64) h.r1 (i : Int) (x : Int)
  rw [show ((i : Int)).toNat = i by omega] at hp
  have hg : w.grownBy (w.setCell ⟨g, i, none⟩ (.int .u64 x)) (Value.slice (some ⟨g, 0, none⟩) (Sets.nums M).length c).ownBlock := hp.2
  have h2 := hp.1
  have e : Sets.nums (M.set i x) = (Sets.nums M).set i (x : Int) := by simp [Sets.nums, List.map_set]
  rw [← e] at h2
  exact ⟨(World.cell?_of_block (a := ⟨b, 0, none⟩) hh).trans h.c0, (World.cell?_of_block (a := ⟨b, 1, none⟩) hh).trans h.c1, (World.cell?_of_block (a := ⟨b, 2, none⟩) hh).trans h.c2, (World.frozen?_of_block (a := ⟨b, 0, none⟩) hh).trans h.f0, (World.frozen?_of_block (a := ⟨b, 1, none⟩) hh).trans h.f1, (World.frozen?_of_block (a := ⟨b, 2, none⟩) hh).trans h.f2, Kd.R_over h.r0 h.r1 (by decide) hg, h2, Kd.R_over h.r2 h.r1 (by decide) hg⟩
end
/-- the nodes of a switch are laid upon it and upon all above it -/
def climb (A : List Int) (q : Nat) : Nat → Int → List Nat → List Nat
  | 0, _, M => M
  | f + 1, k, M => if k < 0 then M else climb A q f (A.getD k.toNat 0) (M.set k.toNat (M.getD k.toNat 0 ||| q))
theorem climb_len (A : List Int) (q : Nat) : ∀ (f : Nat) (k : Int) (M : List Nat), (climb A q f k M).length = M.length
  | 0, _, _ => rfl
  | f + 1, k, M => by
    unfold climb
    split
    · rfl
    · rw [climb_len A q f, List.length_set]
end Go.Proofs.YtmjkgnlmdcmdbaaDoor.Topo
