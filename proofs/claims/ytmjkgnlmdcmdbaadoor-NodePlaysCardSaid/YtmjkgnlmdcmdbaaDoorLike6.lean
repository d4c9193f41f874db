/- Law 6: the table and the plain table are alike. -/
import Derived.Test.YtmjkgnlmdcmdbaaDoorLikePlain
import Derived.Test.YtmjkgnlmdcmdbaaDoorNodeBack
import Derived.RegionTactic
import Derived.Deep.RegionWith
import Derived.Deep.DeepCutAuto
import Derived.Deep.CutBlock
import Derived.OpenShut
import Derived.StillTailTactics
import Derived.Handy
import Derived.Deep.RegionHeld3
namespace Go.Proofs.YtmjkgnlmdcmdbaaDoor.Node
open Go.RowKit Go.Proofs.YtmjkgnlmdcmdbaaDoorW.PrintWords Go.Proofs.YtmjkgnlmdcmdbaaDoorW.PrintLast Go.Proofs.YtmjkgnlmdcmdbaaDoorW.PrintMore Go.Proofs.YtmjkgnlmdcmdbaaDoor.Row Go.Proofs.YtmjkgnlmdcmdbaaDoor.Sets
set_option linter.unusedVariables false
set_option linter.unusedSimpArgs false
set_option maxRecDepth 100000
/-- what stands while the two are compared -/
structure LK (w0 w : World) (b bp g cap a u d : Nat) (l cs : List Int) (v6 v7 : Value) (I U : List Int) : Prop where
  nt : NT w b a u d
  pl : PL w bp g cap l
  gr : GRow (Value.int .i64) 125 w w0.heap.size cs
  o6 : Kd.R (Kd.int .i64) 3 w (w0.heap.size + 1) (fun k => True ∧ some k ≠ v7.ownBlock) v6 I
  o7 : Kd.R (Kd.int .i64) 3 w (w0.heap.size + 1) (fun k => True ∧ some k ≠ v6.ownBlock) v7 U
  be : Below w0.heap.size w0 w
  ap : b < w0.heap.size ∧ bp < w0.heap.size ∧ g < w0.heap.size
section
variable {w0 w w' : World} {b bp g cap a u d : Nat} {l cs : List Int} {v6 v7 : Value} {I U : List Int}
theorem LK.below (h : LK w0 w b bp g cap a u d l cs v6 v7 I U) (hb : Below w.heap.size w w') : LK w0 w' b bp g cap a u d l cs v6 v7 I U :=
  ⟨h.nt.below hb h.nt.lt, h.pl.below hb, h.gr.below hb h.gr.lt, Kd.R_below h.o6 hb, Kd.R_below h.o7 hb, below_step h.be hb, h.ap⟩
theorem LK.drew (h : LK w0 w b bp g cap a u d l cs v6 v7 I U) : LK w0 w.drew b bp g cap a u d l cs v6 v7 I U := h.below (below_drew (Below.refl _ _))
theorem LK.put (h : LK w0 w b bp g cap a u d l cs v6 v7 I U) (j : Nat) (x : Int) : LK w0 (w.setCell ⟨w0.heap.size, j, none⟩ (.int .i64 x)) b bp g cap a u d l (cs.set j x) v6 v7 I U :=
  ⟨h.nt.far _ (Nat.ne_of_lt h.ap.1) _, h.pl.heaps (Below.heap_setCell w ⟨w0.heap.size, j, none⟩ _ bp (Nat.ne_of_lt h.ap.2.1)) (Below.heap_setCell w ⟨w0.heap.size, j, none⟩ _ g (Nat.ne_of_lt h.ap.2.2)), h.gr.set j x,
   Kd.R_mono (Kd.R_far (p := ⟨w0.heap.size, j, none⟩) (Kd.R_bound h.o6) (fun k hk => by have := hk.2.1; show k ≠ w0.heap.size; omega) _) (fun _ hk => hk.1),
   Kd.R_mono (Kd.R_far (p := ⟨w0.heap.size, j, none⟩) (Kd.R_bound h.o7) (fun k hk => by have := hk.2.1; show k ≠ w0.heap.size; omega) _) (fun _ hk => hk.1),
   h.be.setCell (Nat.le_refl _) _, h.ap⟩
theorem LK.cp (h : LK w0 w b bp g cap a u d l cs v6 v7 I U) {N : Nat} (hl : l.length = N) : w.cell? ⟨bp, 0, none⟩ = some (.slice (some ⟨g, 0, none⟩) N cap) := by rw [← hl]; exact h.pl.c
theorem LK.ce (h : LK w0 w b bp g cap a u d l cs v6 v7 I U) {i : Nat} {v : Int} (hv : i < l.length ∧ l.getD i 0 = v) : w.cell? ⟨g, i, none⟩ = some (.int .i64 v) := by rw [h.pl.at_ i hv.1, hv.2]
theorem LK.cq (h : LK w0 w b bp g cap a u d l cs v6 v7 I U) {j : Nat} {x : Int} (hx : cs[j]? = some x) : w.cell? ⟨w0.heap.size, j, none⟩ = some (.int .i64 x) := by
  obtain ⟨hl, he⟩ := List.getElem?_eq_some_iff.1 hx
  rw [h.gr.cell j hl, he]
theorem LK.app6 (h : LK w0 w b bp g cap a u d l cs v6 v7 I U) {w1 : World} {v1 : Value} {x : Int} (ho : Kd.R (Kd.int .i64) 3 w1 (w0.heap.size + 1) (fun k => True ∧ some k ≠ v7.ownBlock) v1 (I ++ [x])) (hb : Below (w0.heap.size + 1) w w1) (hg : w.grownBy w1 v6.ownBlock) (hat : v1.ownBlock = v6.ownBlock ∨ ∃ b, v1.ownBlock = some b ∧ w.heap.size ≤ b) :
    LK w0 w1 b bp g cap a u d l cs v1 v7 (I ++ [x]) U :=
  ⟨h.nt.below hb (by have := h.ap; omega), h.pl.heaps (hb.block bp (by have := h.ap; omega)) (hb.block g (by have := h.ap; omega)), h.gr.below hb (by omega), ho, Kd.R_after h.o7 hg hat, h.be.trans (hb.mono (by omega)), h.ap⟩
theorem LK.app7 (h : LK w0 w b bp g cap a u d l cs v6 v7 I U) {w1 : World} {v1 : Value} {x : Int} (ho : Kd.R (Kd.int .i64) 3 w1 (w0.heap.size + 1) (fun k => True ∧ some k ≠ v6.ownBlock) v1 (U ++ [x])) (hb : Below (w0.heap.size + 1) w w1) (hg : w.grownBy w1 v7.ownBlock) (hat : v1.ownBlock = v7.ownBlock ∨ ∃ b, v1.ownBlock = some b ∧ w.heap.size ≤ b) :
    LK w0 w1 b bp g cap a u d l cs v6 v1 I (U ++ [x]) :=
  ⟨h.nt.below hb (by have := h.ap; omega), h.pl.heaps (hb.block bp (by have := h.ap; omega)) (hb.block g (by have := h.ap; omega)), h.gr.below hb (by omega), Kd.R_after h.o6 hg hat, ho, h.be.trans (hb.mono (by omega)), h.ap⟩
theorem LK.new6 (h : LK w0 w b bp g cap a u d l cs v6 v7 I U) (k : Nat) (hk : w.heap.size ≤ k) : True ∧ some k ≠ v7.ownBlock := ⟨trivial, fun e => by have := Kd.R_lt h.o7 k e.symm; omega⟩
theorem LK.new7 (h : LK w0 w b bp g cap a u d l cs v6 v7 I U) (k : Nat) (hk : w.heap.size ≤ k) : True ∧ some k ≠ v6.ownBlock := ⟨trivial, fun e => by have := Kd.R_lt h.o6 k e.symm; omega⟩
theorem LK.of6 (h : LK w0 w b bp g cap a u d l cs v6 v7 I U) (hI : I.length ≤ 64) {s : Nat} (hs : ofS I = s) : Calls Tryd.prog 24 #[v6] w fun e w' => e = .returned (.int .u64 s) ∧ w = w' := by
  obtain ⟨A, c, rfl, hc, hC⟩ := Kd.R_reads h.o6
  refine (of_any A c I w (Rds.ofC hC) (by omega)).mono ?_
  rintro e w' ⟨rfl, rfl⟩
  exact ⟨by rw [hs], rfl⟩
theorem LK.of7 (h : LK w0 w b bp g cap a u d l cs v6 v7 I U) (hU : U.length ≤ 64) {s : Nat} (hs : ofS U = s) : Calls Tryd.prog 24 #[v7] w fun e w' => e = .returned (.int .u64 s) ∧ w = w' := by
  obtain ⟨A, c, rfl, hc, hC⟩ := Kd.R_reads h.o7
  refine (of_any A c U w (Rds.ofC hC) (by omega)).mono ?_
  rintro e w' ⟨rfl, rfl⟩
  exact ⟨by rw [hs], rfl⟩
end
end Go.Proofs.YtmjkgnlmdcmdbaaDoor.Node
