/- hist.Log: what Note does, for every log and every list of events. -/
import Derived.Test.YteeaimbinhmjfaaHist1
import Derived.Test.YteeaimbinhmjfaaFacts
import Derived.Deep.RegionWith
import Derived.Great.FillDense
import Derived.Great.BuildSlice
import Derived.Handy
namespace Go.Proofs.Yteeaimbinhmjfaa.Hist
open Go.RowKit Go.Proofs.Yteeaimbinhmjfaa.Flat Go.Proofs.YteeaimbinhmjfaaW.PrintWords Go.Proofs.YteeaimbinhmjfaaW.PrintLast Go.Proofs.YteeaimbinhmjfaaW.PrintMore
set_option linter.unusedVariables false
set_option linter.unusedSimpArgs false
set_option maxRecDepth 100000
/-- all stands but some blocks -/
structure Chg (ex : Nat → Prop) (w w' : World) : Prop where
  os : w'.os = w.os
  tape : w'.tape = w.tape
  output : w'.output = w.output
  size : w.heap.size ≤ w'.heap.size
  block : ∀ k, k < w.heap.size → ¬ ex k → w'.heap[k]? = w.heap[k]?
theorem Chg.refl (ex : Nat → Prop) (w : World) : Chg ex w w := ⟨rfl, rfl, rfl, Nat.le_refl _, fun _ _ _ => rfl⟩
section
variable {ex : Nat → Prop} {w0 w w1 : World}
theorem Chg.grown (h : Chg ex w0 w) {row : Option Nat} (hg : w.grownBy w1 row) (hr : ∀ k, row = some k → ex k ∨ w0.heap.size ≤ k) : Chg ex w0 w1 :=
  ⟨hg.os.trans h.os, hg.tape.trans h.tape, hg.output.trans h.output, Nat.le_trans h.size hg.size, fun k hk hx => (hg.block k (Nat.lt_of_lt_of_le hk h.size) (fun e => by rcases hr k e.symm with h1 | h1; exact hx h1; omega)).trans (h.block k hk hx)⟩
theorem Chg.below (h : Chg ex w0 w) (hb : Below w.heap.size w w1) : Chg ex w0 w1 :=
  ⟨hb.os.trans h.os, hb.tape.trans h.tape, hb.output.trans h.output, Nat.le_trans h.size hb.size, fun k hk hx => (hb.block k (Nat.lt_of_lt_of_le hk h.size)).trans (h.block k hk hx)⟩
theorem Chg.set (h : Chg ex w0 w) (p : Addr) (v : Value) (hp : ex p.block ∨ w0.heap.size ≤ p.block) : Chg ex w0 (w.setCell p v) := by
  have hb : Below p.block w (w.setCell p v) := (Below.refl p.block w).setCell (Nat.le_refl _) v
  exact ⟨hb.os.trans h.os, hb.tape.trans h.tape, hb.output.trans h.output, Nat.le_trans h.size hb.size, fun k hk hx => (Below.heap_setCell w p v k (fun e => by subst e; rcases hp with h1 | h1; exact hx h1; omega)).trans (h.block k hk hx)⟩
theorem Chg.toBelow (h : Chg ex w0 w) {B : Nat} (hB : B ≤ w0.heap.size) (hx : ∀ k, k < B → ¬ ex k) : Below B w0 w := ⟨h.os, h.tape, h.output, h.size, fun k hk => h.block k (Nat.lt_of_lt_of_le hk hB) (hx k hk)⟩
theorem C_chg (h : Chg ex w0 w) {A : Option Addr} {n : Nat} {z : List (List Value)} (hC : E24.C w0 A n z) (hA : ∀ ad, A = some ad → 0 < n → ¬ ex ad.block) : E24.C w A n z := by
  obtain ⟨h1, h2, h3⟩ := hC
  refine ⟨h1, h2, fun hp => ?_⟩
  obtain ⟨ad, e, hc⟩ := h3 hp
  refine ⟨ad, e, fun j p hj => ?_⟩
  obtain ⟨c, hl, hK, hcell⟩ := hc j p hj
  refine ⟨c, hl, hK, fun i u hu => ?_⟩
  have h4 := hcell i u hu
  have h5 := World.block_lt_of_cell? w0 _ h4
  rw [← h4]
  exact World.cell?_of_block (h.block _ h5 (by rw [add_block]; exact hA ad e hp))
theorem R_chg (h : Chg ex w0 w) {B : Nat} {ok : Nat → Prop} {v : Value} {z : List (List Value)} (hR : E24.R 31 w0 B ok v z) (hx : ∀ k, ok k → ¬ ex k) : E24.R 31 w B ok v z := Kd.R_step hR (fun k ho hk => h.block k hk (hx k ho))
end
theorem blk_cells {w : World} {g : Nat} {c : List Value} (hb : w.heap[g]? = some (.cells c.toArray 31 (0, 0))) : ∀ j u, c[j]? = some u → w.cell? ((⟨g, 0, none⟩ : Addr).add j) = some u := fun j u hu => by
  have h := blk_cell hb j
  rw [List.getElem?_toArray, hu] at h
  rw [← h]
  unfold Addr.add
  split
  · rename_i e; subst e; rfl
  · simp
section
variable {ρ : Operand → Value} {oi : Oper} {W : World}
theorem exec_load (p : Operand) (ho : oi.op = .load 31 p) {ad : Addr} (hp : ρ p = .pointer (some ad)) (c : List Value) (hl : c.length = 24) (hc : ∀ j u, c[j]? = some u → W.cell? (ad.add j) = some u) : (execOp ρ oi).run Try.prog W = .ok (.value (.agg c.toArray)) W := by
  unfold execOp
  simp only [ho, hp, Sem.run_bind, run_load_ev c hl hc, Result.andThen_ok, Sem.run_pure]
theorem exec_lit (p : Operand) (ho : oi.op = .buildSlice 22 1 #[(0, p)]) (c : List Value) (hl : c.length = 24) (hp : ρ p = .agg c.toArray) : (execOp ρ oi).run Try.prog W = .ok (.value (.slice (some ⟨W.heap.size, 0, none⟩) 1 1)) (W.alloc (.cells c.toArray 31)) := by
  obtain ⟨i, hi, hzz⟩ := Option.map_eq_some_iff.1 info24
  simp only [Prod.mk.injEq] at hzz
  obtain ⟨hz0, hz1, hz2⟩ := hzz
  have hsz : i.size = 24 := hz1
  have hrun : (Instr.buildSlice 22 1 #[(0, .agg c.toArray)]).run Try.prog W = .ok (.slice (some ⟨W.heap.size, 0, none⟩) 1 1) (W.alloc (.cells c.toArray 31)) := by
    refine run_buildSlice (P := Try.prog) W 22 31 1 #[(0, .agg c.toArray)] c.toArray i _ Try.underlying22 hi hz0 (by rw [hsz]; decide) (by rw [hsz]; decide) ?_
    rw [hsz]
    have hf := Great.fill_whole (s := 24) (by decide) [.agg c.toArray] ((Array.range (1 * 24)).map fun k => ((Value.agg #[.int .i64 0, .int .i64 0, .int .i64 0, .int .i64 0, .int .i64 0, .int .i64 0, .int .i64 0, .int .i64 0, .int .i64 0, .bool false, .int .i64 0, .int .i64 0, .int .i64 0, .int .i64 0, .int .i64 0, .int .i64 0, .int .i64 0, .int .i64 0, .int .i64 0, .int .i64 0, .int .i64 0, .int .i64 0, .int .i64 0, .bool false]).cells[k % (Value.agg #[.int .i64 0, .int .i64 0, .int .i64 0, .int .i64 0, .int .i64 0, .int .i64 0, .int .i64 0, .int .i64 0, .int .i64 0, .bool false, .int .i64 0, .int .i64 0, .int .i64 0, .int .i64 0, .int .i64 0, .int .i64 0, .int .i64 0, .int .i64 0, .int .i64 0, .int .i64 0, .int .i64 0, .int .i64 0, .int .i64 0, .bool false]).cells.size]!)) (by intro v hv; rw [List.mem_singleton.1 hv]; simp [Value.cells, hl]) (by simp)
    have e : ([Value.agg c.toArray].flatMap fun v => v.cells.toList).toArray = c.toArray := by simp [Value.cells]
    rw [e] at hf
    exact hf
  unfold execOp
  simp only [ho, List.map_toArray, List.map_cons, List.map_nil, hp, Sem.run_bind, hrun, Result.andThen_ok, Sem.run_pure]
end
def setS (s : Int) (c : List Value) : List Value := c.set 0 (.int .i64 s)
theorem setS_ok (s : Int) (hs : (Lit.int .i64 s).wf = true) {c : List Value} (h : Flat.Leaves EL c) : Flat.Leaves EL (setS s c) := by
  obtain ⟨c0, d0, rfl, ⟨n0, rfl, w0⟩, h0⟩ := Flat.Leaves.cons h
  exact ⟨⟨s, rfl, hs⟩, h0⟩
theorem setS_array (s : Int) (c : List Value) : c.toArray.setIfInBounds 0 (.int .i64 s) = (setS s c).toArray := by simp [setS]
/-- a log: its events, its step; what has been changed since -/
structure NT (W0 W : World) (g B : Nat) (ok : Nat → Prop) (v0 v : Value) (s : Int) (l : List (List Value)) : Prop where
  lg : W.heap[g]? = some (.cells #[v, .int .i64 s] 37 (0, 0))
  r : E24.R 31 W B ok v l
  nw : v.ownBlock = v0.ownBlock ∨ ∃ b, v.ownBlock = some b ∧ W0.heap.size ≤ b
  ch : Chg (fun k => k = g ∨ some k = v0.ownBlock) W0 W
section
variable {W0 W w1 : World} {g B : Nat} {ok : Nat → Prop} {v0 v v1 : Value} {s : Int} {l : List (List Value)} {x : List Value}
theorem NT.below (h : NT W0 W g B ok v0 v s l) (hb : Below W.heap.size W w1) : NT W0 w1 g B ok v0 v s l := ⟨blk_below h.lg hb, Kd.R_below h.r hb, h.nw, h.ch.below hb⟩
theorem NT.drew (h : NT W0 W g B ok v0 v s l) : NT W0 W.drew g B ok v0 v s l := h.below (below_drew (Below.refl _ _))
theorem NT.c0 (h : NT W0 W g B ok v0 v s l) : W.cell? ⟨g, 0, none⟩ = some v := (blk_cell h.lg 0).trans rfl
theorem NT.c1 (h : NT W0 W g B ok v0 v s l) : W.cell? ⟨g, 1, none⟩ = some (.int .i64 s) := (blk_cell h.lg 1).trans rfl
theorem NT.lt (h : NT W0 W g B ok v0 v s l) : g < W.heap.size := blk_lt h.lg
theorem NT.app (h : NT W0 W g B ok v0 v s l) (hok : ∀ k, ok k → k ≠ g) (ho : E24.R 31 w1 B ok v1 (l ++ [x])) (hg : W.grownBy w1 v.ownBlock) (hat : v1.ownBlock = v.ownBlock ∨ ∃ b, v1.ownBlock = some b ∧ W.heap.size ≤ b) :
    NT W0 (w1.setCell ⟨g, 0, none⟩ v1) g B ok v0 v1 s (l ++ [x]) := by
  refine ⟨blk_put ((hg.block g h.lt (fun e => hok g (h.r.1 g e.symm) rfl)).trans h.lg) 0 v1 rfl, Kd.R_far (p := ⟨g, 0, none⟩) ho hok v1, ?_, (h.ch.grown hg ?_).set ⟨g, 0, none⟩ v1 (.inl (.inl rfl))⟩
  · rcases hat with hat | ⟨b, hb, hle⟩
    · rw [hat]; exact h.nw
    · exact .inr ⟨b, hb, Nat.le_trans h.ch.size hle⟩
  · intro k hk
    rcases h.nw with e | ⟨b, hb, hle⟩
    · exact .inl (.inr (by rw [← e, hk]))
    · rw [hb] at hk; injection hk with hk; exact .inr (hk ▸ hle)
end
end Go.Proofs.Yteeaimbinhmjfaa.Hist
