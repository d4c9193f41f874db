/- LockGoes: the row of numbers that the law makes. -/
import Derived.Test.YtplajmcjkddikaaGoesPlain
import Derived.Test.YtplajmcjkddikaaPlaysLaw
import Derived.Laws.MakeOwn
namespace Go.Proofs.Ytplajmcjkddikaa.Lock
open Go.RowKit Go.Proofs.YtplajmcjkddikaaW.PrintWords Go.Proofs.YtplajmcjkddikaaW.PrintLast Go.Proofs.YtplajmcjkddikaaW.PrintMore Go.Proofs.Ytplajmcjkddikaa.Rule
set_option linter.unusedVariables false
set_option linter.unusedSimpArgs false
/-- at block g lie these numbers -/
def NX (w : World) (g : Nat) (nx : List Int) : Prop := w.heap[g]? = some (.cells (nx.map (Value.int .i64)).toArray 3 (0, 0))
theorem NX.cell {w : World} {g : Nat} {nx : List Int} (h : NX w g nx) (j : Nat) (hj : j < nx.length) : w.cell? ⟨g, j, none⟩ = some (.int .i64 (nx.getD j 0)) := by
  have := blk_cell h j
  rw [this]
  simp [List.getD_eq_getElem?_getD, hj]
theorem NX.soft {w : World} {g : Nat} {nx : List Int} (h : NX w g nx) (j : Nat) : w.frozen? ⟨g, j, none⟩ = false := blk_frozen h j
theorem NX.set {w : World} {g : Nat} {nx : List Int} (h : NX w g nx) (j : Nat) (v : Int) : NX (w.setCell ⟨g, j, none⟩ (.int .i64 v)) g (nx.set j v) := by
  have := blk_set h j (.int .i64 v)
  unfold NX
  rw [this]
  simp [List.map_set]
theorem NX.below {w w' : World} {g : Nat} {nx : List Int} (h : NX w g nx) (hb : Below w.heap.size w w') : NX w' g nx := blk_below h hb
theorem NX.upd {w w' : World} {g b : Nat} {nx : List Int} (h : NX w g nx) (hu : Upd b w w') (hne : g ≠ b) : NX w' g nx := (hu.1.2 g (blk_lt h) hne).trans h
theorem NX.lt {w : World} {g : Nat} {nx : List Int} (h : NX w g nx) : g < w.heap.size := blk_lt h
theorem run_next (w : World) (n : Nat) (hn : n ≤ 8) : (Instr.makeSlice 68 (.int .i64 n) (.int .i64 n)).run Try.prog w = .ok (.slice (some ⟨w.heap.size, 0, none⟩) n n) (w.alloc (.cells ((List.replicate n (0 : Int)).map (Value.int .i64)).toArray 3)) := by
  have hinfo : (Try.prog.info? 3).map (fun i => (i.zero, i.size, i.bytes)) = some (some (.int .i64 0), 1, 8) := by kernel_rfl
  obtain ⟨i, hi, hi2⟩ := Option.map_eq_some_iff.1 hinfo
  simp only [Prod.mk.injEq] at hi2
  obtain ⟨hz, hs, hb⟩ := hi2
  have h := run_make (P := Try.prog) w 68 3 i (.int .i64 0) Try.underlying68 hi hz .i64 .i64 (n : Int) (n : Int) (by omega) (by omega) (by rw [hb]; omega) (by omega)
  have e : madeCells (Value.int .i64 0).cells n = ((List.replicate n (0 : Int)).map (Value.int .i64)).toArray := by
    apply Array.ext
    · simp [madeCells]
    · intro k h1 h2
      simp [madeCells, Value.cells]
      rw [Nat.mod_one]
      rfl
  rw [hs, Nat.mul_one, Int.toNat_natCast, e] at h
  exact h
end Go.Proofs.Ytplajmcjkddikaa.Lock
