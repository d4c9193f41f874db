/- What a walk is told of slices of integers that came in. -/
import Derived.Test.YtmjkgnlmdcmdbaaDoorWWords
import Derived.Test.YtmjkgnlmdcmdbaaDoorWMore
namespace Go.Proofs.YtmjkgnlmdcmdbaaDoor.Open
open Go.RowKit Go.Proofs.YtmjkgnlmdcmdbaaDoorW.PrintWords
def IsRow (k : IntKind) (w : World) (a : Option Addr) (len cap : Nat) (zs : List Int) : Prop :=
  (a = none ∧ len = 0 ∧ cap = 0 ∧ zs = []) ∨
  ∃ x, a = some x ∧ len ≤ cap ∧ cap ≤ maxLen ∧ zs.length = cap ∧ (∀ i, i < zs.length → w.cell? (x.add i) = some (.int k (zs.getD i 0))) ∧ ∀ n ∈ zs, (Lit.int k n).wf = true
theorem IsRow.list {k : IntKind} {w : World} {a : Option Addr} {len cap : Nat} {zs : List Int} (h : IsRow k w a len cap zs) :
    ∃ l : List Int, len = l.length ∧ Kd.C (Kd.int k) w a l.length l ∧ l.length ≤ maxLen ∧ (∀ x ∈ l, (Lit.int k x).wf = true) ∧ l.length ≤ cap := by
  obtain ⟨l, h1, h2, h3, h4, h5⟩ := ReadsInt.ofRowC h
  exact ⟨l, h1, Kd.C_of_reads (d := (0 : Int)) (h1 := fun _ => rfl) h2, h3, h4, h5⟩
end Go.Proofs.YtmjkgnlmdcmdbaaDoor.Open
