/- Values of ints and bools alone (structs and arrays of them, to the bottom), as they come in: each leaf's cell; and slices of such. A closed fact 'flatOf P 6 t = some Ls' tells a type's leaves. -/
import Derived.WalkKit
import Derived.ProofKit
import Derived.OpenShut
import Derived.DataReads
import Derived.ChangeArms
import Derived.WideShapes
namespace Go.Proofs.YtmjkgnlmdcmdbaaDoor.Flat
open Go Go.RowKit Go.ChangeShapes Go.WideShapes Go.ChangeAt
set_option linter.unusedVariables false
inductive Leaf where
  | int (k : IntKind)
  | bool
def Leaf.Ok : Leaf → Value → Prop
  | .int k, v => ∃ n, v = .int k n ∧ (Lit.int k n).wf = true
  | .bool, v => ∃ b, v = .bool b
def Leaves : List Leaf → List Value → Prop
  | [], [] => True
  | l :: ls, c :: cs => l.Ok c ∧ Leaves ls cs
  | _, _ => False
theorem Leaves.len : ∀ {ls : List Leaf} {cs : List Value}, Leaves ls cs → cs.length = ls.length
  | [], [], _ => rfl
  | _ :: _, _ :: _, h => by simp [Leaves.len h.2]
  | [], _ :: _, h => h.elim
  | _ :: _, [], h => h.elim
theorem Leaves.append : ∀ {ls ms : List Leaf} {cs ds : List Value}, Leaves ls cs → Leaves ms ds → Leaves (ls ++ ms) (cs ++ ds)
  | [], _, [], _, _, h => h
  | _ :: _, _, _ :: _, _, h, k => ⟨h.1, Leaves.append h.2 k⟩
  | [], _, _ :: _, _, h, _ => h.elim
  | _ :: _, _, [], _, h, _ => h.elim
theorem Leaves.cons {l : Leaf} {ls : List Leaf} {cs : List Value} (h : Leaves (l :: ls) cs) : ∃ c ds, cs = c :: ds ∧ l.Ok c ∧ Leaves ls ds := by
  cases cs with
  | nil => exact h.elim
  | cons c ds => exact ⟨c, ds, rfl, h.1, h.2⟩
theorem Leaves.nil {cs : List Value} (h : Leaves [] cs) : cs = [] := by
  cases cs with
  | nil => rfl
  | cons c ds => exact h.elim

section
variable {H : Type} {enc : TypeId × Value → H} {P : Program} {w : World} {base : Nat} {spare : Nat → Bool} {held : Bool}

end
end Go.Proofs.YtmjkgnlmdcmdbaaDoor.Flat
