/- What a reader's calls leave alone. -/
import Derived.Test.YtplajmcjkddikaaReader3
import Derived.Lib.Hide
import Derived.RegionTactic
import Derived.Deep.RegionWith
import Derived.Deep.DeepCutAuto
import Derived.Deep.CutBlock
import Derived.OpenShut
import Derived.StillTailTactics
import Derived.Handy
import Derived.Deep.RegionHeld3
import Derived.Outline
namespace Go.Proofs.Ytplajmcjkddikaa.Far
open Go.RowKit Go.Proofs.YtplajmcjkddikaaW.PrintWords Go.Proofs.YtplajmcjkddikaaW.PrintLast Go.Proofs.YtplajmcjkddikaaW.PrintMore Go.Proofs.Ytplajmcjkddikaa.Leb Go.Proofs.Ytplajmcjkddikaa.Wire Go.Proofs.Ytplajmcjkddikaa.Reader Go.Proofs.Ytplajmcjkddikaa.Lock
theorem RS.far {w0 w : World} {g : Nat} {xs : List Int} {e : Int} (h : RS w0 w g xs e) {p : Addr} (hp : g ≠ p.block) (hb : w0.heap.size ≤ p.block) (v : Value) : RS w0 (w.setCell p v) g xs e := by
  obtain ⟨A, c, h1, h2, h3⟩ := h.ex
  exact ⟨⟨A, c, blk_far h1 hp v, h2, h3⟩, h.base, h.low.setCell hb v⟩
theorem Upd.blk {b g : Nat} {w w' : World} (h : Upd b w w') {o : Obj} (hb : w.heap[g]? = some o) (hne : g ≠ b) : w'.heap[g]? = some o := (h.1.2 g (blk_lt hb) hne).trans hb
theorem str_ne {xs ys : List Int} (hx : ∀ c ∈ xs, 0 ≤ c ∧ c < 256) (hy : ∀ c ∈ ys, 0 ≤ c ∧ c < 256) (h : xs ≠ ys) : (strOfNums xs).toList ≠ (strOfNums ys).toList := by
  intro he
  rw [str_list, str_list] at he
  exact h (map_inj xs ys hx hy he)
end Go.Proofs.Ytplajmcjkddikaa.Far
