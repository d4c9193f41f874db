/- Law 39: few. -/
import Derived.Test.YtmjkgnlmdcmdbaaDoorTopo6
namespace Go.Proofs.YtmjkgnlmdcmdbaaDoor.Topo
open Go.RowKit Go.Proofs.YtmjkgnlmdcmdbaaDoorW.PrintWords Go.Proofs.YtmjkgnlmdcmdbaaDoorW.PrintLast Go.Proofs.YtmjkgnlmdcmdbaaDoorW.PrintMore Go.Proofs.YtmjkgnlmdcmdbaaDoor.Row Go.Proofs.YtmjkgnlmdcmdbaaDoor.Sets Go.Proofs.YtmjkgnlmdcmdbaaDoor.Node
set_option linter.unusedVariables false
set_option linter.unusedSimpArgs false
set_option maxRecDepth 100000
theorem few_any (A : Option Addr) (n c : Nat) (w : World) (hc : n ≤ c) (hm : c ≤ maxLen) : Calls Tryd.prog 74 #[.slice A n c] w fun e w' => e = .returned (.slice A (if 70 < n then 70 else n) c) ∧ w = w' := by
  by_cases h : 70 < n
  · have b1 : decide (70 < (n : Int)) = true := decide_eq_true (by omega)
    have b2 : decide (70 < n) = true := decide_eq_true h
    have hm2 : c ≤ 9223372036854775807 := by unfold maxLen at hm; omega
    have b3 : decide ((70 : Int) ≤ (c : Int)) = true := decide_eq_true (by omega)
    have b4 : (70 ≤ c) = True := eq_true (by omega)
    have b5 : (c < 70) = False := eq_false (by omega)
    rw [if_pos h]
    go_enter Tryd.func74, Tryd.ntmps74
    go_wp2; go_ret; exact ⟨rfl, rfl⟩
  · have b1 : decide (70 < (n : Int)) = false := decide_eq_false (by omega)
    have b2 : decide (70 < n) = false := decide_eq_false h
    rw [if_neg h]
    go_enter Tryd.func74, Tryd.ntmps74
    go_wp2; go_ret; exact ⟨rfl, rfl⟩
end Go.Proofs.YtmjkgnlmdcmdbaaDoor.Topo
