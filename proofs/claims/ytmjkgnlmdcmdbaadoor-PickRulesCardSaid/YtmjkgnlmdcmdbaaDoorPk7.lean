/- pick.far, pick.near, pick.Of by the rule of those nearest to the middle. -/
import Derived.Test.YtmjkgnlmdcmdbaaDoorPk6
import Derived.Test.YtmjkgnlmdcmdbaaDoorPk5
namespace Go.Proofs.YtmjkgnlmdcmdbaaDoor.Pick
open Go.RowKit Go.Proofs.YtmjkgnlmdcmdbaaDoorW.PrintWords Go.Proofs.YtmjkgnlmdcmdbaaDoorW.PrintLast Go.Proofs.YtmjkgnlmdcmdbaaDoorW.PrintMore Go.Proofs.YtmjkgnlmdcmdbaaDoor.Row Go.Proofs.YtmjkgnlmdcmdbaaDoor.Sets
set_option linter.unusedVariables false
set_option linter.unusedSimpArgs false
set_option maxRecDepth 100000
theorem far_pick (a b : Nat) (w : World) (ha : a < 64) (hb : b < 64) : Calls Tryd.prog 117 #[.int .i64 (a : Int), .int .i64 (b : Int)] w fun e w' => e = .returned (.int .i64 (fd b a : Nat)) ∧ w = w' := by
  have hm : max ((a : Int) - (b : Int)) ((b : Int) - (a : Int)) = ((fd b a : Nat) : Int) := by unfold fd; omega
  have W1 := wrapC (show (a : Int) - (b : Int) = (a : Int) - (b : Int) from rfl) (by omega) (by omega)
  have W2 := wrapC (show (b : Int) - (a : Int) = (b : Int) - (a : Int) from rfl) (by omega) (by omega)
  have HM := Lib.hid hm
  have w1 := W1.1
  have w2 := W1.2
  have w3 := W2.1
  have w4 := W2.2
  clear W1 W2 ha hb hm
  go_enter Tryd.func117, Tryd.ntmps117
  go_wp2
  go_ret
  exact ⟨by rw [← HM.out]; rfl, rfl⟩
theorem far_law (a b : Nat) (w : World) (ha : a < 64) (hb : b < 64) : Calls Tryd.prog 107 #[.int .i64 (a : Int), .int .i64 (b : Int)] w fun e w' => e = .returned (.int .i64 (fd b a : Nat)) ∧ w = w' := by
  have W1 := wrapC (show (a : Int) - (b : Int) = (a : Int) - (b : Int) from rfl) (by omega) (by omega)
  have W2 := wrapC (show (b : Int) - (a : Int) = (b : Int) - (a : Int) from rfl) (by omega) (by omega)
  have w1 := W1.1
  have w2 := W1.2
  have w3 := W2.1
  have w4 := W2.2
  by_cases h : b < a
  · have HF : Hid (((fd b a : Nat) : Int) = (a : Int) - (b : Int)) := Lib.hid (by unfold fd; omega)
    have d1 : decide ((b : Int) < (a : Int)) = true := decide_eq_true (by omega)
    have d2 : decide (b < a) = true := decide_eq_true h
    clear W1 W2 ha hb h
    go_enter Tryd.func107, Tryd.ntmps107
    go_wp2
    go_ret
    exact ⟨by rw [HF.out]; rfl, rfl⟩
  · have HF : Hid (((fd b a : Nat) : Int) = (b : Int) - (a : Int)) := Lib.hid (by unfold fd; omega)
    have d1 : decide ((b : Int) < (a : Int)) = false := decide_eq_false (by omega)
    have d2 : decide (b < a) = false := decide_eq_false h
    clear W1 W2 ha hb h
    go_enter Tryd.func107, Tryd.ntmps107
    go_wp2
    go_ret
    exact ⟨by rw [HF.out]; rfl, rfl⟩
end Go.Proofs.YtmjkgnlmdcmdbaaDoor.Pick
