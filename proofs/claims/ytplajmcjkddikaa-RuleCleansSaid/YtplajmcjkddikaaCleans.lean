/- RuleCleans: the law's own canonical form, and the law's walk. -/
import Derived.Test.YtplajmcjkddikaaReq
import Derived.Lib.Hide
import Derived.RegionTactic
import Derived.Deep.RegionWith
import Derived.Deep.DeepCutAuto
import Derived.Deep.CutBlock
import Derived.OpenShut
import Derived.StillTailTactics
import Derived.Handy
namespace Go.Proofs.Ytplajmcjkddikaa.Cleans
open Go.RowKit Go.Proofs.YtplajmcjkddikaaW.PrintWords Go.Proofs.YtplajmcjkddikaaW.PrintLast Go.Proofs.YtplajmcjkddikaaW.PrintMore Go.Proofs.Ytplajmcjkddikaa.Req
set_option linter.unusedVariables false
set_option linter.unusedSimpArgs false

def ag : Q → Value := fun (a0, a1, a2, a3, a4, a5, a6, a7, a8) => .agg #[.int .i64 a0, .int .i64 a1, .int .i64 a2, .int .i64 a3, .int .i64 a4, .int .i64 a5, .bool a6, .int .i64 a7, .int .i64 a8]
set_option maxRecDepth 100000 in
set_option maxHeartbeats 2000000 in
theorem clean9_1 (a1 a2 a3 a4 a5 : Int) (a6 : Bool) (a7 a8 : Int) (w : World) :
    Calls Try.prog 64 #[ag (1, a1, a2, a3, a4, a5, a6, a7, a8)] w fun e w' => e = .returned (ag (cl (1, a1, a2, a3, a4, a5, a6, a7, a8))) ∧ Below w.heap.size w w' := by
  have hu64 := Try.underlying64
  unfold ag
  go_enter Try.func64, Try.ntmps64
  go_wp2
  go_returns
  exact ⟨rfl, by go_grown⟩
set_option maxRecDepth 100000 in
set_option maxHeartbeats 2000000 in
theorem clean9_2 (a1 a2 a3 a4 a5 : Int) (a6 : Bool) (a7 a8 : Int) (w : World) :
    Calls Try.prog 64 #[ag (2, a1, a2, a3, a4, a5, a6, a7, a8)] w fun e w' => e = .returned (ag (cl (2, a1, a2, a3, a4, a5, a6, a7, a8))) ∧ Below w.heap.size w w' := by
  have hu64 := Try.underlying64
  unfold ag
  go_enter Try.func64, Try.ntmps64
  go_wp2
  go_returns
  exact ⟨rfl, by go_grown⟩
set_option maxRecDepth 100000 in
set_option maxHeartbeats 2000000 in
theorem clean9_3 (a1 a2 a3 a4 a5 : Int) (a6 : Bool) (a7 a8 : Int) (w : World) :
    Calls Try.prog 64 #[ag (3, a1, a2, a3, a4, a5, a6, a7, a8)] w fun e w' => e = .returned (ag (cl (3, a1, a2, a3, a4, a5, a6, a7, a8))) ∧ Below w.heap.size w w' := by
  have hu64 := Try.underlying64
  unfold ag
  go_enter Try.func64, Try.ntmps64
  go_wp2
  go_returns
  exact ⟨rfl, by go_grown⟩
set_option maxRecDepth 100000 in
set_option maxHeartbeats 2000000 in
theorem clean9_4 (a1 a2 a3 a4 a5 : Int) (a6 : Bool) (a7 a8 : Int) (w : World) :
    Calls Try.prog 64 #[ag (4, a1, a2, a3, a4, a5, a6, a7, a8)] w fun e w' => e = .returned (ag (cl (4, a1, a2, a3, a4, a5, a6, a7, a8))) ∧ Below w.heap.size w w' := by
  have hu64 := Try.underlying64
  unfold ag
  go_enter Try.func64, Try.ntmps64
  go_wp2
  go_returns
  exact ⟨rfl, by go_grown⟩
set_option maxRecDepth 100000 in
set_option maxHeartbeats 2000000 in
theorem clean9_5 (a1 a2 a3 a4 a5 : Int) (a6 : Bool) (a7 a8 : Int) (w : World) :
    Calls Try.prog 64 #[ag (5, a1, a2, a3, a4, a5, a6, a7, a8)] w fun e w' => e = .returned (ag (cl (5, a1, a2, a3, a4, a5, a6, a7, a8))) ∧ Below w.heap.size w w' := by
  have hu64 := Try.underlying64
  unfold ag
  go_enter Try.func64, Try.ntmps64
  go_wp2
  go_returns
  exact ⟨rfl, by go_grown⟩
set_option maxRecDepth 100000 in
set_option maxHeartbeats 2000000 in
theorem clean9_6 (a1 a2 a3 a4 a5 : Int) (a6 : Bool) (a7 a8 : Int) (w : World) :
    Calls Try.prog 64 #[ag (6, a1, a2, a3, a4, a5, a6, a7, a8)] w fun e w' => e = .returned (ag (cl (6, a1, a2, a3, a4, a5, a6, a7, a8))) ∧ Below w.heap.size w w' := by
  have hu64 := Try.underlying64
  unfold ag
  go_enter Try.func64, Try.ntmps64
  go_wp2
  go_returns
  exact ⟨rfl, by go_grown⟩
set_option maxRecDepth 100000 in
set_option maxHeartbeats 2000000 in
theorem clean9_7 (a1 a2 a3 a4 a5 : Int) (a6 : Bool) (a7 a8 : Int) (w : World) :
    Calls Try.prog 64 #[ag (7, a1, a2, a3, a4, a5, a6, a7, a8)] w fun e w' => e = .returned (ag (cl (7, a1, a2, a3, a4, a5, a6, a7, a8))) ∧ Below w.heap.size w w' := by
  have hu64 := Try.underlying64
  unfold ag
  go_enter Try.func64, Try.ntmps64
  go_wp2
  go_returns
  exact ⟨rfl, by go_grown⟩
set_option maxRecDepth 100000 in
set_option maxHeartbeats 2000000 in
theorem clean9_8 (a1 a2 a3 a4 a5 : Int) (a6 : Bool) (a7 a8 : Int) (w : World) :
    Calls Try.prog 64 #[ag (8, a1, a2, a3, a4, a5, a6, a7, a8)] w fun e w' => e = .returned (ag (cl (8, a1, a2, a3, a4, a5, a6, a7, a8))) ∧ Below w.heap.size w w' := by
  have hu64 := Try.underlying64
  unfold ag
  go_enter Try.func64, Try.ntmps64
  go_wp2
  go_returns
  exact ⟨rfl, by go_grown⟩
set_option maxRecDepth 100000 in
set_option maxHeartbeats 2000000 in
theorem clean9_9 (a1 a2 a3 a4 a5 : Int) (a6 : Bool) (a7 a8 : Int) (w : World) :
    Calls Try.prog 64 #[ag (9, a1, a2, a3, a4, a5, a6, a7, a8)] w fun e w' => e = .returned (ag (cl (9, a1, a2, a3, a4, a5, a6, a7, a8))) ∧ Below w.heap.size w w' := by
  have hu64 := Try.underlying64
  unfold ag
  go_enter Try.func64, Try.ntmps64
  go_wp2
  go_returns
  exact ⟨rfl, by go_grown⟩
set_option maxRecDepth 100000 in
set_option maxHeartbeats 2000000 in
theorem clean9_o (a0 a1 a2 a3 a4 a5 : Int) (a6 : Bool) (a7 a8 : Int) (w : World) (h1 : ¬ a0 = 1) (h2 : ¬ a0 = 2) (h3 : ¬ a0 = 3) (h4 : ¬ a0 = 4) (h5 : ¬ a0 = 5) (h6 : ¬ a0 = 6) (h7 : ¬ a0 = 7) (h8 : ¬ a0 = 8) (h9 : ¬ a0 = 9) :
    Calls Try.prog 64 #[ag (a0, a1, a2, a3, a4, a5, a6, a7, a8)] w fun e w' => e = .returned (ag (cl (a0, a1, a2, a3, a4, a5, a6, a7, a8))) ∧ Below w.heap.size w w' := by
  have hc : cl (a0, a1, a2, a3, a4, a5, a6, a7, a8) = (a0, 0, 0, 0, 0, 0, false, 0, 0) := by simp [cl, h1, h2, h3, h4, h5, h6, h7, h8, h9]
  rw [hc]
  have b1 : (a0 == 1) = false := by simpa using h1
  have b2 : (a0 == 2) = false := by simpa using h2
  have b3 : (a0 == 3) = false := by simpa using h3
  have b4 : (a0 == 4) = false := by simpa using h4
  have b5 : (a0 == 5) = false := by simpa using h5
  have b6 : (a0 == 6) = false := by simpa using h6
  have b7 : (a0 == 7) = false := by simpa using h7
  have b8 : (a0 == 8) = false := by simpa using h8
  have b9 : (a0 == 9) = false := by simpa using h9
  clear hc h1 h2 h3 h4 h5 h6 h7 h8 h9
  have hu64 := Try.underlying64
  unfold ag
  go_enter Try.func64, Try.ntmps64
  go_wp2
  go_returns
  exact ⟨rfl, by go_grown⟩
theorem clean9_any (q : Q) (w : World) : Calls Try.prog 64 #[ag q] w fun e w' => e = .returned (ag (cl q)) ∧ Below w.heap.size w w' := by
  obtain ⟨a0, a1, a2, a3, a4, a5, a6, a7, a8⟩ := q
  by_cases h1 : a0 = 1
  · subst h1; exact clean9_1 _ _ _ _ _ _ _ _ w
  by_cases h2 : a0 = 2
  · subst h2; exact clean9_2 _ _ _ _ _ _ _ _ w
  by_cases h3 : a0 = 3
  · subst h3; exact clean9_3 _ _ _ _ _ _ _ _ w
  by_cases h4 : a0 = 4
  · subst h4; exact clean9_4 _ _ _ _ _ _ _ _ w
  by_cases h5 : a0 = 5
  · subst h5; exact clean9_5 _ _ _ _ _ _ _ _ w
  by_cases h6 : a0 = 6
  · subst h6; exact clean9_6 _ _ _ _ _ _ _ _ w
  by_cases h7 : a0 = 7
  · subst h7; exact clean9_7 _ _ _ _ _ _ _ _ w
  by_cases h8 : a0 = 8
  · subst h8; exact clean9_8 _ _ _ _ _ _ _ _ w
  by_cases h9 : a0 = 9
  · subst h9; exact clean9_9 _ _ _ _ _ _ _ _ w
  exact clean9_o _ _ _ _ _ _ _ _ _ w h1 h2 h3 h4 h5 h6 h7 h8 h9
theorem Clean_any (q : Q) (w : World) : Calls Try.prog 63 #[ag q] w fun e w' => e = .returned (ag (cl q)) ∧ Below w.heap.size w w' := by
  obtain ⟨a0, a1, a2, a3, a4, a5, a6, a7, a8⟩ := q
  have h := clean_k 2 (Nat.le_refl _) a0 a1 a2 a3 a4 a5 a6 a7 a8
  generalize cl (a0, a1, a2, a3, a4, a5, a6, a7, a8) = p at *
  obtain ⟨b0, b1, b2, b3, b4, b5, b6, b7, b8⟩ := p
  exact PReqApart.rule_Clean.calls 2 _ _ _ _ _ _ _ _ _ _ _ _ _ _ _ _ _ _ w h
theorem Same_any (q p : Q) (w : World) : Calls Try.prog 65 #[ag q, ag p] w fun e w' => e = .returned (.bool (decide (cl q = cl p))) ∧ Below w.heap.size w w' := by
  obtain ⟨a0, a1, a2, a3, a4, a5, a6, a7, a8⟩ := q
  obtain ⟨b0, b1, b2, b3, b4, b5, b6, b7, b8⟩ := p
  exact PReqApart.rule_Same.calls 2 _ _ _ _ _ _ _ _ _ _ _ _ _ _ _ _ _ _ _ w (same_k 2 (Nat.le_refl _) a0 a1 a2 a3 a4 a5 a6 a7 a8 b0 b1 b2 b3 b4 b5 b6 b7 b8)
theorem eq_any (q p : Q) (w : World) : (binOp .eql 64 (ag q) (ag p)).run Try.prog w = .ok (.bool (decide (q = p))) w := by
  obtain ⟨a0, a1, a2, a3, a4, a5, a6, a7, a8⟩ := q
  obtain ⟨b0, b1, b2, b3, b4, b5, b6, b7, b8⟩ := p
  have hd : decide ((a0, a1, a2, a3, a4, a5, a6, a7, a8) = (b0, b1, b2, b3, b4, b5, b6, b7, b8)) = (a0 == b0 && (a1 == b1 && (a2 == b2 && (a3 == b3 && (a4 == b4 && (a5 == b5 && (a6 == b6 && (a7 == b7 && (a8 == b8))))))))) := by
    rw [Bool.eq_iff_iff]; simp [Prod.mk.injEq]
  rw [hd]
  have h := fun d => PReqApart.eqA64 d w a0 b0 a1 b1 a2 b2 a3 b3 a4 b4 a5 b5 a6 b6 a7 b7 a8 b8
  unfold ag
  go_simp
end Go.Proofs.Ytplajmcjkddikaa.Cleans
