/- RuleNeeds, RuleCleans: what each kind needs; requests with just what their kinds have; by hand walks. -/
import Derived.Test.YtplajmcjkddikaaLanes
import Derived.RegionTactic
import Derived.Deep.RegionWith
import Derived.Deep.DeepCutAuto
import Derived.Deep.CutBlock
namespace Go.Proofs.Ytplajmcjkddikaa.Rule
open Go.RowKit Go.Proofs.YtplajmcjkddikaaW.PrintWords Go.Proofs.YtplajmcjkddikaaW.PrintMore
attribute [local go_sem] max2_int min2_int max_two min_two
set_option linter.unusedVariables false

theorem eql_lane (p q r : Bool) (w : World) : (binOp .eql 57 (lane p q r) (lane p q r)).run Try.prog w = .ok (.bool true) w := by
  cases p <;> cases q <;> cases r <;> kernel_rfl
def isS (k : Int) : Bool := decide (1 ≤ k ∧ k ≤ 13)
def readsS (k : Int) : Bool := decide (k = 6 ∨ k = 10 ∨ k = 11 ∨ k = 12)
theorem is_any (k : Int) (w : World) : Calls Try.prog 55 #[.int .i64 k] w fun e w' => e = .returned (.bool (isS k)) ∧ w = w' := by
  rcases (by omega : k < 1 ∨ (1 ≤ k ∧ k ≤ 13) ∨ 13 < k) with h | ⟨h, h'⟩ | h
  · have e : isS k = false := by unfold isS; simp; omega
    rw [e]; clear e
    go_enter Try.func55, Try.ntmps55
    go_wp2; go_ret; exact ⟨by first | rfl | (simp; omega), rfl⟩
  · have e : isS k = true := by unfold isS; simp; omega
    rw [e]; clear e
    go_enter Try.func55, Try.ntmps55
    go_wp2; go_ret; exact ⟨by first | rfl | (simp; omega), rfl⟩
  · have e : isS k = false := by unfold isS; simp; omega
    rw [e]; clear e
    go_enter Try.func55, Try.ntmps55
    go_wp2; go_ret; exact ⟨by first | rfl | (simp; omega), rfl⟩
theorem reads_yes (k : Int) (w : World) (h : k = 6 ∨ k = 10 ∨ k = 11 ∨ k = 12) : Calls Try.prog 59 #[.int .i64 k] w fun e w' => e = .returned (.bool true) ∧ w = w' := by
  rcases h with rfl | rfl | rfl | rfl <;>
  · go_enter Try.func59, Try.ntmps59
    go_wp2; go_ret; exact ⟨by first | rfl | (simp; omega), rfl⟩
theorem reads_no (k : Int) (w : World) (h6 : (k == 6) = false) (h10 : (k == 10) = false) (h11 : (k == 11) = false) (h12 : (k == 12) = false) : Calls Try.prog 59 #[.int .i64 k] w fun e w' => e = .returned (.bool false) ∧ w = w' := by
  go_enter Try.func59, Try.ntmps59
  go_wp2; go_ret; exact ⟨by first | rfl | (simp; omega), rfl⟩

set_option maxRecDepth 100000 in
theorem rn_1  (w : World)  : Calls Try.prog 10 #[.int .i64 1] w fun e w' => e = .returned (.bool true) ∧ Below w.heap.size w w' := by
  have hi : isS 1 = true := by decide
  have he := eql_lane
  go_enter Try.func10, Try.ntmps10
  go_wp2_with (first
    | (go_at_call 55; refine (is_any _ _).mono ?_; rintro e w1 ⟨rfl, rfl⟩)
    | (go_at_call 56; refine (needs_1 _).mono ?_; rintro e w2 ⟨rfl, hb2⟩)
    | (go_at_call 57; refine (lawneeds_1 _).mono ?_; rintro e w3 ⟨rfl, hb3⟩)
    | (go_at_call 58; refine (every_any _).mono ?_; rintro e w4 ⟨rfl, hb4⟩)
    | (go_at_call 59; refine (reads_no _ _ rfl rfl rfl rfl).mono ?_; rintro e w5 ⟨rfl, rfl⟩)
    | (go_at_call 60; refine (awake9_any _).mono ?_; rintro e w6 ⟨rfl, hb6⟩))
  go_ret
  exact ⟨by first | rfl | (simp; omega), below_step (below_step (below_step hb2 hb3) hb4) hb6⟩
set_option maxRecDepth 100000 in
theorem rn_2  (w : World)  : Calls Try.prog 10 #[.int .i64 2] w fun e w' => e = .returned (.bool true) ∧ Below w.heap.size w w' := by
  have hi : isS 2 = true := by decide
  have he := eql_lane
  go_enter Try.func10, Try.ntmps10
  go_wp2_with (first
    | (go_at_call 55; refine (is_any _ _).mono ?_; rintro e w1 ⟨rfl, rfl⟩)
    | (go_at_call 56; refine (needs_2 _).mono ?_; rintro e w2 ⟨rfl, hb2⟩)
    | (go_at_call 57; refine (lawneeds_2 _).mono ?_; rintro e w3 ⟨rfl, hb3⟩)
    | (go_at_call 58; refine (every_any _).mono ?_; rintro e w4 ⟨rfl, hb4⟩)
    | (go_at_call 59; refine (reads_no _ _ rfl rfl rfl rfl).mono ?_; rintro e w5 ⟨rfl, rfl⟩)
    | (go_at_call 60; refine (awake9_any _).mono ?_; rintro e w6 ⟨rfl, hb6⟩))
  go_ret
  exact ⟨by first | rfl | (simp; omega), below_step (below_step (below_step hb2 hb3) hb4) hb6⟩
set_option maxRecDepth 100000 in
theorem rn_3  (w : World)  : Calls Try.prog 10 #[.int .i64 3] w fun e w' => e = .returned (.bool true) ∧ Below w.heap.size w w' := by
  have hi : isS 3 = true := by decide
  have he := eql_lane
  go_enter Try.func10, Try.ntmps10
  go_wp2_with (first
    | (go_at_call 55; refine (is_any _ _).mono ?_; rintro e w1 ⟨rfl, rfl⟩)
    | (go_at_call 56; refine (needs_3 _).mono ?_; rintro e w2 ⟨rfl, hb2⟩)
    | (go_at_call 57; refine (lawneeds_3 _).mono ?_; rintro e w3 ⟨rfl, hb3⟩)
    | (go_at_call 58; refine (every_any _).mono ?_; rintro e w4 ⟨rfl, hb4⟩)
    | (go_at_call 59; refine (reads_no _ _ rfl rfl rfl rfl).mono ?_; rintro e w5 ⟨rfl, rfl⟩)
    | (go_at_call 60; refine (awake9_any _).mono ?_; rintro e w6 ⟨rfl, hb6⟩))
  go_ret
  exact ⟨by first | rfl | (simp; omega), below_step (below_step (below_step hb2 hb3) hb4) hb6⟩
set_option maxRecDepth 100000 in
theorem rn_4  (w : World)  : Calls Try.prog 10 #[.int .i64 4] w fun e w' => e = .returned (.bool true) ∧ Below w.heap.size w w' := by
  have hi : isS 4 = true := by decide
  have he := eql_lane
  go_enter Try.func10, Try.ntmps10
  go_wp2_with (first
    | (go_at_call 55; refine (is_any _ _).mono ?_; rintro e w1 ⟨rfl, rfl⟩)
    | (go_at_call 56; refine (needs_4 _).mono ?_; rintro e w2 ⟨rfl, hb2⟩)
    | (go_at_call 57; refine (lawneeds_4 _).mono ?_; rintro e w3 ⟨rfl, hb3⟩)
    | (go_at_call 58; refine (every_any _).mono ?_; rintro e w4 ⟨rfl, hb4⟩)
    | (go_at_call 59; refine (reads_no _ _ rfl rfl rfl rfl).mono ?_; rintro e w5 ⟨rfl, rfl⟩)
    | (go_at_call 60; refine (awake9_any _).mono ?_; rintro e w6 ⟨rfl, hb6⟩))
  go_ret
  exact ⟨by first | rfl | (simp; omega), below_step (below_step (below_step hb2 hb3) hb4) hb6⟩
set_option maxRecDepth 100000 in
theorem rn_5  (w : World)  : Calls Try.prog 10 #[.int .i64 5] w fun e w' => e = .returned (.bool true) ∧ Below w.heap.size w w' := by
  have hi : isS 5 = true := by decide
  have he := eql_lane
  go_enter Try.func10, Try.ntmps10
  go_wp2_with (first
    | (go_at_call 55; refine (is_any _ _).mono ?_; rintro e w1 ⟨rfl, rfl⟩)
    | (go_at_call 56; refine (needs_5 _).mono ?_; rintro e w2 ⟨rfl, hb2⟩)
    | (go_at_call 57; refine (lawneeds_5 _).mono ?_; rintro e w3 ⟨rfl, hb3⟩)
    | (go_at_call 58; refine (every_any _).mono ?_; rintro e w4 ⟨rfl, hb4⟩)
    | (go_at_call 59; refine (reads_no _ _ rfl rfl rfl rfl).mono ?_; rintro e w5 ⟨rfl, rfl⟩)
    | (go_at_call 60; refine (awake9_any _).mono ?_; rintro e w6 ⟨rfl, hb6⟩))
  go_ret
  exact ⟨by first | rfl | (simp; omega), below_step (below_step (below_step hb2 hb3) hb4) hb6⟩
set_option maxRecDepth 100000 in
theorem rn_6  (w : World)  : Calls Try.prog 10 #[.int .i64 6] w fun e w' => e = .returned (.bool true) ∧ Below w.heap.size w w' := by
  have hi : isS 6 = true := by decide
  have he := eql_lane
  go_enter Try.func10, Try.ntmps10
  go_wp2_with (first
    | (go_at_call 55; refine (is_any _ _).mono ?_; rintro e w1 ⟨rfl, rfl⟩)
    | (go_at_call 56; refine (needs_6 _).mono ?_; rintro e w2 ⟨rfl, hb2⟩)
    | (go_at_call 57; refine (lawneeds_6 _).mono ?_; rintro e w3 ⟨rfl, hb3⟩)
    | (go_at_call 58; refine (every_any _).mono ?_; rintro e w4 ⟨rfl, hb4⟩)
    | (go_at_call 59; refine (reads_yes _ _ (by omega)).mono ?_; rintro e w5 ⟨rfl, rfl⟩)
    | (go_at_call 60; refine (awake9_any _).mono ?_; rintro e w6 ⟨rfl, hb6⟩))
  go_ret
  exact ⟨by first | rfl | (simp; omega), below_step (below_step (below_step hb2 hb3) hb4) hb6⟩
set_option maxRecDepth 100000 in
theorem rn_7  (w : World)  : Calls Try.prog 10 #[.int .i64 7] w fun e w' => e = .returned (.bool true) ∧ Below w.heap.size w w' := by
  have hi : isS 7 = true := by decide
  have he := eql_lane
  go_enter Try.func10, Try.ntmps10
  go_wp2_with (first
    | (go_at_call 55; refine (is_any _ _).mono ?_; rintro e w1 ⟨rfl, rfl⟩)
    | (go_at_call 56; refine (needs_7 _).mono ?_; rintro e w2 ⟨rfl, hb2⟩)
    | (go_at_call 57; refine (lawneeds_7 _).mono ?_; rintro e w3 ⟨rfl, hb3⟩)
    | (go_at_call 58; refine (every_any _).mono ?_; rintro e w4 ⟨rfl, hb4⟩)
    | (go_at_call 59; refine (reads_no _ _ rfl rfl rfl rfl).mono ?_; rintro e w5 ⟨rfl, rfl⟩)
    | (go_at_call 60; refine (awake9_any _).mono ?_; rintro e w6 ⟨rfl, hb6⟩))
  go_ret
  exact ⟨by first | rfl | (simp; omega), below_step (below_step (below_step hb2 hb3) hb4) hb6⟩
set_option maxRecDepth 100000 in
theorem rn_8  (w : World)  : Calls Try.prog 10 #[.int .i64 8] w fun e w' => e = .returned (.bool true) ∧ Below w.heap.size w w' := by
  have hi : isS 8 = true := by decide
  have he := eql_lane
  go_enter Try.func10, Try.ntmps10
  go_wp2_with (first
    | (go_at_call 55; refine (is_any _ _).mono ?_; rintro e w1 ⟨rfl, rfl⟩)
    | (go_at_call 56; refine (needs_8 _).mono ?_; rintro e w2 ⟨rfl, hb2⟩)
    | (go_at_call 57; refine (lawneeds_8 _).mono ?_; rintro e w3 ⟨rfl, hb3⟩)
    | (go_at_call 58; refine (every_any _).mono ?_; rintro e w4 ⟨rfl, hb4⟩)
    | (go_at_call 59; refine (reads_no _ _ rfl rfl rfl rfl).mono ?_; rintro e w5 ⟨rfl, rfl⟩)
    | (go_at_call 60; refine (awake9_any _).mono ?_; rintro e w6 ⟨rfl, hb6⟩))
  go_ret
  exact ⟨by first | rfl | (simp; omega), below_step (below_step (below_step hb2 hb3) hb4) hb6⟩
set_option maxRecDepth 100000 in
theorem rn_9  (w : World)  : Calls Try.prog 10 #[.int .i64 9] w fun e w' => e = .returned (.bool true) ∧ Below w.heap.size w w' := by
  have hi : isS 9 = true := by decide
  have he := eql_lane
  go_enter Try.func10, Try.ntmps10
  go_wp2_with (first
    | (go_at_call 55; refine (is_any _ _).mono ?_; rintro e w1 ⟨rfl, rfl⟩)
    | (go_at_call 56; refine (needs_9 _).mono ?_; rintro e w2 ⟨rfl, hb2⟩)
    | (go_at_call 57; refine (lawneeds_9 _).mono ?_; rintro e w3 ⟨rfl, hb3⟩)
    | (go_at_call 58; refine (every_any _).mono ?_; rintro e w4 ⟨rfl, hb4⟩)
    | (go_at_call 59; refine (reads_no _ _ rfl rfl rfl rfl).mono ?_; rintro e w5 ⟨rfl, rfl⟩)
    | (go_at_call 60; refine (awake9_any _).mono ?_; rintro e w6 ⟨rfl, hb6⟩))
  go_ret
  exact ⟨by first | rfl | (simp; omega), below_step (below_step (below_step hb2 hb3) hb4) hb6⟩
set_option maxRecDepth 100000 in
theorem rn_10  (w : World)  : Calls Try.prog 10 #[.int .i64 10] w fun e w' => e = .returned (.bool true) ∧ Below w.heap.size w w' := by
  have hi : isS 10 = true := by decide
  have he := eql_lane
  go_enter Try.func10, Try.ntmps10
  go_wp2_with (first
    | (go_at_call 55; refine (is_any _ _).mono ?_; rintro e w1 ⟨rfl, rfl⟩)
    | (go_at_call 56; refine (needs_10 _).mono ?_; rintro e w2 ⟨rfl, hb2⟩)
    | (go_at_call 57; refine (lawneeds_10 _).mono ?_; rintro e w3 ⟨rfl, hb3⟩)
    | (go_at_call 58; refine (every_any _).mono ?_; rintro e w4 ⟨rfl, hb4⟩)
    | (go_at_call 59; refine (reads_yes _ _ (by omega)).mono ?_; rintro e w5 ⟨rfl, rfl⟩)
    | (go_at_call 60; refine (awake9_any _).mono ?_; rintro e w6 ⟨rfl, hb6⟩))
  go_ret
  exact ⟨by first | rfl | (simp; omega), below_step (below_step (below_step hb2 hb3) hb4) hb6⟩
set_option maxRecDepth 100000 in
theorem rn_11  (w : World)  : Calls Try.prog 10 #[.int .i64 11] w fun e w' => e = .returned (.bool true) ∧ Below w.heap.size w w' := by
  have hi : isS 11 = true := by decide
  have he := eql_lane
  go_enter Try.func10, Try.ntmps10
  go_wp2_with (first
    | (go_at_call 55; refine (is_any _ _).mono ?_; rintro e w1 ⟨rfl, rfl⟩)
    | (go_at_call 56; refine (needs_11 _).mono ?_; rintro e w2 ⟨rfl, hb2⟩)
    | (go_at_call 57; refine (lawneeds_11 _).mono ?_; rintro e w3 ⟨rfl, hb3⟩)
    | (go_at_call 58; refine (every_any _).mono ?_; rintro e w4 ⟨rfl, hb4⟩)
    | (go_at_call 59; refine (reads_yes _ _ (by omega)).mono ?_; rintro e w5 ⟨rfl, rfl⟩)
    | (go_at_call 60; refine (awake9_any _).mono ?_; rintro e w6 ⟨rfl, hb6⟩))
  go_ret
  exact ⟨by first | rfl | (simp; omega), below_step (below_step (below_step hb2 hb3) hb4) hb6⟩
set_option maxRecDepth 100000 in
theorem rn_12  (w : World)  : Calls Try.prog 10 #[.int .i64 12] w fun e w' => e = .returned (.bool true) ∧ Below w.heap.size w w' := by
  have hi : isS 12 = true := by decide
  have he := eql_lane
  go_enter Try.func10, Try.ntmps10
  go_wp2_with (first
    | (go_at_call 55; refine (is_any _ _).mono ?_; rintro e w1 ⟨rfl, rfl⟩)
    | (go_at_call 56; refine (needs_12 _).mono ?_; rintro e w2 ⟨rfl, hb2⟩)
    | (go_at_call 57; refine (lawneeds_12 _).mono ?_; rintro e w3 ⟨rfl, hb3⟩)
    | (go_at_call 58; refine (every_any _).mono ?_; rintro e w4 ⟨rfl, hb4⟩)
    | (go_at_call 59; refine (reads_yes _ _ (by omega)).mono ?_; rintro e w5 ⟨rfl, rfl⟩)
    | (go_at_call 60; refine (awake9_any _).mono ?_; rintro e w6 ⟨rfl, hb6⟩))
  go_ret
  exact ⟨by first | rfl | (simp; omega), below_step (below_step (below_step hb2 hb3) hb4) hb6⟩
set_option maxRecDepth 100000 in
theorem rn_13  (w : World)  : Calls Try.prog 10 #[.int .i64 13] w fun e w' => e = .returned (.bool true) ∧ Below w.heap.size w w' := by
  have hi : isS 13 = true := by decide
  have he := eql_lane
  go_enter Try.func10, Try.ntmps10
  go_wp2_with (first
    | (go_at_call 55; refine (is_any _ _).mono ?_; rintro e w1 ⟨rfl, rfl⟩)
    | (go_at_call 56; refine (needs_out _ _ (by omega)).mono ?_; rintro e w2 ⟨rfl, hb2⟩)
    | (go_at_call 57; refine (lawneeds_out _ _ (by omega)).mono ?_; rintro e w3 ⟨rfl, hb3⟩)
    | (go_at_call 58; refine (every_any _).mono ?_; rintro e w4 ⟨rfl, hb4⟩)
    | (go_at_call 59; refine (reads_no _ _ rfl rfl rfl rfl).mono ?_; rintro e w5 ⟨rfl, rfl⟩)
    | (go_at_call 60; refine (awake9_any _).mono ?_; rintro e w6 ⟨rfl, hb6⟩))
  go_ret
  exact ⟨by first | rfl | (simp; omega), below_step (below_step (below_step hb2 hb3) hb4) hb6⟩
set_option maxRecDepth 100000 in
theorem rn_lo (k : Int) (w : World) (h : k < 1) : Calls Try.prog 10 #[.int .i64 k] w fun e w' => e = .returned (.bool true) ∧ Below w.heap.size w w' := by
  have hi : isS k = false := by unfold isS; simp; omega
  have he := eql_lane
  go_enter Try.func10, Try.ntmps10
  go_wp2_with (first
    | (go_at_call 55; refine (is_any _ _).mono ?_; rintro e w1 ⟨rfl, rfl⟩)
    | (go_at_call 56; refine (needs_out _ _ (by omega)).mono ?_; rintro e w2 ⟨rfl, hb2⟩)
    | (go_at_call 57; refine (lawneeds_out _ _ (by omega)).mono ?_; rintro e w3 ⟨rfl, hb3⟩)
    | (go_at_call 58; refine (every_any _).mono ?_; rintro e w4 ⟨rfl, hb4⟩)
    | (go_at_call 59; refine (reads_no _ _ (by simp; omega) (by simp; omega) (by simp; omega) (by simp; omega)).mono ?_; rintro e w5 ⟨rfl, rfl⟩)
    | (go_at_call 60; refine (awake9_any _).mono ?_; rintro e w6 ⟨rfl, hb6⟩))
  go_ret
  exact ⟨by first | rfl | (simp; omega), below_step (below_step (below_step hb2 hb3) hb4) hb6⟩
set_option maxRecDepth 100000 in
theorem rn_hi (k : Int) (w : World) (h : 13 < k) : Calls Try.prog 10 #[.int .i64 k] w fun e w' => e = .returned (.bool true) ∧ Below w.heap.size w w' := by
  have hi : isS k = false := by unfold isS; simp; omega
  have he := eql_lane
  go_enter Try.func10, Try.ntmps10
  go_wp2_with (first
    | (go_at_call 55; refine (is_any _ _).mono ?_; rintro e w1 ⟨rfl, rfl⟩)
    | (go_at_call 56; refine (needs_out _ _ (by omega)).mono ?_; rintro e w2 ⟨rfl, hb2⟩)
    | (go_at_call 57; refine (lawneeds_out _ _ (by omega)).mono ?_; rintro e w3 ⟨rfl, hb3⟩)
    | (go_at_call 58; refine (every_any _).mono ?_; rintro e w4 ⟨rfl, hb4⟩)
    | (go_at_call 59; refine (reads_no _ _ (by simp; omega) (by simp; omega) (by simp; omega) (by simp; omega)).mono ?_; rintro e w5 ⟨rfl, rfl⟩)
    | (go_at_call 60; refine (awake9_any _).mono ?_; rintro e w6 ⟨rfl, hb6⟩))
  go_ret
  exact ⟨by first | rfl | (simp; omega), below_step (below_step (below_step hb2 hb3) hb4) hb6⟩
theorem RuleNeeds_any (k : Int) (w : World) : Calls Try.prog 10 #[.int .i64 k] w fun e w' => e = .returned (.bool true) ∧ Below w.heap.size w w' := by
  rcases (by omega : k < 1 ∨ 13 < k ∨ k = 1 ∨ k = 2 ∨ k = 3 ∨ k = 4 ∨ k = 5 ∨ k = 6 ∨ k = 7 ∨ k = 8 ∨ k = 9 ∨ k = 10 ∨ k = 11 ∨ k = 12 ∨ k = 13) with h | h | rfl | rfl | rfl | rfl | rfl | rfl | rfl | rfl | rfl | rfl | rfl | rfl | rfl
  · exact rn_lo k w h
  · exact rn_hi k w h
  · exact rn_1 w
  · exact rn_2 w
  · exact rn_3 w
  · exact rn_4 w
  · exact rn_5 w
  · exact rn_6 w
  · exact rn_7 w
  · exact rn_8 w
  · exact rn_9 w
  · exact rn_10 w
  · exact rn_11 w
  · exact rn_12 w
  · exact rn_13 w
end Go.Proofs.Ytplajmcjkddikaa.Rule
