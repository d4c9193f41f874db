/- SatParts: differences, products and quotients upwards, held at Forever, answer as the law's own reckoning; for every two int64. No condition. -/
import Derived.Test.YtplajmcjkddikaaSat
namespace Go.Proofs.Ytplajmcjkddikaa.Sat
open Go.RowKit Go.Proofs.YtplajmcjkddikaaW.PrintWords Go.Proofs.YtplajmcjkddikaaW.PrintLast Go.Proofs.YtplajmcjkddikaaW.PrintMore Go.Proofs.Ytplajmcjkddikaa.PSatSums
attribute [local go_sem] max2_int min2_int max_two min_two
set_option linter.unusedVariables false

theorem up_le (a b : Int) (ha : 0 < a) (hb : 0 < b) (hr : 0 < a % b) : a / b + 1 ≤ a := by
  have hd := Int.mul_ediv_add_emod a b
  have hq0 : 0 ≤ a / b := Int.ediv_nonneg (by omega) (by omega)
  have := Int.mul_le_mul_of_nonneg_right (show 1 ≤ b by omega) hq0
  omega

set_option maxHeartbeats 1000000 in
theorem SatParts_1 (a b : Int) (w : World) (wa0 : -9223372036854775808 ≤ a) (wa1 : a ≤ 9223372036854775807) (wb0 : -9223372036854775808 ≤ b) (wb1 : b ≤ 9223372036854775807) (ha : 0 < a) (hb : 0 < b) (hl : a ≤ 1152921504606846976 / b) :
    Calls Try.prog 4 #[.int .i64 a, .int .i64 b] w fun e w' => e = .returned (.bool true) ∧ Below w.heap.size w w' := by
  have h1 := holdS_bd a
  have h2 := holdS_bd b
  have hp : 0 < a * b := Int.mul_pos ha hb
  have hm : a * b ≤ 1152921504606846976 := (le_q a b hb).1 hl
  have hh : holdS (a * b) = a * b := by unfold holdS; rw [if_neg (by omega), if_neg (by omega)]
  have em : mulS a b = a * b := by unfold mulS; rw [if_pos ⟨ha, hb⟩, if_pos hm]
  have hq0 : 0 ≤ a / b := Int.ediv_nonneg (by omega) (by omega)
  have hq1 : a / b ≤ a := Int.ediv_le_self _ (by omega)
  have hq2 : (0 : Int) ≤ 1152921504606846976 / b := Int.ediv_nonneg (by omega) (by omega)
  have hq3 : (1152921504606846976 : Int) / b ≤ 1152921504606846976 := Int.ediv_le_self _ (by omega)
  have g1 : (b == 0) = false := by simp; omega
  by_cases hd : holdS a - holdS b < 0
  · have es : subS a b = 0 := by unfold subS; rw [if_pos hd]
    by_cases hr : 0 < a % b
    · have ec : ceilS a b = a / b + 1 := by unfold ceilS; rw [if_pos ⟨ha, hb⟩, if_pos hr]
      have hq4 : a / b + 1 ≤ a := up_le a b ha hb hr
      by_cases hi : a ≤ 1099511627776
      · have ei : isS a = true := by unfold isS; simp; omega
        go_enter Try.func4, Try.ntmps4
        go_wp2_with (first
          | (go_at_call 25; refine (hold_any _ _).mono ?_; rintro e w' ⟨rfl, rfl⟩)
          | (go_at_call 29; refine (sub_any _ _ _).mono ?_; rintro e w1 ⟨rfl, hb1⟩)
          | (go_at_call 30; refine (mul_any _ _ _ (by omega) (by omega)).mono ?_; rintro e w2 ⟨rfl, rfl⟩)
          | (go_at_call 31; refine (ceil_any _ _ _ (by omega)).mono ?_; rintro e w3 ⟨rfl, hb3⟩)
          | (go_at_call 32; refine (is_any _ _).mono ?_; rintro e w4 ⟨rfl, rfl⟩)
          | (go_at_call 28; refine (awake_any _).mono ?_; rintro e w5 ⟨rfl, hb5⟩))
        go_ret
        exact ⟨by first | rfl | (simp; omega), below_step (below_step hb1 hb3) hb5⟩
      · have ei : isS a = false := by unfold isS; simp; omega
        go_enter Try.func4, Try.ntmps4
        go_wp2_with (first
          | (go_at_call 25; refine (hold_any _ _).mono ?_; rintro e w' ⟨rfl, rfl⟩)
          | (go_at_call 29; refine (sub_any _ _ _).mono ?_; rintro e w1 ⟨rfl, hb1⟩)
          | (go_at_call 30; refine (mul_any _ _ _ (by omega) (by omega)).mono ?_; rintro e w2 ⟨rfl, rfl⟩)
          | (go_at_call 31; refine (ceil_any _ _ _ (by omega)).mono ?_; rintro e w3 ⟨rfl, hb3⟩)
          | (go_at_call 32; refine (is_any _ _).mono ?_; rintro e w4 ⟨rfl, rfl⟩)
          | (go_at_call 28; refine (awake_any _).mono ?_; rintro e w5 ⟨rfl, hb5⟩))
        go_ret
        exact ⟨by first | rfl | (simp; omega), below_step (below_step hb1 hb3) hb5⟩
    · have ec : ceilS a b = a / b := by unfold ceilS; rw [if_pos ⟨ha, hb⟩, if_neg hr]
      by_cases hi : a ≤ 1099511627776
      · have ei : isS a = true := by unfold isS; simp; omega
        go_enter Try.func4, Try.ntmps4
        go_wp2_with (first
          | (go_at_call 25; refine (hold_any _ _).mono ?_; rintro e w' ⟨rfl, rfl⟩)
          | (go_at_call 29; refine (sub_any _ _ _).mono ?_; rintro e w1 ⟨rfl, hb1⟩)
          | (go_at_call 30; refine (mul_any _ _ _ (by omega) (by omega)).mono ?_; rintro e w2 ⟨rfl, rfl⟩)
          | (go_at_call 31; refine (ceil_any _ _ _ (by omega)).mono ?_; rintro e w3 ⟨rfl, hb3⟩)
          | (go_at_call 32; refine (is_any _ _).mono ?_; rintro e w4 ⟨rfl, rfl⟩)
          | (go_at_call 28; refine (awake_any _).mono ?_; rintro e w5 ⟨rfl, hb5⟩))
        go_ret
        exact ⟨by first | rfl | (simp; omega), below_step (below_step hb1 hb3) hb5⟩
      · have ei : isS a = false := by unfold isS; simp; omega
        go_enter Try.func4, Try.ntmps4
        go_wp2_with (first
          | (go_at_call 25; refine (hold_any _ _).mono ?_; rintro e w' ⟨rfl, rfl⟩)
          | (go_at_call 29; refine (sub_any _ _ _).mono ?_; rintro e w1 ⟨rfl, hb1⟩)
          | (go_at_call 30; refine (mul_any _ _ _ (by omega) (by omega)).mono ?_; rintro e w2 ⟨rfl, rfl⟩)
          | (go_at_call 31; refine (ceil_any _ _ _ (by omega)).mono ?_; rintro e w3 ⟨rfl, hb3⟩)
          | (go_at_call 32; refine (is_any _ _).mono ?_; rintro e w4 ⟨rfl, rfl⟩)
          | (go_at_call 28; refine (awake_any _).mono ?_; rintro e w5 ⟨rfl, hb5⟩))
        go_ret
        exact ⟨by first | rfl | (simp; omega), below_step (below_step hb1 hb3) hb5⟩
  · have es : subS a b = holdS a - holdS b := by unfold subS; rw [if_neg hd]
    by_cases hr : 0 < a % b
    · have ec : ceilS a b = a / b + 1 := by unfold ceilS; rw [if_pos ⟨ha, hb⟩, if_pos hr]
      have hq4 : a / b + 1 ≤ a := up_le a b ha hb hr
      by_cases hi : a ≤ 1099511627776
      · have ei : isS a = true := by unfold isS; simp; omega
        go_enter Try.func4, Try.ntmps4
        go_wp2_with (first
          | (go_at_call 25; refine (hold_any _ _).mono ?_; rintro e w' ⟨rfl, rfl⟩)
          | (go_at_call 29; refine (sub_any _ _ _).mono ?_; rintro e w1 ⟨rfl, hb1⟩)
          | (go_at_call 30; refine (mul_any _ _ _ (by omega) (by omega)).mono ?_; rintro e w2 ⟨rfl, rfl⟩)
          | (go_at_call 31; refine (ceil_any _ _ _ (by omega)).mono ?_; rintro e w3 ⟨rfl, hb3⟩)
          | (go_at_call 32; refine (is_any _ _).mono ?_; rintro e w4 ⟨rfl, rfl⟩)
          | (go_at_call 28; refine (awake_any _).mono ?_; rintro e w5 ⟨rfl, hb5⟩))
        go_ret
        exact ⟨by first | rfl | (simp; omega), below_step (below_step hb1 hb3) hb5⟩
      · have ei : isS a = false := by unfold isS; simp; omega
        go_enter Try.func4, Try.ntmps4
        go_wp2_with (first
          | (go_at_call 25; refine (hold_any _ _).mono ?_; rintro e w' ⟨rfl, rfl⟩)
          | (go_at_call 29; refine (sub_any _ _ _).mono ?_; rintro e w1 ⟨rfl, hb1⟩)
          | (go_at_call 30; refine (mul_any _ _ _ (by omega) (by omega)).mono ?_; rintro e w2 ⟨rfl, rfl⟩)
          | (go_at_call 31; refine (ceil_any _ _ _ (by omega)).mono ?_; rintro e w3 ⟨rfl, hb3⟩)
          | (go_at_call 32; refine (is_any _ _).mono ?_; rintro e w4 ⟨rfl, rfl⟩)
          | (go_at_call 28; refine (awake_any _).mono ?_; rintro e w5 ⟨rfl, hb5⟩))
        go_ret
        exact ⟨by first | rfl | (simp; omega), below_step (below_step hb1 hb3) hb5⟩
    · have ec : ceilS a b = a / b := by unfold ceilS; rw [if_pos ⟨ha, hb⟩, if_neg hr]
      by_cases hi : a ≤ 1099511627776
      · have ei : isS a = true := by unfold isS; simp; omega
        go_enter Try.func4, Try.ntmps4
        go_wp2_with (first
          | (go_at_call 25; refine (hold_any _ _).mono ?_; rintro e w' ⟨rfl, rfl⟩)
          | (go_at_call 29; refine (sub_any _ _ _).mono ?_; rintro e w1 ⟨rfl, hb1⟩)
          | (go_at_call 30; refine (mul_any _ _ _ (by omega) (by omega)).mono ?_; rintro e w2 ⟨rfl, rfl⟩)
          | (go_at_call 31; refine (ceil_any _ _ _ (by omega)).mono ?_; rintro e w3 ⟨rfl, hb3⟩)
          | (go_at_call 32; refine (is_any _ _).mono ?_; rintro e w4 ⟨rfl, rfl⟩)
          | (go_at_call 28; refine (awake_any _).mono ?_; rintro e w5 ⟨rfl, hb5⟩))
        go_ret
        exact ⟨by first | rfl | (simp; omega), below_step (below_step hb1 hb3) hb5⟩
      · have ei : isS a = false := by unfold isS; simp; omega
        go_enter Try.func4, Try.ntmps4
        go_wp2_with (first
          | (go_at_call 25; refine (hold_any _ _).mono ?_; rintro e w' ⟨rfl, rfl⟩)
          | (go_at_call 29; refine (sub_any _ _ _).mono ?_; rintro e w1 ⟨rfl, hb1⟩)
          | (go_at_call 30; refine (mul_any _ _ _ (by omega) (by omega)).mono ?_; rintro e w2 ⟨rfl, rfl⟩)
          | (go_at_call 31; refine (ceil_any _ _ _ (by omega)).mono ?_; rintro e w3 ⟨rfl, hb3⟩)
          | (go_at_call 32; refine (is_any _ _).mono ?_; rintro e w4 ⟨rfl, rfl⟩)
          | (go_at_call 28; refine (awake_any _).mono ?_; rintro e w5 ⟨rfl, hb5⟩))
        go_ret
        exact ⟨by first | rfl | (simp; omega), below_step (below_step hb1 hb3) hb5⟩

set_option maxHeartbeats 1000000 in
theorem SatParts_2 (a b : Int) (w : World) (wa0 : -9223372036854775808 ≤ a) (wa1 : a ≤ 9223372036854775807) (wb0 : -9223372036854775808 ≤ b) (wb1 : b ≤ 9223372036854775807) (ha : 0 < a) (hb : 0 < b) (hl : 1152921504606846976 / b < a) :
    Calls Try.prog 4 #[.int .i64 a, .int .i64 b] w fun e w' => e = .returned (.bool true) ∧ Below w.heap.size w w' := by
  have h1 := holdS_bd a
  have h2 := holdS_bd b
  have em : mulS a b = 1152921504606846976 := by
    unfold mulS; rw [if_pos ⟨ha, hb⟩, if_neg (fun hc => by have := (le_q a b hb).2 hc; omega)]
  have hq0 : 0 ≤ a / b := Int.ediv_nonneg (by omega) (by omega)
  have hq1 : a / b ≤ a := Int.ediv_le_self _ (by omega)
  have hq2 : (0 : Int) ≤ 1152921504606846976 / b := Int.ediv_nonneg (by omega) (by omega)
  have hq3 : (1152921504606846976 : Int) / b ≤ 1152921504606846976 := Int.ediv_le_self _ (by omega)
  have g1 : (b == 0) = false := by simp; omega
  by_cases hd : holdS a - holdS b < 0
  · have es : subS a b = 0 := by unfold subS; rw [if_pos hd]
    by_cases hr : 0 < a % b
    · have ec : ceilS a b = a / b + 1 := by unfold ceilS; rw [if_pos ⟨ha, hb⟩, if_pos hr]
      have hq4 : a / b + 1 ≤ a := up_le a b ha hb hr
      by_cases hi : a ≤ 1099511627776
      · have ei : isS a = true := by unfold isS; simp; omega
        go_enter Try.func4, Try.ntmps4
        go_wp2_with (first
          | (go_at_call 25; refine (hold_any _ _).mono ?_; rintro e w' ⟨rfl, rfl⟩)
          | (go_at_call 29; refine (sub_any _ _ _).mono ?_; rintro e w1 ⟨rfl, hb1⟩)
          | (go_at_call 30; refine (mul_any _ _ _ (by omega) (by omega)).mono ?_; rintro e w2 ⟨rfl, rfl⟩)
          | (go_at_call 31; refine (ceil_any _ _ _ (by omega)).mono ?_; rintro e w3 ⟨rfl, hb3⟩)
          | (go_at_call 32; refine (is_any _ _).mono ?_; rintro e w4 ⟨rfl, rfl⟩)
          | (go_at_call 28; refine (awake_any _).mono ?_; rintro e w5 ⟨rfl, hb5⟩))
        go_ret
        exact ⟨by first | rfl | (simp; omega), below_step (below_step hb1 hb3) hb5⟩
      · have ei : isS a = false := by unfold isS; simp; omega
        go_enter Try.func4, Try.ntmps4
        go_wp2_with (first
          | (go_at_call 25; refine (hold_any _ _).mono ?_; rintro e w' ⟨rfl, rfl⟩)
          | (go_at_call 29; refine (sub_any _ _ _).mono ?_; rintro e w1 ⟨rfl, hb1⟩)
          | (go_at_call 30; refine (mul_any _ _ _ (by omega) (by omega)).mono ?_; rintro e w2 ⟨rfl, rfl⟩)
          | (go_at_call 31; refine (ceil_any _ _ _ (by omega)).mono ?_; rintro e w3 ⟨rfl, hb3⟩)
          | (go_at_call 32; refine (is_any _ _).mono ?_; rintro e w4 ⟨rfl, rfl⟩)
          | (go_at_call 28; refine (awake_any _).mono ?_; rintro e w5 ⟨rfl, hb5⟩))
        go_ret
        exact ⟨by first | rfl | (simp; omega), below_step (below_step hb1 hb3) hb5⟩
    · have ec : ceilS a b = a / b := by unfold ceilS; rw [if_pos ⟨ha, hb⟩, if_neg hr]
      by_cases hi : a ≤ 1099511627776
      · have ei : isS a = true := by unfold isS; simp; omega
        go_enter Try.func4, Try.ntmps4
        go_wp2_with (first
          | (go_at_call 25; refine (hold_any _ _).mono ?_; rintro e w' ⟨rfl, rfl⟩)
          | (go_at_call 29; refine (sub_any _ _ _).mono ?_; rintro e w1 ⟨rfl, hb1⟩)
          | (go_at_call 30; refine (mul_any _ _ _ (by omega) (by omega)).mono ?_; rintro e w2 ⟨rfl, rfl⟩)
          | (go_at_call 31; refine (ceil_any _ _ _ (by omega)).mono ?_; rintro e w3 ⟨rfl, hb3⟩)
          | (go_at_call 32; refine (is_any _ _).mono ?_; rintro e w4 ⟨rfl, rfl⟩)
          | (go_at_call 28; refine (awake_any _).mono ?_; rintro e w5 ⟨rfl, hb5⟩))
        go_ret
        exact ⟨by first | rfl | (simp; omega), below_step (below_step hb1 hb3) hb5⟩
      · have ei : isS a = false := by unfold isS; simp; omega
        go_enter Try.func4, Try.ntmps4
        go_wp2_with (first
          | (go_at_call 25; refine (hold_any _ _).mono ?_; rintro e w' ⟨rfl, rfl⟩)
          | (go_at_call 29; refine (sub_any _ _ _).mono ?_; rintro e w1 ⟨rfl, hb1⟩)
          | (go_at_call 30; refine (mul_any _ _ _ (by omega) (by omega)).mono ?_; rintro e w2 ⟨rfl, rfl⟩)
          | (go_at_call 31; refine (ceil_any _ _ _ (by omega)).mono ?_; rintro e w3 ⟨rfl, hb3⟩)
          | (go_at_call 32; refine (is_any _ _).mono ?_; rintro e w4 ⟨rfl, rfl⟩)
          | (go_at_call 28; refine (awake_any _).mono ?_; rintro e w5 ⟨rfl, hb5⟩))
        go_ret
        exact ⟨by first | rfl | (simp; omega), below_step (below_step hb1 hb3) hb5⟩
  · have es : subS a b = holdS a - holdS b := by unfold subS; rw [if_neg hd]
    by_cases hr : 0 < a % b
    · have ec : ceilS a b = a / b + 1 := by unfold ceilS; rw [if_pos ⟨ha, hb⟩, if_pos hr]
      have hq4 : a / b + 1 ≤ a := up_le a b ha hb hr
      by_cases hi : a ≤ 1099511627776
      · have ei : isS a = true := by unfold isS; simp; omega
        go_enter Try.func4, Try.ntmps4
        go_wp2_with (first
          | (go_at_call 25; refine (hold_any _ _).mono ?_; rintro e w' ⟨rfl, rfl⟩)
          | (go_at_call 29; refine (sub_any _ _ _).mono ?_; rintro e w1 ⟨rfl, hb1⟩)
          | (go_at_call 30; refine (mul_any _ _ _ (by omega) (by omega)).mono ?_; rintro e w2 ⟨rfl, rfl⟩)
          | (go_at_call 31; refine (ceil_any _ _ _ (by omega)).mono ?_; rintro e w3 ⟨rfl, hb3⟩)
          | (go_at_call 32; refine (is_any _ _).mono ?_; rintro e w4 ⟨rfl, rfl⟩)
          | (go_at_call 28; refine (awake_any _).mono ?_; rintro e w5 ⟨rfl, hb5⟩))
        go_ret
        exact ⟨by first | rfl | (simp; omega), below_step (below_step hb1 hb3) hb5⟩
      · have ei : isS a = false := by unfold isS; simp; omega
        go_enter Try.func4, Try.ntmps4
        go_wp2_with (first
          | (go_at_call 25; refine (hold_any _ _).mono ?_; rintro e w' ⟨rfl, rfl⟩)
          | (go_at_call 29; refine (sub_any _ _ _).mono ?_; rintro e w1 ⟨rfl, hb1⟩)
          | (go_at_call 30; refine (mul_any _ _ _ (by omega) (by omega)).mono ?_; rintro e w2 ⟨rfl, rfl⟩)
          | (go_at_call 31; refine (ceil_any _ _ _ (by omega)).mono ?_; rintro e w3 ⟨rfl, hb3⟩)
          | (go_at_call 32; refine (is_any _ _).mono ?_; rintro e w4 ⟨rfl, rfl⟩)
          | (go_at_call 28; refine (awake_any _).mono ?_; rintro e w5 ⟨rfl, hb5⟩))
        go_ret
        exact ⟨by first | rfl | (simp; omega), below_step (below_step hb1 hb3) hb5⟩
    · have ec : ceilS a b = a / b := by unfold ceilS; rw [if_pos ⟨ha, hb⟩, if_neg hr]
      by_cases hi : a ≤ 1099511627776
      · have ei : isS a = true := by unfold isS; simp; omega
        go_enter Try.func4, Try.ntmps4
        go_wp2_with (first
          | (go_at_call 25; refine (hold_any _ _).mono ?_; rintro e w' ⟨rfl, rfl⟩)
          | (go_at_call 29; refine (sub_any _ _ _).mono ?_; rintro e w1 ⟨rfl, hb1⟩)
          | (go_at_call 30; refine (mul_any _ _ _ (by omega) (by omega)).mono ?_; rintro e w2 ⟨rfl, rfl⟩)
          | (go_at_call 31; refine (ceil_any _ _ _ (by omega)).mono ?_; rintro e w3 ⟨rfl, hb3⟩)
          | (go_at_call 32; refine (is_any _ _).mono ?_; rintro e w4 ⟨rfl, rfl⟩)
          | (go_at_call 28; refine (awake_any _).mono ?_; rintro e w5 ⟨rfl, hb5⟩))
        go_ret
        exact ⟨by first | rfl | (simp; omega), below_step (below_step hb1 hb3) hb5⟩
      · have ei : isS a = false := by unfold isS; simp; omega
        go_enter Try.func4, Try.ntmps4
        go_wp2_with (first
          | (go_at_call 25; refine (hold_any _ _).mono ?_; rintro e w' ⟨rfl, rfl⟩)
          | (go_at_call 29; refine (sub_any _ _ _).mono ?_; rintro e w1 ⟨rfl, hb1⟩)
          | (go_at_call 30; refine (mul_any _ _ _ (by omega) (by omega)).mono ?_; rintro e w2 ⟨rfl, rfl⟩)
          | (go_at_call 31; refine (ceil_any _ _ _ (by omega)).mono ?_; rintro e w3 ⟨rfl, hb3⟩)
          | (go_at_call 32; refine (is_any _ _).mono ?_; rintro e w4 ⟨rfl, rfl⟩)
          | (go_at_call 28; refine (awake_any _).mono ?_; rintro e w5 ⟨rfl, hb5⟩))
        go_ret
        exact ⟨by first | rfl | (simp; omega), below_step (below_step hb1 hb3) hb5⟩

set_option maxHeartbeats 1000000 in
theorem SatParts_3 (a b : Int) (w : World) (wa0 : -9223372036854775808 ≤ a) (wa1 : a ≤ 9223372036854775807) (wb0 : -9223372036854775808 ≤ b) (wb1 : b ≤ 9223372036854775807) (ha : 0 < a) (hb : b ≤ 0) :
    Calls Try.prog 4 #[.int .i64 a, .int .i64 b] w fun e w' => e = .returned (.bool true) ∧ Below w.heap.size w w' := by
  have h1 := holdS_bd a
  have h2 := holdS_bd b
  have em : mulS a b = 0 := by unfold mulS; rw [if_neg (by omega)]
  have ec : ceilS a b = 0 := by unfold ceilS; rw [if_neg (by omega)]
  by_cases hd : holdS a - holdS b < 0
  · have es : subS a b = 0 := by unfold subS; rw [if_pos hd]
    by_cases hi : a ≤ 1099511627776
    · have ei : isS a = true := by unfold isS; simp; omega
      go_enter Try.func4, Try.ntmps4
      go_wp2_with (first
        | (go_at_call 25; refine (hold_any _ _).mono ?_; rintro e w' ⟨rfl, rfl⟩)
        | (go_at_call 29; refine (sub_any _ _ _).mono ?_; rintro e w1 ⟨rfl, hb1⟩)
        | (go_at_call 30; refine (mul_any _ _ _ (by omega) (by omega)).mono ?_; rintro e w2 ⟨rfl, rfl⟩)
        | (go_at_call 31; refine (ceil_any _ _ _ (by omega)).mono ?_; rintro e w3 ⟨rfl, hb3⟩)
        | (go_at_call 32; refine (is_any _ _).mono ?_; rintro e w4 ⟨rfl, rfl⟩)
        | (go_at_call 28; refine (awake_any _).mono ?_; rintro e w5 ⟨rfl, hb5⟩))
      go_ret
      exact ⟨by first | rfl | (simp; omega), below_step (below_step hb1 hb3) hb5⟩
    · have ei : isS a = false := by unfold isS; simp; omega
      go_enter Try.func4, Try.ntmps4
      go_wp2_with (first
        | (go_at_call 25; refine (hold_any _ _).mono ?_; rintro e w' ⟨rfl, rfl⟩)
        | (go_at_call 29; refine (sub_any _ _ _).mono ?_; rintro e w1 ⟨rfl, hb1⟩)
        | (go_at_call 30; refine (mul_any _ _ _ (by omega) (by omega)).mono ?_; rintro e w2 ⟨rfl, rfl⟩)
        | (go_at_call 31; refine (ceil_any _ _ _ (by omega)).mono ?_; rintro e w3 ⟨rfl, hb3⟩)
        | (go_at_call 32; refine (is_any _ _).mono ?_; rintro e w4 ⟨rfl, rfl⟩)
        | (go_at_call 28; refine (awake_any _).mono ?_; rintro e w5 ⟨rfl, hb5⟩))
      go_ret
      exact ⟨by first | rfl | (simp; omega), below_step (below_step hb1 hb3) hb5⟩
  · have es : subS a b = holdS a - holdS b := by unfold subS; rw [if_neg hd]
    by_cases hi : a ≤ 1099511627776
    · have ei : isS a = true := by unfold isS; simp; omega
      go_enter Try.func4, Try.ntmps4
      go_wp2_with (first
        | (go_at_call 25; refine (hold_any _ _).mono ?_; rintro e w' ⟨rfl, rfl⟩)
        | (go_at_call 29; refine (sub_any _ _ _).mono ?_; rintro e w1 ⟨rfl, hb1⟩)
        | (go_at_call 30; refine (mul_any _ _ _ (by omega) (by omega)).mono ?_; rintro e w2 ⟨rfl, rfl⟩)
        | (go_at_call 31; refine (ceil_any _ _ _ (by omega)).mono ?_; rintro e w3 ⟨rfl, hb3⟩)
        | (go_at_call 32; refine (is_any _ _).mono ?_; rintro e w4 ⟨rfl, rfl⟩)
        | (go_at_call 28; refine (awake_any _).mono ?_; rintro e w5 ⟨rfl, hb5⟩))
      go_ret
      exact ⟨by first | rfl | (simp; omega), below_step (below_step hb1 hb3) hb5⟩
    · have ei : isS a = false := by unfold isS; simp; omega
      go_enter Try.func4, Try.ntmps4
      go_wp2_with (first
        | (go_at_call 25; refine (hold_any _ _).mono ?_; rintro e w' ⟨rfl, rfl⟩)
        | (go_at_call 29; refine (sub_any _ _ _).mono ?_; rintro e w1 ⟨rfl, hb1⟩)
        | (go_at_call 30; refine (mul_any _ _ _ (by omega) (by omega)).mono ?_; rintro e w2 ⟨rfl, rfl⟩)
        | (go_at_call 31; refine (ceil_any _ _ _ (by omega)).mono ?_; rintro e w3 ⟨rfl, hb3⟩)
        | (go_at_call 32; refine (is_any _ _).mono ?_; rintro e w4 ⟨rfl, rfl⟩)
        | (go_at_call 28; refine (awake_any _).mono ?_; rintro e w5 ⟨rfl, hb5⟩))
      go_ret
      exact ⟨by first | rfl | (simp; omega), below_step (below_step hb1 hb3) hb5⟩

set_option maxHeartbeats 1000000 in
theorem SatParts_4 (a b : Int) (w : World) (wa0 : -9223372036854775808 ≤ a) (wa1 : a ≤ 9223372036854775807) (wb0 : -9223372036854775808 ≤ b) (wb1 : b ≤ 9223372036854775807) (ha : a < 0) :
    Calls Try.prog 4 #[.int .i64 a, .int .i64 b] w fun e w' => e = .returned (.bool true) ∧ Below w.heap.size w w' := by
  have h1 := holdS_bd a
  have h2 := holdS_bd b
  have em : mulS a b = 0 := by unfold mulS; rw [if_neg (by omega)]
  have ec : ceilS a b = 0 := by unfold ceilS; rw [if_neg (by omega)]
  have ei : isS a = false := by unfold isS; simp; omega
  by_cases hd : holdS a - holdS b < 0
  · have es : subS a b = 0 := by unfold subS; rw [if_pos hd]
    go_enter Try.func4, Try.ntmps4
    go_wp2_with (first
      | (go_at_call 25; refine (hold_any _ _).mono ?_; rintro e w' ⟨rfl, rfl⟩)
      | (go_at_call 29; refine (sub_any _ _ _).mono ?_; rintro e w1 ⟨rfl, hb1⟩)
      | (go_at_call 30; refine (mul_any _ _ _ (by omega) (by omega)).mono ?_; rintro e w2 ⟨rfl, rfl⟩)
      | (go_at_call 31; refine (ceil_any _ _ _ (by omega)).mono ?_; rintro e w3 ⟨rfl, hb3⟩)
      | (go_at_call 32; refine (is_any _ _).mono ?_; rintro e w4 ⟨rfl, rfl⟩)
      | (go_at_call 28; refine (awake_any _).mono ?_; rintro e w5 ⟨rfl, hb5⟩))
    go_ret
    exact ⟨by first | rfl | (simp; omega), below_step (below_step hb1 hb3) hb5⟩
  · have es : subS a b = holdS a - holdS b := by unfold subS; rw [if_neg hd]
    go_enter Try.func4, Try.ntmps4
    go_wp2_with (first
      | (go_at_call 25; refine (hold_any _ _).mono ?_; rintro e w' ⟨rfl, rfl⟩)
      | (go_at_call 29; refine (sub_any _ _ _).mono ?_; rintro e w1 ⟨rfl, hb1⟩)
      | (go_at_call 30; refine (mul_any _ _ _ (by omega) (by omega)).mono ?_; rintro e w2 ⟨rfl, rfl⟩)
      | (go_at_call 31; refine (ceil_any _ _ _ (by omega)).mono ?_; rintro e w3 ⟨rfl, hb3⟩)
      | (go_at_call 32; refine (is_any _ _).mono ?_; rintro e w4 ⟨rfl, rfl⟩)
      | (go_at_call 28; refine (awake_any _).mono ?_; rintro e w5 ⟨rfl, hb5⟩))
    go_ret
    exact ⟨by first | rfl | (simp; omega), below_step (below_step hb1 hb3) hb5⟩

set_option maxHeartbeats 1000000 in
theorem SatParts_5 (a b : Int) (w : World) (wa0 : -9223372036854775808 ≤ a) (wa1 : a ≤ 9223372036854775807) (wb0 : -9223372036854775808 ≤ b) (wb1 : b ≤ 9223372036854775807) (ha : a = 0) :
    Calls Try.prog 4 #[.int .i64 a, .int .i64 b] w fun e w' => e = .returned (.bool true) ∧ Below w.heap.size w w' := by
  subst ha
  have h1 := holdS_bd 0
  have h2 := holdS_bd b
  have em : mulS 0 b = 0 := by unfold mulS; rw [if_neg (by omega)]
  have ec : ceilS 0 b = 0 := by unfold ceilS; rw [if_neg (by omega)]
  have ei : isS 0 = true := by rfl
  by_cases hd : holdS 0 - holdS b < 0
  · have es : subS 0 b = 0 := by unfold subS; rw [if_pos hd]
    go_enter Try.func4, Try.ntmps4
    go_wp2_with (first
      | (go_at_call 25; refine (hold_any _ _).mono ?_; rintro e w' ⟨rfl, rfl⟩)
      | (go_at_call 29; refine (sub_any _ _ _).mono ?_; rintro e w1 ⟨rfl, hb1⟩)
      | (go_at_call 30; refine (mul_any _ _ _ (by omega) (by omega)).mono ?_; rintro e w2 ⟨rfl, rfl⟩)
      | (go_at_call 31; refine (ceil_any _ _ _ (by omega)).mono ?_; rintro e w3 ⟨rfl, hb3⟩)
      | (go_at_call 32; refine (is_any _ _).mono ?_; rintro e w4 ⟨rfl, rfl⟩)
      | (go_at_call 28; refine (awake_any _).mono ?_; rintro e w5 ⟨rfl, hb5⟩))
    go_ret
    exact ⟨by first | rfl | (simp; omega), below_step (below_step hb1 hb3) hb5⟩
  · have es : subS 0 b = holdS 0 - holdS b := by unfold subS; rw [if_neg hd]
    go_enter Try.func4, Try.ntmps4
    go_wp2_with (first
      | (go_at_call 25; refine (hold_any _ _).mono ?_; rintro e w' ⟨rfl, rfl⟩)
      | (go_at_call 29; refine (sub_any _ _ _).mono ?_; rintro e w1 ⟨rfl, hb1⟩)
      | (go_at_call 30; refine (mul_any _ _ _ (by omega) (by omega)).mono ?_; rintro e w2 ⟨rfl, rfl⟩)
      | (go_at_call 31; refine (ceil_any _ _ _ (by omega)).mono ?_; rintro e w3 ⟨rfl, hb3⟩)
      | (go_at_call 32; refine (is_any _ _).mono ?_; rintro e w4 ⟨rfl, rfl⟩)
      | (go_at_call 28; refine (awake_any _).mono ?_; rintro e w5 ⟨rfl, hb5⟩))
    go_ret
    exact ⟨by first | rfl | (simp; omega), below_step (below_step hb1 hb3) hb5⟩

theorem SatParts_any (a b : Int) (w : World) (wa0 : -9223372036854775808 ≤ a) (wa1 : a ≤ 9223372036854775807) (wb0 : -9223372036854775808 ≤ b) (wb1 : b ≤ 9223372036854775807) :
    Calls Try.prog 4 #[.int .i64 a, .int .i64 b] w fun e w' => e = .returned (.bool true) ∧ Below w.heap.size w w' := by
  rcases (by omega : 0 < a ∨ a < 0 ∨ a = 0) with ha | ha | ha
  · by_cases hb : 0 < b
    · by_cases hl : a ≤ 1152921504606846976 / b
      · exact SatParts_1 a b w wa0 wa1 wb0 wb1 ha hb hl
      · exact SatParts_2 a b w wa0 wa1 wb0 wb1 ha hb (by omega)
    · exact SatParts_3 a b w wa0 wa1 wb0 wb1 ha (by omega)
  · exact SatParts_4 a b w wa0 wa1 wb0 wb1 ha
  · exact SatParts_5 a b w wa0 wa1 wb0 wb1 ha

theorem SatParts_wf (a b : Int) (w : World) (wa : (Lit.int .i64 a).wf = true) (wb : (Lit.int .i64 b).wf = true) :
    Calls Try.prog 4 #[.int .i64 a, .int .i64 b] w fun e w' => e = .returned (.bool true) ∧ Below w.heap.size w w' :=
  SatParts_any a b w (bounds_i64 wa).1 (bounds_i64 wa).2 (bounds_i64 wb).1 (bounds_i64 wb).2
end Go.Proofs.Ytplajmcjkddikaa.Sat
