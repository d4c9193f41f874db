/- The functions of package sat and of its statements, by hand walks: what each returns. No condition but that numbers are int64. -/
import Derived.Test.YtplajmcjkddikaaPSatSumsx1
import Derived.Outline
import Derived.IntWalk
import Derived.Handy
namespace Go.Proofs.Ytplajmcjkddikaa.Sat
open Go.RowKit Go.Proofs.YtplajmcjkddikaaW.PrintWords Go.Proofs.YtplajmcjkddikaaW.PrintLast Go.Proofs.YtplajmcjkddikaaW.PrintMore Go.Proofs.Ytplajmcjkddikaa.PSatSums
attribute [local go_sem] max2_int min2_int max_two min_two

theorem w64 {x : Int} (h : -9223372036854775808 ≤ x ∧ x ≤ 9223372036854775807) : wrap64 x = x := by unfold wrap64; omega
theorem le_q (a b : Int) (hb : b > 0) : a ≤ 1152921504606846976 / b ↔ a * b ≤ 1152921504606846976 := Int.le_ediv_iff_mul_le hb
theorem ret_i {k : IntKind} {a b : Int} (h : a = b) : Ending.returned (.int k a) = .returned (.int k b) := by rw [h]
theorem ret_b {a b : Bool} (h : a = b) : Ending.returned (.bool a) = .returned (.bool b) := by rw [h]

/-- a product, held -/
def mulS (a b : Int) : Int := if a > 0 ∧ b > 0 then (if a * b ≤ 1152921504606846976 then a * b else 1152921504606846976) else 0

theorem mul_any (a b : Int) (w : World) (wa : a ≤ 9223372036854775807) (wb : b ≤ 9223372036854775807) :
    Calls Try.prog 30 #[.int .i64 a, .int .i64 b] w fun e w' => e = .returned (.int .i64 (mulS a b)) ∧ w = w' := by
  by_cases ha : a > 0
  · have f0 : (a == 0) = false := by simp; omega
    have f1 : (a != 0) = true := by simp; omega
    have hq1 : (0 : Int) ≤ 1152921504606846976 / a := Int.ediv_nonneg (by omega) (by omega)
    have hq2 : (1152921504606846976 : Int) / a ≤ 1152921504606846976 := Int.ediv_le_self _ (by omega)
    have h := le_q b a ha
    by_cases hb : b > 0
    · have hp : 0 < a * b := Int.mul_pos ha hb
      by_cases hl : b ≤ 1152921504606846976 / a
      · have hm : a * b ≤ 1152921504606846976 := by rw [Int.mul_comm]; exact h.1 hl
        clear h
        go_enter Try.func30, Try.ntmps30
        go_wp2
        go_ret
        exact ⟨ret_i (by unfold mulS; rw [if_pos ⟨ha, hb⟩, if_pos hm]), rfl⟩
      · have hm : ¬ a * b ≤ 1152921504606846976 := by rw [Int.mul_comm]; exact fun hc => hl (h.2 hc)
        clear h hp
        go_enter Try.func30, Try.ntmps30
        go_wp2
        go_ret
        exact ⟨ret_i (by unfold mulS; rw [if_pos ⟨ha, hb⟩, if_neg (by omega)]), rfl⟩
    · clear h
      have hm : mulS a b = 0 := by unfold mulS; rw [if_neg (by omega)]
      rw [hm]; clear hm
      rcases Int.lt_or_eq_of_le (show b ≤ 0 by omega) with hb0 | rfl <;>
      · go_enter Try.func30, Try.ntmps30
        go_wp2
        go_ret
        exact ⟨rfl, rfl⟩
  · have hm : mulS a b = 0 := by unfold mulS; rw [if_neg (by omega)]
    rw [hm]; clear hm
    rcases Int.lt_or_eq_of_le (show a ≤ 0 by omega) with ha0 | rfl <;> by_cases hb : b < 0 <;>
    · go_enter Try.func30, Try.ntmps30
      go_wp2
      go_ret
      exact ⟨rfl, rfl⟩

/-- held -/
def holdS (v : Int) : Int := if v < 0 then 0 else if v > 1152921504606846976 then 1152921504606846976 else v
theorem holdS_bd (v : Int) : 0 ≤ holdS v ∧ holdS v ≤ 1152921504606846976 := by unfold holdS; split <;> (try split) <;> omega
theorem hold_any (v : Int) (w : World) :
    Calls Try.prog 25 #[.int .i64 v] w fun e w' => e = .returned (.int .i64 (holdS v)) ∧ w = w' := by
  by_cases h0 : v < 0
  · have e : holdS v = 0 := by unfold holdS; rw [if_pos h0]
    rw [e]; clear e
    go_enter Try.func25, Try.ntmps25
    go_wp2; go_ret; exact ⟨rfl, rfl⟩
  · by_cases h1 : v > 1152921504606846976
    · have e : holdS v = 1152921504606846976 := by unfold holdS; rw [if_neg h0, if_pos h1]
      rw [e]; clear e
      go_enter Try.func25, Try.ntmps25
      go_wp2; go_ret; exact ⟨rfl, rfl⟩
    · have e : holdS v = v := by unfold holdS; rw [if_neg h0, if_neg h1]
      rw [e]; clear e
      go_enter Try.func25, Try.ntmps25
      go_wp2; go_ret; exact ⟨rfl, rfl⟩

/-- how far one lies above another -/
def subS (a b : Int) : Int := if holdS a - holdS b < 0 then 0 else holdS a - holdS b
theorem sub_any (a b : Int) (w : World) :
    Calls Try.prog 29 #[.int .i64 a, .int .i64 b] w fun e w' => e = .returned (.int .i64 (subS a b)) ∧ Below w.heap.size w w' := by
  refine sat_Sub.calls a b _ w ?_
  unfold sat_Sub.f subS
  have e : ∀ v, mn (mx v 0) 1152921504606846976 = holdS v := by
    intro v; unfold mn mx holdS; split <;> split <;> (try split) <;> omega
  rw [e, e]; unfold mx; rfl

/-- a quotient, upwards -/
def ceilS (a b : Int) : Int := if a > 0 ∧ b > 0 then (if a % b > 0 then a / b + 1 else a / b) else 0
theorem ceil_any (a b : Int) (w : World) (ha : a ≤ 9223372036854775807) :
    Calls Try.prog 31 #[.int .i64 a, .int .i64 b] w fun e w' => e = .returned (.int .i64 (ceilS a b)) ∧ Below w.heap.size w w' := by
  refine (sat_Ceil.calls a b _ w ?_).mono fun e w' ⟨he, hd⟩ => ⟨he, by obtain ⟨n, rfl⟩ := hd.out; exact pw_below_drewN (Below.refl _ _) n⟩
  unfold sat_Ceil.f ceilS
  by_cases hb : b > 0
  · rw [if_neg (by omega)]
    by_cases ha0 : a > 0
    · rw [if_neg (by omega), if_neg (by omega), if_pos ⟨ha0, hb⟩, w64 (x := a - 1) ⟨by omega, by omega⟩, Int.tdiv_eq_ediv_of_nonneg (by omega)]
      have hq0 : 0 ≤ (a - 1) / b := Int.ediv_nonneg (by omega) (by omega)
      have hq1 : (a - 1) / b ≤ a - 1 := Int.ediv_le_self _ (by omega)
      rw [w64 (x := (a - 1) / b) ⟨by omega, by omega⟩, w64 ⟨by omega, by omega⟩]
      have hd := Int.mul_ediv_add_emod a b
      have hr0 := Int.emod_nonneg a (show b ≠ 0 by omega)
      have hr1 := Int.emod_lt_of_pos a hb
      by_cases hr : a % b > 0
      · rw [if_pos hr]
        have : (a - 1) / b = a / b := by
          rw [Int.ediv_eq_iff_of_pos hb]
          have e : b * (a / b) = a / b * b := Int.mul_comm _ _
          constructor <;> omega
        rw [this]
      · rw [if_neg hr]
        have : (a - 1) / b = a / b - 1 := by
          rw [Int.ediv_eq_iff_of_pos hb]
          have e : b * (a / b) = a / b * b := Int.mul_comm _ _
          have e' : (a / b - 1) * b = a / b * b - b := by rw [Int.sub_mul, Int.one_mul]
          constructor <;> omega
        rw [this]; congr 1; omega
    · rw [if_pos (by omega), if_neg (by omega)]
  · rw [if_pos (by omega), if_neg (by omega)]

/-- a time? -/
def isS (a : Int) : Bool := decide (0 ≤ a ∧ a ≤ 1099511627776)
theorem is_any (a : Int) (w : World) :
    Calls Try.prog 32 #[.int .i64 a] w fun e w' => e = .returned (.bool (isS a)) ∧ w = w' := by
  by_cases h0 : 0 ≤ a
  · by_cases h1 : a ≤ 1099511627776
    · have e : isS a = true := by unfold isS; simp; omega
      rw [e]; clear e
      go_enter Try.func32, Try.ntmps32
      go_wp2; go_ret; exact ⟨rfl, rfl⟩
    · have e : isS a = false := by unfold isS; simp; omega
      rw [e]; clear e
      go_enter Try.func32, Try.ntmps32
      go_wp2; go_ret; exact ⟨rfl, rfl⟩
  · have e : isS a = false := by unfold isS; simp; omega
    rw [e]; clear e
    go_enter Try.func32, Try.ntmps32
    go_wp2; go_ret; exact ⟨rfl, rfl⟩

theorem awake_any (w : World) : Calls Try.prog 28 #[] w fun e w' => e = .returned (.bool true) ∧ Below w.heap.size w w' :=
  berthagelaw02_awake.calls 5 true w (by decide +kernel)
end Go.Proofs.Ytplajmcjkddikaa.Sat
