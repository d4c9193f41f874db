/- The request's sums are alike; what the law's right computes. -/
import Derived.Test.YtplajmcjkddikaaReq
import Derived.Test.YtplajmcjkddikaaRight10
namespace Go.Proofs.Ytplajmcjkddikaa.ReqLaw
open Go.RowKit Go.Proofs.YtplajmcjkddikaaW.PrintWords Go.Proofs.YtplajmcjkddikaaW.PrintLast Go.Proofs.YtplajmcjkddikaaW.PrintMore Go.Proofs.Ytplajmcjkddikaa.Leb Go.Proofs.Ytplajmcjkddikaa.Wire Go.Proofs.Ytplajmcjkddikaa.Req
set_option linter.unusedVariables false
set_option linter.unusedSimpArgs false
theorem xor_i64 (a b : Nat) (ha : a < 256) (hb : b < 256) : Go.bits .xor .i64 (a : Int) (b : Int) = ((a ^^^ b : Nat) : Int) := by
  have h1 : ∀ n : Nat, n < 256 → (BitVec.ofInt 64 (n : Int)).toNat = n := fun n hn => by
    rw [BitVec.ofInt_natCast, BitVec.toNat_ofNat]; exact Nat.mod_eq_of_lt (by omega)
  have hx : a ^^^ b < 2 ^ 8 := Nat.xor_lt_two_pow (by omega) (by omega)
  show IntKind.i64.wrap ((BitVec.ofInt 64 (a : Int) ^^^ BitVec.ofInt 64 (b : Int)).toNat : Int) = _
  rw [BitVec.toNat_xor, h1 a ha, h1 b hb, IntKind.wrap_i64]
  omega
theorem xor_u8 (a b : Nat) (ha : a < 256) (hb : b < 256) : Go.bits .xor .u8 (a : Int) (b : Int) = ((a ^^^ b : Nat) : Int) := by
  have h1 : ∀ n : Nat, n < 256 → (BitVec.ofInt 8 (n : Int)).toNat = n := fun n hn => by
    rw [BitVec.ofInt_natCast, BitVec.toNat_ofNat]; exact Nat.mod_eq_of_lt (by omega)
  have hx : a ^^^ b < 2 ^ 8 := Nat.xor_lt_two_pow (by omega) (by omega)
  show IntKind.u8.wrap ((BitVec.ofInt 8 (a : Int) ^^^ BitVec.ofInt 8 (b : Int)).toNat : Int) = _
  rw [BitVec.toNat_xor, h1 a ha, h1 b hb]
  have hw : ∀ n : Int, IntKind.u8.wrap n = n % 256 := fun n => by simp [IntKind.wrap, IntKind.bits, IntKind.signed]
  rw [hw]
  omega
theorem step_same (x c : Int) (i : Nat) (hx : 0 ≤ x ∧ x < 256) (hc : 0 ≤ c ∧ c < 256) (hi : i < 1000) :
    Go.bits .xor .i64 (Int.tmod (wrap64 ((wrap64 (31 * x)) + (wrap64 c))) 256) (Int.tmod (i : Int) 256) = Go.bits .xor .u8 ((((x * 31) % 256) + c) % 256) ((i : Int) % 256) ∧
      0 ≤ Go.bits .xor .u8 ((((x * 31) % 256) + c) % 256) ((i : Int) % 256) ∧ Go.bits .xor .u8 ((((x * 31) % 256) + c) % 256) ((i : Int) % 256) < 256 := by
  have e1 : wrap64 ((wrap64 (31 * x)) + (wrap64 c)) = 31 * x + c := by unfold wrap64; omega
  rw [e1]
  obtain ⟨a, ha⟩ := Int.eq_ofNat_of_zero_le (show 0 ≤ (31 * x + c) % 256 by omega)
  have e2 : Int.tmod (31 * x + c) 256 = (a : Int) := by rw [Int.tmod_eq_emod_of_nonneg (by omega)]; exact ha
  have e3 : ((x * 31) % 256 + c) % 256 = (a : Int) := by omega
  have e4 : Int.tmod (i : Int) 256 = ((i % 256 : Nat) : Int) := by rw [Int.tmod_eq_emod_of_nonneg (by omega)]; omega
  have e5 : (i : Int) % 256 = ((i % 256 : Nat) : Int) := by omega
  have hb : i % 256 < 256 := by omega
  rw [e2, e3, e4, e5, xor_i64 a _ (by omega) hb, xor_u8 a _ (by omega) hb]
  have hxl : a ^^^ (i % 256) < 2 ^ 8 := Nat.xor_lt_two_pow (by omega) (by omega)
  exact ⟨rfl, by omega, by omega⟩
theorem sum_both (xs : List Int) (hx : ∀ c ∈ xs, 0 ≤ c ∧ c < 256) (hl : xs.length < 900) : ∀ (d i k : Nat) (x : Int), i + d = xs.length → d < k → 0 ≤ x ∧ x < 256 →
    PReqBytes.berthagelaw10_sum.l0 k xs x (i : Int) = PReqApart.req_sum.l0 k x xs (xs.length : Int) (i : Int) ∧ ∀ s, PReqApart.req_sum.l0 k x xs (xs.length : Int) (i : Int) = some s → 0 ≤ s ∧ s < 256
  | 0, i, k, x, hi, hk, h => by
    obtain ⟨k, rfl⟩ : ∃ m, k = m + 1 := ⟨k - 1, by omega⟩
    rw [PReqBytes.berthagelaw10_sum.l0, PReqApart.req_sum.l0, if_neg (by omega), if_neg (by omega)]
    refine ⟨by rw [Int.emod_eq_of_lt h.1 h.2], fun s hs => ?_⟩
    injection hs with hs
    omega
  | d + 1, i, k, x, hi, hk, h => by
    obtain ⟨k, rfl⟩ : ∃ m, k = m + 1 := ⟨k - 1, by omega⟩
    have hlt : i < xs.length := by omega
    have hr : rd xs (i : Int) = xs[i] := by simp [rd, List.getD_eq_getElem?_getD, hlt]
    have hc := hx xs[i] (List.getElem_mem hlt)
    rw [← hr] at hc
    obtain ⟨e1, e2, e3⟩ := step_same x (rd xs (i : Int)) i h hc (by omega)
    have hw : wrap64 ((i : Int) + 1) = ((i + 1 : Nat) : Int) := by unfold wrap64; omega
    rw [PReqBytes.berthagelaw10_sum.l0, PReqApart.req_sum.l0, if_pos (by omega), if_pos (by omega), if_pos (by omega), if_pos (by omega), if_pos (by omega), hw, e1]
    exact sum_both xs hx hl d (i + 1) k _ (by omega) (by omega) ⟨e2, e3⟩
theorem sum_law (xs : List Int) (hx : ∀ c ∈ xs, 0 ≤ c ∧ c < 256) (hl : xs.length < 900) : PReqBytes.berthagelaw10_sum.f 1000 xs = some (sm xs) ∧ 0 ≤ sm xs ∧ sm xs < 256 := by
  have h := sum_both xs hx hl xs.length 0 1000 ((xs.length : Int) % 256) (by omega) (by omega) (by omega)
  have hs := sum_k xs hl 1000 (by omega)
  have e1 : PReqBytes.berthagelaw10_sum.f 1000 xs = PReqApart.req_sum.f 1000 xs := h.1
  exact ⟨e1.trans hs, h.2 (sm xs) hs⟩
theorem right_law (a0 a1 a2 a3 a4 a5 : Int) (a6 : Bool) (a7 a8 : Int) :
    PReqBytes.berthagelaw10_right.f 2 a0 a1 a2 a3 a4 a5 a6 a7 a8 = some (decide (good (a0, a1, a2, a3, a4, a5, a6, a7, a8))) := by
  have h := right_k 2 (by omega) a0 a1 a2 a3 a4 a5 a6 a7 a8
  rw [← h]
  unfold PReqBytes.berthagelaw10_right.f PReqApart.req_Right.f PReqApart.rule_Is.f
  by_cases h1 : a0 ≥ 1
  · rw [if_pos h1, if_pos h1]
    by_cases h2 : a0 ≤ 13
    · rw [if_pos h2]; simp only [Option.bind_some, decide_eq_true h2, if_true]
    · rw [if_neg h2]; simp [h2]
  · rw [if_neg h1, if_neg h1]; simp
end Go.Proofs.Ytplajmcjkddikaa.ReqLaw
