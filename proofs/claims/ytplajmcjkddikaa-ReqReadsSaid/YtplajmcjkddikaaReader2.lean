/- The reader's methods over raw: Sign, Num, Bool, End; and Read. -/
import Derived.Test.YtplajmcjkddikaaReader
namespace Go.Proofs.Ytplajmcjkddikaa.Reader
open Go.RowKit Go.Proofs.YtplajmcjkddikaaW.PrintWords Go.Proofs.YtplajmcjkddikaaW.PrintLast Go.Proofs.YtplajmcjkddikaaW.PrintMore Go.Proofs.Ytplajmcjkddikaa.Leb Go.Proofs.Ytplajmcjkddikaa.Wire Go.Proofs.Ytplajmcjkddikaa.Lock
set_option linter.unusedVariables false
set_option linter.unusedSimpArgs false
theorem and_1 (u : Nat) (h : u < 18446744073709551616) : Go.bits .and .u64 (u : Int) 1 = ((u % 2 : Nat) : Int) := by
  have := bits_and_u64_nat u 1 h (by omega)
  rw [show ((1 : Nat) : Int) = 1 from rfl] at this
  rw [this, Nat.and_one_is_mod]
theorem xor_i64_0 (a : Nat) (h : a < 9223372036854775808) : Go.bits .xor .i64 (a : Int) 0 = (a : Int) := by
  have h1 : (BitVec.ofInt 64 (a : Int)).toNat = a := by
    rw [BitVec.ofInt_natCast, BitVec.toNat_ofNat]; exact Nat.mod_eq_of_lt (by omega)
  show IntKind.i64.wrap ((BitVec.ofInt 64 (a : Int) ^^^ BitVec.ofInt 64 0).toNat : Int) = _
  rw [BitVec.toNat_xor, h1, show (BitVec.ofInt 64 0).toNat = 0 from by decide, Nat.xor_zero, IntKind.wrap_i64]
  omega
theorem xor_i64_1 (a : Nat) (h : a < 9223372036854775808) : Go.bits .xor .i64 (a : Int) (-1) = -(a : Int) - 1 := by
  have h1 : (BitVec.ofInt 64 (a : Int)).toNat = a := by
    rw [BitVec.ofInt_natCast, BitVec.toNat_ofNat]; exact Nat.mod_eq_of_lt (by omega)
  show IntKind.i64.wrap ((BitVec.ofInt 64 (a : Int) ^^^ BitVec.ofInt 64 (-1)).toNat : Int) = _
  rw [BitVec.toNat_xor, h1, show (BitVec.ofInt 64 (-1)).toNat = 18446744073709551615 from by decide, xor_ones a (by omega), IntKind.wrap_i64]
  omega
theorem zag_bits (u : Nat) (h : u < 18446744073709551616) : Go.bits .xor .i64 ((u : Int) / 2) (wrap64 (-wrap64 (Go.bits .and .u64 (u : Int) 1))) = zag u := by
  rw [and_1 u h, show ((u : Int) / 2) = ((u / 2 : Nat) : Int) by omega]
  unfold zag
  by_cases h1 : u % 2 = 1
  · rw [if_pos h1, h1, show wrap64 (-wrap64 ((1 : Nat) : Int)) = -1 from by (unfold wrap64; omega), xor_i64_1 _ (by omega)]
  · rw [if_neg h1, show u % 2 = 0 by omega, show wrap64 (-wrap64 ((0 : Nat) : Int)) = 0 from by (unfold wrap64; omega), xor_i64_0 _ (by omega)]
set_option maxRecDepth 100000 in
theorem sign_rd (w0 w : World) (g : Nat) (xs : List Int) (e : Int) (hx : ∀ c ∈ xs, 0 ≤ c ∧ c < 256) (h : RS w0 w g xs e) :
    Calls Try.prog 49 #[.pointer (some ⟨g, 0, none⟩)] w fun r w' => r = .returned (.int .i64 (zag (rawS e xs).2.1)) ∧ RS w0 w' g (rawS e xs).2.2 (rawS e xs).1 ∧ Upd g w w' := by
  have hR := raw_any w0 w g xs e hx h
  have hl := raw_lt xs hx e
  generalize rawS e xs = r at hR hl ⊢
  obtain ⟨er, u, rest⟩ := r
  simp only at hR hl ⊢
  clear h hx
  go_enter Try.func49, Try.ntmps49
  go_wp2_with (go_at_call 99; refine hR.mono ?_; rintro r w1 ⟨rfl, hr1, hu1⟩)
  go_ret
  exact ⟨congrArg (fun z : Int => Ending.returned (Value.int .i64 z)) (zag_bits u hl), hr1, hu1⟩
def numS (e : Int) (xs : List Int) : Int × Int × List Int :=
  if (rawS e xs).2.1 < 9223372036854775808 then (((rawS e xs).2.1 : Int), (rawS e xs).1, (rawS e xs).2.2)
  else (0, if (rawS e xs).1 = 0 then 4 else (rawS e xs).1, (rawS e xs).2.2)
set_option maxRecDepth 100000 in
theorem num_rd (w0 w : World) (g : Nat) (xs : List Int) (e : Int) (hx : ∀ c ∈ xs, 0 ≤ c ∧ c < 256) (h : RS w0 w g xs e) :
    Calls Try.prog 50 #[.pointer (some ⟨g, 0, none⟩)] w fun r w' => r = .returned (.int .i64 (numS e xs).1) ∧ RS w0 w' g (numS e xs).2.2 (numS e xs).2.1 ∧ Upd g w w' := by
  have hR := raw_any w0 w g xs e hx h
  have hl := raw_lt xs hx e
  unfold numS
  generalize rawS e xs = r at hR hl ⊢
  obtain ⟨er, u, rest⟩ := r
  simp only at hR hl ⊢
  clear h hx
  by_cases hu : u < 9223372036854775808
  · rw [if_pos hu]
    have b1 : decide ((u : Int) ≥ 9223372036854775808) = false := by simp; omega
    go_enter Try.func50, Try.ntmps50
    go_wp2_with (go_at_call 99; refine hR.mono ?_; rintro r w1 ⟨rfl, hr1, hu1⟩)
    go_ret
    exact ⟨by first | rfl | (simp; unfold wrap64; omega), hr1, hu1⟩
  · rw [if_neg hu]
    have b1 : decide ((u : Int) ≥ 9223372036854775808) = true := by simp; omega
    have hF := fun w1 (h : RS w0 w1 g rest er) => fail_any w0 w1 g rest er 4 h
    simp only
    generalize (if er = 0 then 4 else er) = e2 at hF ⊢
    go_enter Try.func50, Try.ntmps50
    go_wp2_with (first
      | (go_at_call 99; refine hR.mono ?_; rintro r w1 ⟨rfl, hr1, hu1⟩)
      | (go_at_call 100; refine (hF _ hr1).mono ?_; rintro r w2 ⟨rfl, hr2, hu2⟩))
    go_ret
    exact ⟨rfl, hr2, hu1.trans hu2⟩
def boolS (e : Int) (xs : List Int) : Bool × Int × List Int :=
  if (byteS e xs).1 > 1 then (false, if (byteS e xs).2.1 = 0 then 4 else (byteS e xs).2.1, (byteS e xs).2.2)
  else ((byteS e xs).1 == 1, (byteS e xs).2.1, (byteS e xs).2.2)
end Go.Proofs.Ytplajmcjkddikaa.Reader
