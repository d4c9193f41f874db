/- Package set, by hand walks: sets of nodes as bits; what asks for no table. -/
import Derived.Test.YtmjkgnlmdcmdbaaDoorProg
import Derived.Test.YtmjkgnlmdcmdbaaDoorWMore
import Derived.Test.YtmjkgnlmdcmdbaaDoorSetPlain
import Derived.Test.YtmjkgnlmdcmdbaaDoorRow
import Derived.WalkKit
import Derived.WalkSpells
import Derived.WalkLawsBesides
import Derived.KernelRfl
import Derived.Outline
import Derived.IntWalk
import Derived.Handy
import Derived.Lib.Hide
namespace Go.Proofs.YtmjkgnlmdcmdbaaDoor.Sets
open Go.RowKit Go.Proofs.YtmjkgnlmdcmdbaaDoorW.PrintWords Go.Proofs.YtmjkgnlmdcmdbaaDoorW.PrintMore
set_option linter.unusedVariables false
set_option linter.unusedSimpArgs false
theorem pow_wrap (k : Nat) (h : k < 64) : IntKind.u64.wrap ((2 : Int) ^ k) = ((2 ^ k : Nat) : Int) := by
  have h1 : 2 ^ k < 2 ^ 64 := Nat.pow_lt_pow_right (by omega) h
  have h2 : ((2 : Int) ^ k) = ((2 ^ k : Nat) : Int) := by simp
  rw [h2, IntKind.wrap_u64]
  generalize 2 ^ k = p at h1 ⊢
  omega
theorem pow_lt (k : Nat) (h : k < 64) : 2 ^ k < 18446744073709551616 := by
  have h1 : 2 ^ k < 2 ^ 64 := Nat.pow_lt_pow_right (by omega) h
  omega
def hasS (s : Nat) (n : Int) : Bool := decide (0 ≤ n) && (decide (n < 64) && s.testBit n.toNat)
def withS (s : Nat) (n : Int) : Nat := if 0 ≤ n ∧ n < 64 then s ||| 2 ^ n.toNat else s
def withoutS (s : Nat) (n : Int) : Nat := if 0 ≤ n ∧ n < 64 then s &&& (18446744073709551615 - 2 ^ n.toNat) else s
theorem hasS_at (s k : Nat) (h : k < 64) : hasS s (k : Int) = s.testBit k := by
  have h1 : (0 : Int) ≤ (k : Int) := by omega
  have h2 : (k : Int) < 64 := by omega
  simp [hasS, h1, h2, h]
theorem hasS_out (s : Nat) (n : Int) (h : n < 0 ∨ 64 ≤ n) : hasS s n = false := by
  unfold hasS
  rcases h with h | h
  · have : ¬ 0 ≤ n := by omega
    simp [this]
  · have : ¬ n < 64 := by omega
    simp [this]
theorem withS_at (s k : Nat) (h : k < 64) : withS s (k : Int) = s ||| 2 ^ k := by unfold withS; rw [if_pos (by omega), Int.toNat_natCast]
theorem withS_lt (s : Nat) (n : Int) (h : s < 18446744073709551616) : withS s n < 18446744073709551616 := by
  unfold withS
  split
  · have := Nat.or_lt_two_pow (x := s) (y := 2 ^ n.toNat) (n := 64) (by omega) (Nat.pow_lt_pow_right (by omega) (by omega))
    omega
  · exact h
theorem withS_bit (s : Nat) (n : Int) (i : Nat) (hi : i < 64) : (withS s n).testBit i = (s.testBit i || decide ((i : Int) = n)) := by
  unfold withS
  split
  · rw [Nat.testBit_or, Nat.testBit_two_pow]
    congr 1
    by_cases h : (i : Int) = n
    · subst h; simp
    · have : ¬ n.toNat = i := by omega
      simp [h, this]
  · have : ¬ (i : Int) = n := by omega
    simp [this]
theorem withoutS_lt (s : Nat) (n : Int) (h : s < 18446744073709551616) : withoutS s n < 18446744073709551616 := by
  unfold withoutS
  split
  · exact Nat.lt_of_le_of_lt Nat.and_le_left h
  · exact h
theorem ones_sub (k i : Nat) (hk : k < 64) (hi : i < 64) : (18446744073709551615 - 2 ^ k).testBit i = decide (i ≠ k) := by
  have h := Nat.testBit_two_pow_sub_succ (x := 2 ^ k) (n := 64) (Nat.pow_lt_pow_right (by omega) hk) i
  have e : 2 ^ 64 - (2 ^ k + 1) = 18446744073709551615 - 2 ^ k := by omega
  rw [e] at h
  rw [h, Nat.testBit_two_pow]
  by_cases hik : k = i
  · subst hik; simp
  · have : ¬ i = k := fun e => hik e.symm
    simp [hi, hik, this]
theorem withoutS_bit (s : Nat) (n : Int) (i : Nat) (hi : i < 64) : (withoutS s n).testBit i = (s.testBit i && decide ((i : Int) ≠ n)) := by
  unfold withoutS
  split
  · rw [Nat.testBit_and, ones_sub _ _ (by omega) hi]
    congr 1
    by_cases h : (i : Int) = n
    · subst h; simp
    · have : ¬ i = n.toNat := by omega
      simp [h, this]
  · have : (i : Int) ≠ n := by omega
    simp [this]
theorem with_any (s : Nat) (n : Int) (w : World) (hs : s < 18446744073709551616) :
    Calls Tryd.prog 30 #[.int .u64 s, .int .i64 n] w fun e w' => e = .returned (.int .u64 (withS s n : Nat)) ∧ w = w' := by
  rcases (by omega : n < 0 ∨ (0 ≤ n ∧ 64 ≤ n) ∨ (0 ≤ n ∧ n < 64)) with h | ⟨h0, h⟩ | ⟨h0, h1⟩
  · have e : withS s n = s := by unfold withS; rw [if_neg (by omega)]
    rw [e]
    clear e
    go_enter Tryd.func30, Tryd.ntmps30
    go_wp2; go_ret; exact ⟨rfl, rfl⟩
  · have e : withS s n = s := by unfold withS; rw [if_neg (by omega)]
    rw [e]
    clear e
    go_enter Tryd.func30, Tryd.ntmps30
    go_wp2; go_ret; exact ⟨rfl, rfl⟩
  · have e : bits .or .u64 (s : Int) (IntKind.u64.wrap (2 ^ n.toNat)) = (withS s n : Nat) := by
      unfold withS
      rw [if_pos ⟨h0, h1⟩, pow_wrap _ (by omega), bits_or_u64_nat _ _ hs (pow_lt _ (by omega))]
    have E := Lib.hid e
    clear e
    go_enter Tryd.func30, Tryd.ntmps30
    go_wp2; go_ret; exact ⟨by rw [← E.out]; rfl, rfl⟩
theorem has_any (s : Nat) (n : Int) (w : World) (hs : s < 18446744073709551616) :
    Calls Tryd.prog 29 #[.int .u64 s, .int .i64 n] w fun e w' => e = .returned (.bool (hasS s n)) ∧ w = w' := by
  rcases (by omega : n < 0 ∨ (0 ≤ n ∧ 64 ≤ n) ∨ (0 ≤ n ∧ n < 64)) with h | ⟨h0, h⟩ | ⟨h0, h1⟩
  · rw [hasS_out s n (.inl h)]
    go_enter Tryd.func29, Tryd.ntmps29
    go_wp2; go_ret; exact ⟨rfl, rfl⟩
  · rw [hasS_out s n (.inr h)]
    go_enter Tryd.func29, Tryd.ntmps29
    go_wp2; go_ret; exact ⟨rfl, rfl⟩
  · have e : (bits BinOp.and IntKind.u64 ((s : Int) / 2 ^ n.toNat) 1 == 1) = hasS s n := by
      obtain ⟨k, rfl⟩ := Int.eq_ofNat_of_zero_le h0
      have hd : ((s : Int) / 2 ^ k) = ((s / 2 ^ k : Nat) : Int) := by simp
      have hl : s / 2 ^ k < 18446744073709551616 := Nat.lt_of_le_of_lt (Nat.div_le_self _ _) hs
      have hb := bits_and_u64_nat (s / 2 ^ k) 1 hl (by omega)
      rw [Int.toNat_natCast, hd, hasS_at s k (by omega)]
      rw [show ((1 : Nat) : Int) = 1 from rfl] at hb
      rw [hb, Nat.and_one_is_mod, Nat.testBit_eq_decide_div_mod_eq]
      by_cases h1 : s / 2 ^ k % 2 = 1
      · rw [h1]; rfl
      · have h2 : s / 2 ^ k % 2 = 0 := by omega
        rw [h2]; rfl
    have E := Lib.hid e
    clear e
    go_enter Tryd.func29, Tryd.ntmps29
    go_wp2; go_ret; exact ⟨by rw [← E.out]; rfl, rfl⟩
/-- the set of a list of numbers, those that there can't be passed over -/
def ofS (l : List Int) : Nat := l.foldl (fun s n => withS s n) 0
theorem ofS_lt (l : List Int) : ofS l < 18446744073709551616 := by
  unfold ofS
  suffices h : ∀ (l : List Int) (a : Nat), a < 18446744073709551616 → l.foldl (fun s n => withS s n) a < 18446744073709551616 from h l 0 (by omega)
  intro l
  induction l with
  | nil => intro a h; exact h
  | cons n l ih => intro a h; exact ih _ (withS_lt a n h)
theorem ofS_bit (l : List Int) (i : Nat) (hi : i < 64) : (ofS l).testBit i = decide ((i : Int) ∈ l) := by
  unfold ofS
  suffices h : ∀ (l : List Int) (a : Nat), (l.foldl (fun s n => withS s n) a).testBit i = (a.testBit i || decide ((i : Int) ∈ l)) by rw [h l 0]; simp
  intro l
  induction l with
  | nil => intro a; simp
  | cons n l ih =>
    intro a
    rw [List.foldl_cons, ih, withS_bit a n i hi]
    by_cases h : (i : Int) = n
    · subst h; simp
    · simp [h]
theorem ofS_snoc (l : List Int) (n : Int) : ofS (l ++ [n]) = withS (ofS l) n := by simp [ofS]
theorem rd_take (l : List Int) (i : Int) (h0 : 0 ≤ i) (h1 : i < l.length) : l.take (i + 1).toNat = l.take i.toNat ++ [rd l i] := by
  obtain ⟨k, rfl⟩ := Int.eq_ofNat_of_zero_le h0
  have hk : k < l.length := by omega
  rw [show ((k : Int) + 1).toNat = k + 1 by omega, Int.toNat_natCast, List.take_succ_eq_append_getElem hk]
  simp [rd, hk]
set_option maxRecDepth 100000 in
theorem of_any (A : Option Addr) (c : Nat) (l : List Int) (w : World) (hr : Row.Rds (Value.int .i64) w A l) (hl : l.length ≤ 140737488351232) :
    Calls Tryd.prog 24 #[.slice A l.length c] w fun e w' => e = .returned (.int .u64 (ofS l : Nat)) ∧ w = w' := by
  have HR := Lib.hid hr
  clear hr
  go_enter Tryd.func24, Tryd.ntmps24
  go_wp2
  go_loop [3, 8] (fun v3 v8 => ∃ i : Int, v3 = .int .u64 (ofS (l.take i.toNat) : Nat) ∧ v8 = .int .i64 i ∧ Aside0 (0 ≤ i ∧ i ≤ (l.length : Int))) (fun _ v8 => l.length - (intOf v8).toNat)
  case atStart => exact ⟨0, rfl, rfl, ⟨by omega, by omega⟩⟩
  case round =>
    obtain ⟨i, rfl, rfl, HI⟩ := hrel
    by_cases c1 : i < (l.length : Int)
    · have b1 : decide (i < (l.length : Int)) = true := decide_eq_true c1
      have i1 : 0 ≤ i := HI.out.1
      obtain ⟨ad, rfl, t0⟩ := HR.out.rd_ i i1 c1
      have i0 : (0 ≤ i ∧ i < (l.length : Int)) = True := eq_true ⟨i1, c1⟩
      go_wp2_with (go_at_call 30; refine (with_any _ _ _ (ofS_lt _)).mono ?_; rintro e w2 ⟨rfl, rfl⟩)
      go_round
      case rel => exact ⟨i + 1, by rw [rd_take l i i1 c1, ofS_snoc], by go_num, ⟨by omega, by omega⟩⟩
      case measure => simp [intOf]; omega
    · have b1 : decide (i < (l.length : Int)) = false := decide_eq_false c1
      obtain rfl : i = (l.length : Int) := by have := HI.out; omega
      rw [Int.toNat_natCast, List.take_length]
      go_wp2
      go_ret
      exact ⟨rfl, rfl⟩
end Go.Proofs.YtmjkgnlmdcmdbaaDoor.Sets
