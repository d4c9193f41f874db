/- SetApart: sets that have no node in common; the law's walk. -/
import Derived.Test.YtmjkgnlmdcmdbaaDoorSetNodes
import Derived.Test.YtmjkgnlmdcmdbaaDoorOpen
namespace Go.Proofs.YtmjkgnlmdcmdbaaDoor.Sets
open Go.RowKit Go.Proofs.YtmjkgnlmdcmdbaaDoorW.PrintWords Go.Proofs.YtmjkgnlmdcmdbaaDoorW.PrintLast Go.Proofs.YtmjkgnlmdcmdbaaDoorW.PrintMore Go.Proofs.YtmjkgnlmdcmdbaaDoor.Row Go.Proofs.YtmjkgnlmdcmdbaaDoor.Open
set_option linter.unusedVariables false
set_option linter.unusedSimpArgs false
/-- element j as a number -/
def un (l : List Int) (j : Nat) : Nat := (rd l (j : Int)).toNat
def Disj (x y : Nat) : Prop := ∀ n, n < 64 → ¬ (x.testBit n = true ∧ y.testBit n = true)
theorem disj_and (x y : Nat) (hx : x < 18446744073709551616) : x &&& y = 0 ↔ Disj x y := by
  constructor
  · intro h n hn hh
    have := congrArg (·.testBit n) h
    simp only [Nat.testBit_and, hh.1, hh.2, Nat.zero_testBit] at this
    cases this
  · intro h
    apply Nat.eq_of_testBit_eq
    intro i
    rw [Nat.testBit_and, Nat.zero_testBit]
    by_cases hi : i < 64
    · have := h i hi
      cases h1 : x.testBit i <;> cases h2 : y.testBit i <;> simp [h1, h2] at this ⊢
    · rw [bit_out x i hx (by omega)]; rfl
/-- no two of the first i have a node in common -/
def ApartTo (l : List Int) (i : Nat) : Prop := ∀ j, j < i → ∀ k, k < j → Disj (un l j) (un l k)
def Small (l : List Int) : Prop := ∀ i : Int, 0 ≤ i → i < l.length → ∃ s : Nat, rd l i = (s : Int) ∧ s < 18446744073709551616
def ApartIs (l : List Int) (w : World) (e : Ending) (w' : World) : Prop := ∃ b : Bool, e = .returned (.bool b) ∧ (b = true ↔ ApartTo l l.length) ∧ w = w'
set_option maxRecDepth 100000 in
theorem apart_any (A : Option Addr) (c : Nat) (l : List Int) (w : World) (hr : Rds (Value.int .u64) w A l) (hl : l.length ≤ 140737488351232) (hs : Small l) :
    Calls Tryd.prog 27 #[.slice A l.length c] w (ApartIs l w) := by
  have HR := Lib.hid hr
  have HS := Lib.hid hs
  clear hr hs
  go_enter Tryd.func27, Tryd.ntmps27
  go_wp2
  go_loop [3, 8] (fun v3 v8 => ∃ (i : Int) (a : Nat), v3 = .int .u64 a ∧ v8 = .int .i64 i ∧ Aside0 (0 ≤ i ∧ i ≤ (l.length : Int) ∧ a < 18446744073709551616 ∧ (∀ n, n < 64 → (a.testBit n = true ↔ ∃ k : Nat, (k : Int) < i ∧ (un l k).testBit n = true)) ∧ ApartTo l i.toNat)) (fun _ v8 => l.length - (intOf v8).toNat)
  case atStart => exact ⟨0, 0, rfl, rfl, ⟨by omega, by omega, by omega, fun n hn => ⟨fun h => by simp at h, fun ⟨k, hk, _⟩ => by omega⟩, fun j hj => by simp at hj⟩⟩
  case round =>
    obtain ⟨i, a, rfl, rfl, HI⟩ := hrel
    by_cases c1 : i < (l.length : Int)
    · have b1 : decide (i < (l.length : Int)) = true := decide_eq_true c1
      have i1 : 0 ≤ i := HI.out.1
      obtain ⟨ad, rfl, t0⟩ := HR.out.rd_ i i1 c1
      obtain ⟨s, hs, hlt⟩ := HS.out i i1 c1
      rw [hs] at t0
      have hun : un l i.toNat = s := by unfold un; rw [show ((i.toNat : Nat) : Int) = i by omega, hs]; simp
      have HU := Lib.hid hun
      have i0 : (0 ≤ i ∧ i < (l.length : Int)) = True := eq_true ⟨i1, c1⟩
      have ha := HI.out.2.2.1
      have e1 := bits_and_u64_nat s a hlt ha
      have e2 := bits_or_u64_nat s a hlt ha
      have e2' := bits_or_u64_nat a s ha hlt
      have hdj := disj_and s a hlt
      have hor : s ||| a < 18446744073709551616 := by have := Nat.or_lt_two_pow (x := s) (y := a) (n := 64) (by omega) (by omega); omega
      have hor' : a ||| s < 18446744073709551616 := by have := Nat.or_lt_two_pow (x := a) (y := s) (n := 64) (by omega) (by omega); omega
      have HD := Lib.hid hdj
      have HO := Lib.hid hor'
      have E2 := Lib.hid e2'
      have htn : (i + 1).toNat = i.toNat + 1 := by omega
      have HTN := Lib.hid htn
      clear hs hun hdj hor hor' e2 htn
      by_cases c2 : s &&& a = 0
      · have b2 : (((s &&& a : Nat) : Int) == 0) = true := by rw [c2]; rfl
        have b2' : (((s &&& a : Nat) : Int) != 0) = false := by rw [c2]; rfl
        have C2 := Lib.hid c2
        clear c2
        generalize s &&& a = q at e1 b2 b2' C2 HD
        go_wp2
        go_round
        case rel =>
          refine ⟨i + 1, a ||| s, by first | rfl | (rw [← E2.out]; done), by go_num, ⟨by omega, by omega, HO.out, fun n hn => ?_, ?_⟩⟩
          · rw [Nat.testBit_or, Bool.or_eq_true, HI.out.2.2.2.1 n hn]
            constructor
            · rintro (⟨k, hk, h⟩ | h)
              · exact ⟨k, by omega, h⟩
              · exact ⟨i.toNat, by omega, by rw [HU.out]; exact h⟩
            · rintro ⟨k, hk, h⟩
              by_cases hki : (k : Int) < i
              · exact .inl ⟨k, hki, h⟩
              · obtain rfl : k = i.toNat := by omega
                rw [HU.out] at h
                exact .inr h
          · rw [HTN.out]
            intro j hj k hk
            by_cases hji : j < i.toNat
            · exact HI.out.2.2.2.2 j hji k hk
            · obtain rfl : j = i.toNat := by omega
              rw [HU.out]
              intro n hn hh
              exact HD.out.1 C2.out n hn ⟨hh.1, (HI.out.2.2.2.1 n hn).2 ⟨k, by omega, hh.2⟩⟩
        case measure => simp [intOf]; omega
      · have b2 : (((s &&& a : Nat) : Int) == 0) = false := by simp; omega
        have b2' : (((s &&& a : Nat) : Int) != 0) = true := by simp; omega
        have C2 := Lib.hid c2
        clear c2
        generalize s &&& a = q at e1 b2 b2' C2 HD
        go_wp2
        go_ret
        refine ⟨false, rfl, ⟨(fun h => by cases h), fun h => ?_⟩, rfl⟩
        exfalso
        apply C2.out
        apply HD.out.2
        intro n hn hh
        obtain ⟨k, hk, hb⟩ := (HI.out.2.2.2.1 n hn).1 hh.2
        have := h i.toNat (by omega) k (by omega) n hn
        rw [HU.out] at this
        exact this ⟨hh.1, hb⟩
    · have b1 : decide (i < (l.length : Int)) = false := decide_eq_false c1
      obtain rfl : i = (l.length : Int) := by have := HI.out; omega
      go_wp2
      go_ret
      exact ⟨true, rfl, ⟨fun _ => by have := HI.out.2.2.2.2; rwa [Int.toNat_natCast] at this, fun _ => rfl⟩, rfl⟩
theorem info_set : (Tryd.prog.info? 23).map (fun i => (i.zero, i.size, i.bytes)) = some (some (.int .u64 0), 1, 8) := by kernel_rfl
/-- no common node ahead of pair (i, k) and node n -/
def Pairs (l : List Int) (i k n : Nat) : Prop := ApartTo l i ∧ (∀ b, b < k → Disj (un l i) (un l b)) ∧ ∀ m, m < n → ¬ ((un l i).testBit m = true ∧ (un l k).testBit m = true)
theorem Pairs.start (l : List Int) (i : Nat) : Pairs l i 0 0 ↔ ApartTo l i := ⟨fun h => h.1, fun h => ⟨h, fun b hb => by omega, fun m hm => by omega⟩⟩
theorem Pairs.next (l : List Int) (i k : Nat) : Pairs l i k 64 ↔ Pairs l i (k + 1) 0 := by
  constructor
  · rintro ⟨h1, h2, h3⟩
    refine ⟨h1, fun b hb => ?_, fun m hm => by omega⟩
    by_cases hbk : b < k
    · exact h2 b hbk
    · obtain rfl : b = k := by omega
      exact h3
  · rintro ⟨h1, h2, _⟩
    exact ⟨h1, fun b hb => h2 b (by omega), h2 k (by omega)⟩
theorem Pairs.step (l : List Int) (i k n : Nat) : Pairs l i k (n + 1) ↔ Pairs l i k n ∧ ¬ ((un l i).testBit n = true ∧ (un l k).testBit n = true) := by
  constructor
  · rintro ⟨h1, h2, h3⟩
    exact ⟨⟨h1, h2, fun m hm => h3 m (by omega)⟩, h3 n (by omega)⟩
  · rintro ⟨⟨h1, h2, h3⟩, h4⟩
    refine ⟨h1, h2, fun m hm => ?_⟩
    by_cases hmn : m < n
    · exact h3 m hmn
    · obtain rfl : m = n := by omega
      exact h4
end Go.Proofs.YtmjkgnlmdcmdbaaDoor.Sets
