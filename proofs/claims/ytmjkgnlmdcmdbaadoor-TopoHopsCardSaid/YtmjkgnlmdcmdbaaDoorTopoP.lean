/- Law 39, plain: what New and the document's tree agree upon; hops, costs, picks. -/
import Derived.Test.YtmjkgnlmdcmdbaaDoorTopo6
namespace Go.Proofs.YtmjkgnlmdcmdbaaDoor.Topo
open Go.RowKit Go.Proofs.YtmjkgnlmdcmdbaaDoor.Sets Go.Proofs.YtmjkgnlmdcmdbaaDoor.Node
set_option linter.unusedVariables false
set_option linter.unusedSimpArgs false
theorem allQ_zero (qs : List Nat) (q : Nat) : ∀ k, (q &&& allQ qs k = 0 ↔ ∀ j, j < k → qs.getD j 0 &&& q = 0)
  | 0 => ⟨fun _ j hj => absurd hj (by omega), fun _ => by unfold allQ; simp⟩
  | k + 1 => by
    unfold allQ
    rw [Nat.and_or_distrib_left, Nat.or_eq_zero_iff, allQ_zero qs q k, Nat.and_comm q]
    constructor
    · rintro ⟨h1, h2⟩ j hj
      by_cases e : j = k
      · rw [e]; exact h2
      · exact h1 j (by omega)
    · intro h
      exact ⟨fun j hj => h j (by omega), h k (by omega)⟩
theorem overS_is (M : List Nat) (D : List Int) (s : Nat) : ∀ n, 0 ≤ overS M D s n → minus s (M.getD (overS M D s n).toNat 0) = 0
  | 0 => fun h => by unfold overS at h; omega
  | n + 1 => by
    intro h
    unfold overS overStep at h ⊢
    split
    · rename_i hc
      exact hc.1
    · rename_i hc
      rw [if_neg hc] at h
      exact overS_is M D s n h
theorem overS_max (M : List Nat) (D : List Int) (s k : Nat) (hk0 : minus s (M.getD k 0) = 0) : ∀ n, k < n → 0 ≤ overS M D s n ∧ D.getD k 0 ≤ D.getD (overS M D s n).toNat 0
  | 0, h => absurd h (by omega)
  | n + 1, h => by
    have hin := overS_in M D s n
    by_cases e : k = n
    · subst e
      unfold overS overStep
      split
      · exact ⟨by omega, by rw [show ((k : Int)).toNat = k by omega]; exact Int.le_refl _⟩
      · rename_i hc
        have h1 : ¬ overS M D s k < 0 := fun h1 => hc ⟨hk0, .inl h1⟩
        have h2 : ¬ D.getD (overS M D s k).toNat 0 < D.getD k 0 := fun h2 => hc ⟨hk0, .inr h2⟩
        omega
    · have ih := overS_max M D s k hk0 n (by omega)
      unfold overS overStep
      split
      · rename_i hc
        rw [show ((n : Int)).toNat = n by omega]
        rcases hc.2 with h1 | h1 <;> omega
      · exact ih
theorem minus_bits (x y : Nat) (hx : x < 18446744073709551616) (hy : y < 18446744073709551616) : minus x y = 0 ↔ ∀ i, i < 64 → x.testBit i = true → y.testBit i = true := by
  constructor
  · intro h i hi hb
    have := minus_bit x y i hy hi
    rw [h, Nat.zero_testBit, hb] at this
    cases hyb : y.testBit i
    · rw [hyb] at this; cases this
    · rfl
  · intro h
    refine eq_of_bits _ _ (minus_lt _ _ hx) (by decide) fun i hi => ?_
    rw [minus_bit x y i hy hi, Nat.zero_testBit]
    cases hb : x.testBit i
    · rfl
    · rw [h i hi hb]; rfl
theorem hasS_iff (m : Nat) (a : Int) : hasS m a = true ↔ ∃ k : Nat, a = (k : Int) ∧ k < 64 ∧ m.testBit k = true := by
  constructor
  · intro h
    rcases (by omega : (a < 0 ∨ 64 ≤ a) ∨ (0 ≤ a ∧ a < 64)) with h1 | ⟨h1, h2⟩
    · rw [hasS_out m a h1] at h; cases h
    · obtain ⟨k, rfl⟩ : ∃ k : Nat, a = (k : Int) := ⟨a.toNat, by omega⟩
      rw [hasS_at m k (by omega)] at h
      exact ⟨k, rfl, by omega, h⟩
  · rintro ⟨k, rfl, hk, h⟩
    rw [hasS_at m k hk]; exact h
theorem in_one (m : Nat) (a : Int) (hm : m < 18446744073709551616) (h : hasS m a = true) : minus (ofS [a]) m = 0 := by
  obtain ⟨k, rfl, hk, hb⟩ := (hasS_iff m a).1 h
  refine (minus_bits _ _ (ofS_lt _) hm).2 fun i hi h1 => ?_
  rw [ofS_bit _ _ hi] at h1
  have : i = k := by
    have h2 : (i : Int) = (k : Int) := by simpa using h1
    omega
  rw [this]; exact hb
theorem in_two (m : Nat) (a c : Int) (hm : m < 18446744073709551616) (ha : hasS m a = true) (hc : hasS m c = true) : minus (ofS [a, c]) m = 0 := by
  obtain ⟨k, rfl, hk, hb⟩ := (hasS_iff m a).1 ha
  obtain ⟨k2, rfl, hk2, hb2⟩ := (hasS_iff m c).1 hc
  refine (minus_bits _ _ (ofS_lt _) hm).2 fun i hi h1 => ?_
  rw [ofS_bit _ _ hi] at h1
  have : i = k ∨ i = k2 := by
    have h2 : (i : Int) = (k : Int) ∨ (i : Int) = (k2 : Int) := by simpa using h1
    omega
  rcases this with h | h <;> subst h <;> assumption
theorem two_one (m : Nat) (a c : Int) (hm : m < 18446744073709551616) (h : minus (ofS [a, c]) m = 0) : minus (ofS [a]) m = 0 ∧ minus (ofS [c]) m = 0 := by
  have h := (minus_bits _ _ (ofS_lt _) hm).1 h
  constructor
  · refine (minus_bits _ _ (ofS_lt _) hm).2 fun i hi h1 => h i hi ?_
    rw [ofS_bit _ _ hi] at h1 ⊢
    simp at h1 ⊢
    exact .inl h1
  · refine (minus_bits _ _ (ofS_lt _) hm).2 fun i hi h1 => h i hi ?_
    rw [ofS_bit _ _ hi] at h1 ⊢
    simp at h1 ⊢
    exact .inr h1
theorem ofS_two (a c : Int) : ofS [a, c] = ofS [c, a] :=
  eq_of_bits _ _ (ofS_lt _) (ofS_lt _) fun i hi => by
    rw [ofS_bit _ _ hi, ofS_bit _ _ hi]
    simp [or_comm]
/-- how many switches are passed -/
def hopsS (M : List Nat) (D : List Int) (n : Nat) (a c : Int) : Int :=
  if hasS (M.getD 0 0) a = true ∧ hasS (M.getD 0 0) c = true then
    if a = c then 0 else D.getD (overS M D (ofS [a]) n).toNat 0 + D.getD (overS M D (ofS [c]) n).toNat 0 - 2 * D.getD (overS M D (ofS [a, c]) n).toNat 0 + 1
  else -1
theorem hopsS_back (M : List Nat) (D : List Int) (n : Nat) (a c : Int) : hopsS M D n c a = hopsS M D n a c := by
  unfold hopsS
  rw [ofS_two c a, Int.add_comm (D.getD (overS M D (ofS [c]) n).toNat 0)]
  by_cases h : hasS (M.getD 0 0) a = true ∧ hasS (M.getD 0 0) c = true
  · rw [if_pos h, if_pos ⟨h.2, h.1⟩]
    by_cases e : a = c
    · rw [if_pos e, if_pos e.symm]
    · rw [if_neg e, if_neg (fun h => e h.symm)]
  · rw [if_neg h, if_neg (fun h2 => h ⟨h2.2, h2.1⟩)]
/-- the three switches are there, the third no deeper than the others -/
theorem over_three (M : List Nat) (D : List Int) (n : Nat) (hn : 0 < n) (hml : ∀ i, M.getD i 0 < 18446744073709551616) (a c : Int) (ha : hasS (M.getD 0 0) a = true) (hc : hasS (M.getD 0 0) c = true) :
    ∃ X Y Z : Nat, overS M D (ofS [a]) n = (X : Int) ∧ overS M D (ofS [c]) n = (Y : Int) ∧ overS M D (ofS [a, c]) n = (Z : Int) ∧ X < n ∧ Y < n ∧ Z < n ∧ D.getD Z 0 ≤ D.getD X 0 ∧ D.getD Z 0 ≤ D.getD Y 0 := by
  have h1 := overS_max M D (ofS [a]) 0 (in_one _ a (hml 0) ha) n hn
  have h2 := overS_max M D (ofS [c]) 0 (in_one _ c (hml 0) hc) n hn
  have h3 := overS_max M D (ofS [a, c]) 0 (in_two _ a c (hml 0) ha hc) n hn
  have b1 := overS_in M D (ofS [a]) n
  have b2 := overS_in M D (ofS [c]) n
  have b3 := overS_in M D (ofS [a, c]) n
  have hz := two_one _ a c (hml _) (overS_is M D (ofS [a, c]) n h3.1)
  have h4 := overS_max M D (ofS [a]) _ hz.1 n (by omega)
  have h5 := overS_max M D (ofS [c]) _ hz.2 n (by omega)
  exact ⟨_, _, _, (Int.toNat_of_nonneg h1.1).symm, (Int.toNat_of_nonneg h2.1).symm, (Int.toNat_of_nonneg h3.1).symm, by omega, by omega, by omega, h4.2, h5.2⟩
theorem hopsS_in (M : List Nat) (D : List Int) (n : Nat) (hn : 0 < n) (hl : n ≤ 64) (hml : ∀ i, M.getD i 0 < 18446744073709551616) (hdp : ∀ i, i < n → 0 ≤ D.getD i 0 ∧ D.getD i 0 ≤ i) (a c : Int) : -1 ≤ hopsS M D n a c ∧ hopsS M D n a c ≤ 200 := by
  unfold hopsS
  split
  · rename_i h
    split
    · omega
    · obtain ⟨X, Y, Z, e1, e2, e3, l1, l2, l3, d1, d2⟩ := over_three M D n hn hml a c h.1 h.2
      rw [e1, e2, e3, Int.toNat_natCast, Int.toNat_natCast, Int.toNat_natCast]
      have := hdp X l1
      have := hdp Y l2
      have := hdp Z l3
      omega
  · omega
/-- a sum that is none once one of its parts is -/
def addS (s x : Int) : Int := if x < 0 ∨ s < 0 then -1 else s + x
def rowS (f : Int → Int → Int) (l : List Int) (i : Nat) (s : Int) : Nat → Int
  | 0 => s
  | k + 1 => addS (rowS f l i s k) (f (l.getD k 0) (l.getD i 0))
def costS (f : Int → Int → Int) (l : List Int) : Nat → Int
  | 0 => 0
  | i + 1 => rowS f l i (costS f l i) i
theorem rowS_none (f : Int → Int → Int) (l : List Int) (i : Nat) (s : Int) (j : Nat) (h : rowS f l i s j = -1) : ∀ k, j ≤ k → rowS f l i s k = -1
  | 0, hk => by rw [← h, show j = 0 by omega]
  | k + 1, hk => by
    by_cases e : j = k + 1
    · rw [← e]; exact h
    · unfold rowS addS
      rw [rowS_none f l i s j h k (by omega), if_pos (.inr (by decide))]
theorem costS_none (f : Int → Int → Int) (l : List Int) (j : Nat) (h : costS f l j = -1) : ∀ k, j ≤ k → costS f l k = -1
  | 0, hk => by rw [← h, show j = 0 by omega]
  | k + 1, hk => by
    by_cases e : j = k + 1
    · rw [← e]; exact h
    · unfold costS
      rw [costS_none f l j h k (by omega)]
      exact rowS_none f l k (-1) 0 rfl k (by omega)
theorem rowS_in (f : Int → Int → Int) (hf : ∀ a c, f a c ≤ 200) (l : List Int) (i : Nat) (s B : Int) (h : -1 ≤ s ∧ s ≤ B) (hB : 0 ≤ B) : ∀ k, -1 ≤ rowS f l i s k ∧ rowS f l i s k ≤ B + 200 * (k : Int)
  | 0 => by unfold rowS; omega
  | k + 1 => by
    have ih := rowS_in f hf l i s B h hB k
    have := hf (l.getD k 0) (l.getD i 0)
    unfold rowS addS
    split <;> omega
theorem costS_in (f : Int → Int → Int) (hf : ∀ a c, f a c ≤ 200) (l : List Int) : ∀ i, i ≤ 64 → -1 ≤ costS f l i ∧ costS f l i ≤ 12800 * (i : Int)
  | 0, _ => by unfold costS; omega
  | i + 1, h => by
    have ih := costS_in f hf l i (by omega)
    have := rowS_in f hf l i _ _ ih (by omega) i
    unfold costS
    omega
/-- the switch that is picked -/
def pickStep (M : List Nat) (D : List Int) (s : Nat) (m : Int) (best : Int) (k : Nat) : Int :=
  if 1 ≤ m ∧ m ≤ (lenS (s &&& M.getD k 0) : Int) ∧ (best < 0 ∨ D.getD best.toNat 0 < D.getD k 0 ∨ (D.getD k 0 = D.getD best.toNat 0 ∧ lenS (s &&& M.getD k 0) < lenS (s &&& M.getD best.toNat 0))) then (k : Int) else best
def pickS (M : List Nat) (D : List Int) (s : Nat) (m : Int) : Nat → Int
  | 0 => -1
  | k + 1 => pickStep M D s m (pickS M D s m k) k
theorem pickS_in (M : List Nat) (D : List Int) (s : Nat) (m : Int) : ∀ k, -1 ≤ pickS M D s m k ∧ pickS M D s m k < (k : Int)
  | 0 => ⟨by unfold pickS; omega, by unfold pickS; omega⟩
  | k + 1 => by
    have ih := pickS_in M D s m k
    unfold pickS pickStep
    split <;> omega
theorem pickS_is (M : List Nat) (D : List Int) (s : Nat) (m : Int) : ∀ n, 0 ≤ pickS M D s m n → 1 ≤ m ∧ m ≤ (lenS (s &&& M.getD (pickS M D s m n).toNat 0) : Int)
  | 0 => fun h => by unfold pickS at h; omega
  | n + 1 => by
    intro h
    unfold pickS pickStep at h ⊢
    split
    · rename_i hc
      exact ⟨hc.1, hc.2.1⟩
    · rename_i hc
      rw [if_neg hc] at h
      exact pickS_is M D s m n h
end Go.Proofs.YtmjkgnlmdcmdbaaDoor.Topo
