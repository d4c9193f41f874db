/- LockGoes' plain law: locks that are taken in one order leave somebody who can go on. No walk in this text. -/
import Derived.Test.YtplajmcjkddikaaPlays
namespace Go.Proofs.Ytplajmcjkddikaa.Lock
open Go.RowKit Go.Proofs.Ytplajmcjkddikaa.Rule
theorem nextS_ge (p q r : Bool) (k : Int) (h0 : 0 ≤ k) (h1 : k ≤ 3) : k ≤ nextS p q r k ∧ nextS p q r k ≤ 3 := by
  unfold nextS
  split
  · omega
  split
  · omega
  split <;> omega
/-- whoever owns a lock is behind it -/
def GInv (nx : List Int) (x y z : Int) : Prop :=
  (∀ j, j < nx.length → 0 ≤ nx.getD j 0 ∧ nx.getD j 0 ≤ 3) ∧ ∀ k : Int, 0 ≤ k → k < 3 → at3 x y z k = 0 ∨ ∃ j : Nat, j < nx.length ∧ at3 x y z k = (j : Int) + 1 ∧ k < nx.getD j 0
theorem ginv_new (nx : List Int) (h : ∀ j, j < nx.length → 0 ≤ nx.getD j 0 ∧ nx.getD j 0 ≤ 3) : GInv nx 0 0 0 :=
  ⟨h, fun k _ _ => .inl (by unfold at3; split <;> (try rfl); split <;> (try rfl); split <;> rfl)⟩
theorem ginv_goes (nx : List Int) (x y z : Int) (h : GInv nx x y z) (hn : 0 < nx.length) : ∃ j, j < nx.length ∧ (3 ≤ nx.getD j 0 ∨ at3 x y z (nx.getD j 0) = 0) := by
  apply Classical.byContradiction
  intro hc
  have key : ∀ j, j < nx.length → nx.getD j 0 < 3 ∧ ∃ m, m < nx.length ∧ nx.getD j 0 < nx.getD m 0 := by
    intro j hj
    have h3 : nx.getD j 0 < 3 := by
      apply Classical.byContradiction
      intro h3
      exact hc ⟨j, hj, .inl (by omega)⟩
    refine ⟨h3, ?_⟩
    rcases h.2 (nx.getD j 0) (h.1 j hj).1 h3 with h0 | ⟨m, hm, _, hl⟩
    · exact absurd ⟨j, hj, .inr h0⟩ hc
    · exact ⟨m, hm, hl⟩
  obtain ⟨a0, j1, b1, c1⟩ := key 0 hn
  obtain ⟨a1, j2, b2, c2⟩ := key j1 b1
  obtain ⟨a2, j3, b3, c3⟩ := key j2 b2
  obtain ⟨a3, _⟩ := key j3 b3
  have z0 := (h.1 0 hn).1
  omega
theorem ginv_step (nx : List Int) (x y z : Int) (h : GInv nx x y z) (j : Nat) (hj : j < nx.length) (hk : nx.getD j 0 < 3) (v : Int) (hv : nx.getD j 0 < v ∧ v ≤ 3) :
    GInv (nx.set j v) (put3 x y z (nx.getD j 0) ((j : Int) + 1)).1 (put3 x y z (nx.getD j 0) ((j : Int) + 1)).2.1 (put3 x y z (nx.getD j 0) ((j : Int) + 1)).2.2 := by
  have hg : ∀ m, (nx.set j v).getD m 0 = if m = j ∧ m < nx.length then v else nx.getD m 0 := by
    intro m
    rw [List.getD_eq_getElem?_getD, List.getD_eq_getElem?_getD, List.getElem?_set]
    by_cases hm : j = m
    · subst hm
      simp [hj]
    · rw [if_neg hm, if_neg (fun h => hm h.1.symm)]
  have hmono : ∀ m, m < nx.length → nx.getD m 0 ≤ (nx.set j v).getD m 0 := by
    intro m hm
    rw [hg]
    split
    · rename_i hh; rw [hh.1]; omega
    · omega
  have z0 := (h.1 j hj).1
  refine ⟨fun m hm => ?_, fun k k0 k3 => ?_⟩
  · rw [List.length_set] at hm
    rw [hg]
    split
    · omega
    · exact h.1 m hm
  · by_cases hkk : k = nx.getD j 0
    · right
      refine ⟨j, by rw [List.length_set]; exact hj, ?_, ?_⟩
      · rw [← hkk]
        rcases (by omega : k = 0 ∨ k = 1 ∨ k = 2) with e | e | e <;> simp [at3, put3, e]
      · rw [hg, if_pos ⟨rfl, hj⟩]; omega
    · have e : at3 (put3 x y z (nx.getD j 0) ((j : Int) + 1)).1 (put3 x y z (nx.getD j 0) ((j : Int) + 1)).2.1 (put3 x y z (nx.getD j 0) ((j : Int) + 1)).2.2 k = at3 x y z k := by
        generalize nx.getD j 0 = u at hkk z0 hk
        rcases (by omega : k = 0 ∨ k = 1 ∨ k = 2) with e | e | e <;> subst e <;> simp [at3, put3] <;> omega
      rw [e]
      rcases h.2 k k0 k3 with h0 | ⟨m, hm, e1, e2⟩
      · exact .inl h0
      · exact .inr ⟨m, by rw [List.length_set]; exact hm, e1, Int.lt_of_lt_of_le e2 (hmono m hm)⟩
end Go.Proofs.Ytplajmcjkddikaa.Lock
