/- The rule of those nearest to the middle, plain. -/
import Derived.Test.YtmjkgnlmdcmdbaaDoorPk4
namespace Go.Proofs.YtmjkgnlmdcmdbaaDoor.Pick
open Go.RowKit Go.Proofs.YtmjkgnlmdcmdbaaDoorW.PrintWords Go.Proofs.YtmjkgnlmdcmdbaaDoorW.PrintLast Go.Proofs.YtmjkgnlmdcmdbaaDoorW.PrintMore Go.Proofs.YtmjkgnlmdcmdbaaDoor.Row Go.Proofs.YtmjkgnlmdcmdbaaDoor.Sets
set_option linter.unusedVariables false
set_option linter.unusedSimpArgs false
def fd (m x : Nat) : Nat := (x - m) + (m - x)
def ltN (m a b : Nat) : Bool := decide (fd m a < fd m b ∨ fd m a = fd m b ∧ a < b)
def cntN (l : List Nat) (m x : Nat) : Nat := l.countP (fun y => ltN m y x)
def midN (l : List Nat) : Nat := l.getD ((l.length - 1) / 2) 0
def nearW (l : List Nat) (n : Int) : List Nat := l.filter (fun x => decide ((cntN l (midN l) x : Int) < n))
theorem ltN_irr (m a : Nat) : ltN m a a = false := by unfold ltN; rw [decide_eq_false]; omega
theorem ltN_asym (m a b : Nat) (h : ltN m a b = true) : ltN m b a = false := by
  unfold ltN at h ⊢
  have := of_decide_eq_true h
  rw [decide_eq_false]; omega
theorem countP_lt (p q : Nat → Bool) (x : Nat) : ∀ (l : List Nat), (∀ y ∈ l, p y = true → q y = true) → x ∈ l → q x = true → p x = false → l.countP p < l.countP q
  | [], _, hx, _, _ => by cases hx
  | y :: l, h, hx, h1, h2 => by
    have hm : l.countP p ≤ l.countP q := List.countP_mono_left fun z hz hp => h z (List.mem_cons_of_mem _ hz) hp
    rw [List.countP_cons, List.countP_cons]
    rcases List.mem_cons.1 hx with rfl | hx
    · rw [h1, h2]; simp; omega
    · have ih := countP_lt p q x l (fun z hz hp => h z (List.mem_cons_of_mem _ hz) hp) hx h1 h2
      have hy := h y List.mem_cons_self
      cases hp : p y
      · simp; split <;> omega
      · rw [hy hp]; simp; omega
theorem nodes_sub (s t : Nat) (h : ∀ i, i < 64 → t.testBit i = true → s.testBit i = true) : nodes t = (nodes s).filter (fun i => t.testBit i) := by
  unfold nodes
  rw [List.filter_filter]
  refine List.filter_congr fun i hi => ?_
  have hi : i < 64 := List.mem_range.1 hi
  cases ht : t.testBit i
  · rfl
  · rw [h i hi ht]; rfl
structure Cl (s t m j : Nat) : Prop where
  lt : t < 18446744073709551616
  sub : ∀ i, i < 64 → t.testBit i = true → s.testBit i = true
  len : lenS t = j
  cl : ∀ x ∈ nodes s, ∀ y ∈ nodes s, t.testBit x = true → t.testBit y = false → ltN m x y = true
theorem Cl.start (s m : Nat) : Cl s 0 m 0 := ⟨by decide, fun i _ h => (by rw [Nat.zero_testBit] at h; cases h), lenS_zero, fun x _ y _ h => (by rw [Nat.zero_testBit] at h; cases h)⟩
theorem Cl.count {s t m j : Nat} (h : Cl s t m j) : (nodes s).countP (fun i => t.testBit i) = j := by
  rw [← h.len, List.countP_eq_length_filter, ← nodes_sub s t h.sub]; rfl
theorem Cl.rank {s t m j : Nat} (h : Cl s t m j) (x : Nat) (hx : x ∈ nodes s) : t.testBit x = decide (cntN (nodes s) m x < j) := by
  have hc := h.count
  cases ht : t.testBit x
  · symm
    apply decide_eq_false
    have : (nodes s).countP (fun i => t.testBit i) ≤ cntN (nodes s) m x := List.countP_mono_left fun y hy hty => h.cl y hy x hx hty ht
    omega
  · symm
    apply decide_eq_true
    have : cntN (nodes s) m x < (nodes s).countP (fun i => t.testBit i) := countP_lt _ _ x _ (fun y hy hlt => by
      cases hty : t.testBit y
      · have h1 := h.cl x hx y hy ht hty
        have h2 := ltN_asym m x y h1
        rw [h2] at hlt; cases hlt
      · rfl) hx ht (ltN_irr m x)
    omega
theorem Cl.free {s t m j : Nat} (h : Cl s t m j) (hj : j < lenS s) : ∃ y, y ∈ nodes s ∧ t.testBit y = false := by
  apply Classical.byContradiction
  intro hn
  have hall : ∀ y ∈ nodes s, t.testBit y = true := fun y hy => by
    cases ht : t.testBit y
    · exact absurd ⟨y, hy, ht⟩ hn
    · rfl
  have hc := h.count
  rw [List.countP_eq_length.2 hall] at hc
  have : lenS s = (nodes s).length := rfl
  omega
theorem Cl.step {s t m j b : Nat} (h : Cl s t m j) (hb : b ∈ nodes s) (hf : t.testBit b = false) (hm : ∀ y ∈ nodes s, t.testBit y = false → b = y ∨ ltN m b y = true) : Cl s (withS t (b : Int)) m (j + 1) := by
  have hb64 := nodes_lt s b hb
  have e : withS t (b : Int) = Sets.mk (nodes t ++ [b]) := by rw [withS_at _ _ hb64, mk_snoc, mk_nodes t h.lt]
  have hnd : (nodes t ++ [b]).Nodup := List.nodup_append.2 ⟨nodes_nd t, by simp, fun x hx y hy exy => by
    rw [List.mem_singleton.1 hy] at exy
    subst exy
    have := ((mem_nodes t x).1 hx).2
    rw [hf] at this; cases this⟩
  have h64 : ∀ x ∈ nodes t ++ [b], x < 64 := fun x hx => by
    rcases List.mem_append.1 hx with hx | hx
    · exact nodes_lt t x hx
    · rw [List.mem_singleton.1 hx]; exact hb64
  have hbit : ∀ i, i < 64 → (withS t (b : Int)).testBit i = (t.testBit i || decide (i = b)) := fun i hi => by
    rw [withS_bit _ _ _ hi]
    congr 1
    exact decide_eq_decide.2 (by omega)
  refine ⟨withS_lt _ _ h.lt, fun i hi ht => ?_, by rw [e, lenS_mk _ h64 hnd, List.length_append, List.length_singleton]; have := h.len; unfold lenS at this; rw [this], fun x hx y hy h1 h2 => ?_⟩
  · rw [hbit i hi] at ht
    rcases Bool.or_eq_true_iff.1 ht with ht | ht
    · exact h.sub i hi ht
    · rw [of_decide_eq_true ht]; exact ((mem_nodes s b).1 hb).2
  · have hx64 := nodes_lt s x hx
    have hy64 := nodes_lt s y hy
    rw [hbit x hx64] at h1
    rw [hbit y hy64] at h2
    have hy0 : t.testBit y = false := by cases ht : t.testBit y; rfl; rw [ht] at h2; cases h2
    have hyb : y ≠ b := fun e => by rw [e] at h2; simp at h2
    rcases Bool.or_eq_true_iff.1 h1 with h1 | h1
    · exact h.cl x hx y hy h1 hy0
    · rw [of_decide_eq_true h1]
      exact (hm y hy hy0).resolve_left (fun e => hyb e.symm)
theorem near_is (s t : Nat) (n : Int) (h0 : 0 ≤ n) (h : Cl s t (midN (nodes s)) n.toNat) : t = mk (nearW (nodes s) n) ∧ (nearW (nodes s) n).Nodup ∧ (∀ x ∈ nearW (nodes s) n, x ∈ nodes s) ∧ (nearW (nodes s) n).length = n.toNat := by
  have e : nodes t = nearW (nodes s) n := by
    rw [nodes_sub s t h.sub]
    unfold nearW
    refine List.filter_congr fun x hx => ?_
    rw [h.rank x hx]
    exact decide_eq_decide.2 (by omega)
  refine ⟨by rw [← e, mk_nodes t h.lt], by rw [← e]; exact nodes_nd t, fun x hx => (List.mem_filter.1 hx).1, ?_⟩
  rw [← e]
  have := h.len
  unfold lenS at this
  exact this
end Go.Proofs.YtmjkgnlmdcmdbaaDoor.Pick
