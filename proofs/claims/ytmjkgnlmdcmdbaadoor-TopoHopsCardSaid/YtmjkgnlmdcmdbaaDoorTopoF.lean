/- Law 39: switches that came in, as two lists. -/
import Derived.Test.YtmjkgnlmdcmdbaaDoorTopo6
import Derived.Test.YtmjkgnlmdcmdbaaDoorFlat
namespace Go.Proofs.YtmjkgnlmdcmdbaaDoor.Topo
open Go.RowKit Go.WideShapes Go.Proofs.YtmjkgnlmdcmdbaaDoor.Flat Go.Proofs.YtmjkgnlmdcmdbaaDoorW.PrintWords Go.Proofs.YtmjkgnlmdcmdbaaDoorW.PrintLast Go.Proofs.YtmjkgnlmdcmdbaaDoorW.PrintMore Go.Proofs.YtmjkgnlmdcmdbaaDoor.Row Go.Proofs.YtmjkgnlmdcmdbaaDoor.Sets Go.Proofs.YtmjkgnlmdcmdbaaDoor.Node
set_option linter.unusedVariables false
set_option linter.unusedSimpArgs false
theorem flatSw1 {w : World} {A : Option Addr} {n : Nat} {z : List (List Value)} (h : FlatRow w A n [.int .i64, .int .u64] z) (i : Nat) (hi : i < n) :
    ∃ ad a c, A = some ad ∧ w.cell? (ad.add (i * 2 + 0)) = some (.int .i64 a) ∧ w.cell? (ad.add (i * 2 + 1)) = some (.int .u64 c) ∧ (Lit.int .u64 c).wf = true := by
  obtain ⟨h1, h2, h3⟩ := h
  obtain ⟨ad, rfl, h4⟩ := h3 (by omega)
  have hz : z[i]? = some z[i] := List.getElem?_eq_getElem (by omega)
  obtain ⟨c0, d0, e0, l0, m0⟩ := (h2 i _ hz).cons
  obtain ⟨c1, d1, e1, l1, m1⟩ := m0.cons
  obtain rfl := m1.nil
  obtain ⟨a, rfl, -⟩ := l0
  obtain ⟨b, rfl, hw⟩ := l1
  subst e1
  rw [e0] at hz
  exact ⟨ad, a, b, rfl, h4 i _ hz 0 _ rfl, h4 i _ hz 1 _ rfl, hw⟩
theorem add_more (ad : Addr) (n : Nat) : ad.add (n + 1) = ⟨(ad.add n).block, (ad.add n).off + 1, none⟩ := by
  unfold Addr.add
  by_cases h : n = 0
  · subst h; simp
  · simp [h]; omega
theorem snoc_old {α : Type} (l : List α) (x d : α) (i : Nat) (h : i < l.length) : (l ++ [x]).getD i d = l.getD i d := by
  rw [List.getD_eq_getElem?_getD, List.getElem?_append, if_pos h, ← List.getD_eq_getElem?_getD]
theorem snoc_new {α : Type} (l : List α) (x d : α) : (l ++ [x]).getD l.length d = x := by
  rw [List.getD_eq_getElem?_getD, List.getElem?_append, if_neg (by omega), Nat.sub_self]
  rfl
theorem flatSw {w : World} {A : Option Addr} {n : Nat} {z : List (List Value)} (h : FlatRow w A n [.int .i64, .int .u64] z) (m : Nat) (hm : m ≤ n) :
    ∃ (xs : List Int) (qs : List Nat), xs.length = m ∧ qs.length = m ∧ (∀ i, qs.getD i 0 < 18446744073709551616) ∧ SwRow w A m xs qs := by
  induction m with
  | zero => exact ⟨[], [], rfl, rfl, fun i => by simp, fun i hi => absurd hi (by omega)⟩
  | succ m ih =>
    obtain ⟨xs, qs, hx, hq, hb, hs⟩ := ih (by omega)
    obtain ⟨ad, a, c, rfl, h0, h1, hw⟩ := flatSw1 h m (by omega)
    obtain ⟨s, rfl, hs1⟩ := u64_out c hw
    refine ⟨xs ++ [a], qs ++ [s], by simp [hx], by simp [hq], fun i => ?_, fun i hi => ?_⟩
    · rw [List.getD_eq_getElem?_getD, List.getElem?_append]
      by_cases hik : i < qs.length
      · rw [if_pos hik, ← List.getD_eq_getElem?_getD]; exact hb i
      · rw [if_neg hik]
        cases hx : i - qs.length with
        | zero => exact hs1
        | succ x => exact (by decide : (0 : Nat) < 18446744073709551616)
    · by_cases e : i = m
      · subst e
        refine ⟨ad, rfl, ?_, ?_⟩
        · rw [show (xs ++ [a]).getD i 0 = a by rw [← hx]; exact snoc_new xs a 0]; exact h0
        · rw [show (qs ++ [s]).getD i 0 = s by rw [← hq]; exact snoc_new qs s 0, ← add_more]; exact h1
      · obtain ⟨ad2, e2, t0, t1⟩ := hs i (by omega)
        refine ⟨ad2, e2, ?_, ?_⟩
        · rw [snoc_old xs a 0 i (by omega)]; exact t0
        · rw [snoc_old qs s 0 i (by omega)]; exact t1
end Go.Proofs.YtmjkgnlmdcmdbaaDoor.Topo
