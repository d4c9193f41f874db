/- Law 6: what is counted of a plain table. -/
import Derived.Test.YtmjkgnlmdcmdbaaDoorPlainN3
namespace Go.Proofs.YtmjkgnlmdcmdbaaDoor.Node
open Go.RowKit Go.Proofs.YtmjkgnlmdcmdbaaDoorW.PrintWords Go.Proofs.YtmjkgnlmdcmdbaaDoorW.PrintLast Go.Proofs.YtmjkgnlmdcmdbaaDoorW.PrintMore Go.Proofs.YtmjkgnlmdcmdbaaDoor.Row Go.Proofs.YtmjkgnlmdcmdbaaDoor.Sets
set_option linter.unusedVariables false
set_option linter.unusedSimpArgs false
set_option linter.unusedSectionVars false
def isV (l : List Int) (v : Int) (j : Nat) : Bool := decide (l.getD j 0 = v)
def cntL (l : List Int) (k : Nat) : List Int := (List.range 5).map fun (v : Nat) => ((rank (isV l (v : Int)) k : Nat) : Int)
theorem cnt_len (l : List Int) (k : Nat) : (cntL l k).length = 5 := by simp [cntL]
theorem cnt_get (l : List Int) (k v : Nat) (h : v < (cntL l k).length) : (cntL l k)[v] = ((rank (isV l (v : Int)) k : Nat) : Int) := by simp [cntL]
theorem cnt_zero (l : List Int) : cntL l 0 = [0, 0, 0, 0, 0] := by
  simp [cntL, rank, List.range, List.range.loop]
theorem cnt_step (l : List Int) (k v : Nat) (h : l.getD k 0 = (v : Int)) : (cntL l k).set v ((rank (isV l (v : Int)) k : Nat) + 1) = cntL l (k + 1) := by
  apply List.ext_getElem
  · rw [List.length_set, cnt_len, cnt_len]
  · intro j h1 h2
    rw [List.getElem_set, cnt_get l (k + 1), rank_succ]
    by_cases e : v = j
    · subst e
      rw [if_pos rfl]
      have : isV l (v : Int) k = true := by unfold isV; rw [h]; simp
      rw [if_pos this]
      push_cast
      rfl
    · rw [if_neg e, cnt_get]
      have : isV l (j : Int) k = false := by unfold isV; rw [h]; simp; omega
      rw [if_neg (by rw [this]; simp)]
      rfl
def idleL (l : List Int) (k : Nat) : List Int := Sets.nums ((List.range k).filter (isV l 1))
def usedL (l : List Int) (k : Nat) : List Int := Sets.nums ((List.range k).filter fun j => isV l 2 j || isV l 3 j)
theorem idle_yes (l : List Int) (k : Nat) (h : l.getD k 0 = 1) : idleL l (k + 1) = idleL l k ++ [(k : Int)] := by
  unfold idleL
  rw [List.range_succ, List.filter_append]
  simp only [List.getD_eq_getElem?_getD] at h
  simp [Sets.nums, isV, h]
theorem idle_no (l : List Int) (k : Nat) (h : l.getD k 0 ≠ 1) : idleL l (k + 1) = idleL l k := by
  unfold idleL
  rw [List.range_succ, List.filter_append]
  simp only [List.getD_eq_getElem?_getD] at h
  simp [Sets.nums, isV, h]
theorem used_yes (l : List Int) (k : Nat) (h : l.getD k 0 = 2 ∨ l.getD k 0 = 3) : usedL l (k + 1) = usedL l k ++ [(k : Int)] := by
  unfold usedL
  rw [List.range_succ, List.filter_append]
  simp only [List.getD_eq_getElem?_getD] at h
  simp [Sets.nums, isV, h]
theorem used_no (l : List Int) (k : Nat) (h : l.getD k 0 ≠ 2 ∧ l.getD k 0 ≠ 3) : usedL l (k + 1) = usedL l k := by
  unfold usedL
  rw [List.range_succ, List.filter_append]
  simp only [List.getD_eq_getElem?_getD] at h
  simp [Sets.nums, isV, h.1, h.2]
theorem idle_len (l : List Int) (k : Nat) : (idleL l k).length ≤ k := by
  unfold idleL Sets.nums
  rw [List.length_map]
  exact Nat.le_trans (List.length_filter_le _ _) (by simp)
theorem used_len (l : List Int) (k : Nat) : (usedL l k).length ≤ k := by
  unfold usedL Sets.nums
  rw [List.length_map]
  exact Nat.le_trans (List.length_filter_le _ _) (by simp)
theorem rank_or (p q r : Nat → Bool) (n : Nat) (h : ∀ j, j < n → r j = (p j || q j) ∧ (p j && q j) = false) : rank r n = rank p n + rank q n := by
  induction n with
  | zero => rfl
  | succ n ih =>
    rw [rank_succ, rank_succ, rank_succ, ih (fun j hj => h j (by omega))]
    obtain ⟨h1, h2⟩ := h n (by omega)
    rw [h1]
    cases hp : p n <;> cases hq : q n <;> rw [hp, hq] at h2 <;> simp at h2 ⊢ <;> omega
theorem st2_is (x y : Bool) : (decide (st2 x y = 1) = (!x && !y)) ∧ (decide (st2 x y = 2) = (x && !y)) ∧ (decide (st2 x y = 3) = (x && y)) ∧ (decide (st2 x y = 4) = (!x && y)) := by cases x <;> cases y <;> simp [st2]
theorem st2_in (x y : Bool) : st2 x y = 1 ∨ st2 x y = 2 ∨ st2 x y = 3 ∨ st2 x y = 4 := by cases x <;> cases y <;> simp [st2]
section
variable {N u d : Nat} {l : List Int} (hp : PI N u d l) (hN : N ≤ 64) (hu : u < 18446744073709551616) (hd : d < 18446744073709551616)
include hp hN hu hd
theorem idle_is : ofS (idleL l N) = idleS (allS N) u d := by
  unfold idleL
  rw [ofS_nums _ (fun i hi => by have := List.mem_range.1 (List.mem_filter.1 hi).1; omega)]
  refine eq_of_bits _ _ (mk_lt _ (fun i hi => by have := List.mem_range.1 (List.mem_filter.1 hi).1; omega)) (idleS_lt _ _ _ (allS_lt _)) fun i hi => ?_
  rw [mk_bit, idle_st N u d l hp hN hu hd i hi]
  have e : (i ∈ (List.range N).filter (isV l 1)) ↔ (i < N ∧ l.getD i 0 = 1) := by
    rw [List.mem_filter, List.mem_range]
    unfold isV
    rw [decide_eq_true_eq]
  rw [decide_eq_decide.2 e, Bool.decide_and]
theorem used_is : ofS (usedL l N) = u := by
  unfold usedL
  rw [ofS_nums _ (fun i hi => by have := List.mem_range.1 (List.mem_filter.1 hi).1; omega)]
  refine eq_of_bits _ _ (mk_lt _ (fun i hi => by have := List.mem_range.1 (List.mem_filter.1 hi).1; omega)) hu fun i hi => ?_
  rw [mk_bit]
  have e : (i ∈ (List.range N).filter fun j => isV l 2 j || isV l 3 j) ↔ (u.testBit i = true) := by
    rw [List.mem_filter, List.mem_range]
    by_cases hiN : i < N
    · have h1 := hp.st i hiN
      have h2 := st2_is (u.testBit i) (d.testBit i)
      unfold isV
      rw [h1, h2.2.1, h2.2.2.1]
      cases u.testBit i <;> cases d.testBit i <;> simp [hiN]
    · have := (hp.out i (by omega) hi).1
      rw [this]
      simp [hiN]
  rw [Bool.eq_iff_iff, decide_eq_true_eq]
  exact e
theorem cnt_idle : rank (isV l 1) N = lenS (idleS (allS N) u d) := by
  have e : lenS (idleS (allS N) u d) = rank (fun j => (idleS (allS N) u d).testBit j) 64 := rfl
  rw [e, rank_out (fun j => (idleS (allS N) u d).testBit j) N 64 hN (fun j h1 h2 => by show (idleS (allS N) u d).testBit j = false; rw [idle_st N u d l hp hN hu hd j h2, decide_eq_false (by omega)]; rfl)]
  refine rank_congr _ _ _ fun j hj => ?_
  rw [idle_st N u d l hp hN hu hd j (by omega), decide_eq_true hj]
  rfl
theorem cnt_used : rank (isV l 2) N + rank (isV l 3) N = lenS u := by
  have e : lenS u = rank (fun j => u.testBit j) 64 := rfl
  rw [e, rank_out (fun j => u.testBit j) N 64 hN (fun j h1 h2 => (hp.out j h1 h2).1)]
  refine (rank_or _ _ _ _ fun j hj => ?_).symm
  have h1 := hp.st j hj
  have h2 := st2_is (u.testBit j) (d.testBit j)
  unfold isV
  rw [h1, h2.2.1, h2.2.2.1]
  cases u.testBit j <;> cases d.testBit j <;> simp
theorem cnt_drain : rank (isV l 4) N = lenS (minus d u) := by
  have e : lenS (minus d u) = rank (fun j => (minus d u).testBit j) 64 := rfl
  rw [e, rank_out (fun j => (minus d u).testBit j) N 64 hN (fun j h1 h2 => by
    show (minus d u).testBit j = false
    rw [minus_bit d u j hu h2, (hp.out j h1 h2).2]; rfl)]
  refine rank_congr _ _ _ fun j hj => ?_
  rw [minus_bit d u j hu (by omega)]
  have h1 := hp.st j hj
  have h2 := st2_is (u.testBit j) (d.testBit j)
  unfold isV
  rw [h1, h2.2.2.2]
  cases u.testBit j <;> cases d.testBit j <;> rfl
theorem state_is (i : Nat) (hi : i < N) : stateS (allS N) u d (i : Int) = l.getD i 0 := by
  unfold stateS
  rw [hasS_at _ _ (by omega), hasS_at _ _ (by omega), hasS_at _ _ (by omega), allS_bit _ _ (by omega), hp.st i hi, decide_eq_true (by omega), if_pos rfl]
  rfl
end
theorem state_low (a u d : Nat) : stateS a u d (-1) = 0 := by
  unfold stateS
  rw [hasS_out a (-1) (by omega), if_neg (by simp)]
theorem state_high (N u d : Nat) (hN : N ≤ 64) : stateS (allS N) u d (N : Int) = 0 := by
  have h : hasS (allS N) (N : Int) = false := by
    by_cases h : N < 64
    · rw [hasS_at _ _ h, allS_bit _ _ h, decide_eq_false (by omega)]
    · exact hasS_out _ _ (by omega)
  unfold stateS
  rw [h, if_neg (by simp)]
end Go.Proofs.YtmjkgnlmdcmdbaaDoor.Node
