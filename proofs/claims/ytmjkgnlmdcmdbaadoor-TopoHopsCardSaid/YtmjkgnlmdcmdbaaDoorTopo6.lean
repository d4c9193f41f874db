/- Law 39: New upon any rows: what it leaves (plain). -/
import Derived.Test.YtmjkgnlmdcmdbaaDoorTopo5
namespace Go.Proofs.YtmjkgnlmdcmdbaaDoor.Topo
open Go.RowKit Go.Proofs.YtmjkgnlmdcmdbaaDoorW.PrintWords Go.Proofs.YtmjkgnlmdcmdbaaDoorW.PrintLast Go.Proofs.YtmjkgnlmdcmdbaaDoorW.PrintMore Go.Proofs.YtmjkgnlmdcmdbaaDoor.Row Go.Proofs.YtmjkgnlmdcmdbaaDoor.Sets Go.Proofs.YtmjkgnlmdcmdbaaDoor.Node
set_option linter.unusedVariables false
set_option linter.unusedSimpArgs false
set_option maxRecDepth 100000
section
variable (xs : List Int) (qs : List Nat)
/-- may switch k stand there? -/
def okAt (k : Nat) : Prop := (k = 0 ∧ xs.getD 0 0 = -1) ∨ (0 < k ∧ 0 ≤ xs.getD k 0 ∧ xs.getD k 0 < (k : Int))
instance (k : Nat) : Decidable (okAt xs k) := by unfold okAt; infer_instance
/-- the nodes of the first k -/
def allQ : Nat → Nat | 0 => 0 | k + 1 => allQ k ||| qs.getD k 0
/-- why there is no tree of the first k; 0: there is one -/
def stN : Nat → Int | 0 => 0 | k + 1 => if stN k ≠ 0 then stN k else if okAt xs k then (if qs.getD k 0 &&& allQ qs k = 0 then 0 else 13) else 5
def mlN : Nat → List Nat | 0 => [] | k + 1 => climb (xs.take (k + 1)) (qs.getD k 0) (k + 1) k (mlN k ++ [0])
def dlN : Nat → List Int | 0 => [] | k + 1 => dlN k ++ [if 0 ≤ xs.getD k 0 then (dlN k).getD (xs.getD k 0).toNat 0 + 1 else 0]
theorem mlN_len (k : Nat) : (mlN xs qs k).length = k := by
  induction k with
  | zero => rfl
  | succ k ih => unfold mlN; rw [climb_len, List.length_append, ih]; rfl
theorem dlN_len (k : Nat) : (dlN xs k).length = k := by
  induction k with
  | zero => rfl
  | succ k ih => unfold dlN; rw [List.length_append, ih]; rfl
theorem allQ_lt (hq : ∀ i, qs.getD i 0 < 18446744073709551616) (k : Nat) : allQ qs k < 18446744073709551616 := by
  induction k with
  | zero => exact (by decide : (0 : Nat) < 18446744073709551616)
  | succ k ih => exact or_lt _ _ ih (hq k)
theorem climb_lt (A : List Int) (q : Nat) (hq : q < 18446744073709551616) : ∀ (f : Nat) (k : Int) (M : List Nat), (∀ i, M.getD i 0 < 18446744073709551616) → ∀ i, (climb A q f k M).getD i 0 < 18446744073709551616
  | 0, _, _, h => h
  | f + 1, k, M, h => by
    unfold climb
    split
    · exact h
    · refine climb_lt A q hq f _ _ (fun i => ?_)
      rw [List.getD_eq_getElem?_getD, List.getElem?_set]
      split
      · split
        · exact or_lt _ _ (h _) hq
        · exact (by decide : (0 : Nat) < 18446744073709551616)
      · rw [← List.getD_eq_getElem?_getD]; exact h i
theorem mlN_lt (hq : ∀ i, qs.getD i 0 < 18446744073709551616) (k : Nat) : ∀ i, (mlN xs qs k).getD i 0 < 18446744073709551616 := by
  induction k with
  | zero => intro i; exact (by simp [mlN])
  | succ k ih =>
    unfold mlN
    refine climb_lt _ _ (hq k) _ _ _ (fun i => ?_)
    rw [List.getD_eq_getElem?_getD, List.getElem?_append]
    split
    · rw [← List.getD_eq_getElem?_getD]; exact ih i
    · cases hx : i - (mlN xs qs k).length with
      | zero => exact (by decide : (0 : Nat) < 18446744073709551616)
      | succ x => exact (by decide : (0 : Nat) < 18446744073709551616)
theorem okAt_in (k : Nat) (h : okAt xs k) : -1 ≤ xs.getD k 0 ∧ xs.getD k 0 < (k : Int) := by
  rcases h with ⟨rfl, h⟩ | ⟨h0, h1, h2⟩
  · rw [h]; omega
  · omega
theorem stN_ok (k : Nat) (h : stN xs qs k = 0) : ∀ i, i < k → okAt xs i := by
  induction k with
  | zero => intro i hi; omega
  | succ k ih =>
    unfold stN at h
    by_cases h1 : stN xs qs k = 0
    · rw [if_neg (by simp [h1])] at h
      by_cases h2 : okAt xs k
      · intro i hi
        by_cases e : i = k
        · rw [e]; exact h2
        · exact ih h1 i (by omega)
      · rw [if_neg h2] at h; cases h
    · rw [if_pos h1] at h; exact absurd h h1
end
theorem stN_succ (xs : List Int) (qs : List Nat) (k : Nat) : stN xs qs (k + 1) = if stN xs qs k ≠ 0 then stN xs qs k else if okAt xs k then (if qs.getD k 0 &&& allQ qs k = 0 then 0 else 13) else 5 := rfl
theorem stN_stays (xs : List Int) (qs : List Nat) (k n : Nat) (hk : k ≤ n) (h : stN xs qs k ≠ 0) : stN xs qs n = stN xs qs k := by
  induction n with
  | zero => rw [show k = 0 by omega]
  | succ n ih =>
    by_cases e : k = n + 1
    · rw [e]
    · have := ih (by omega)
      rw [stN_succ, if_pos (by rw [this]; exact h), this]
/-- switches that came in -/
def SwRow (w : World) (A : Option Addr) (n : Nat) (xs : List Int) (qs : List Nat) : Prop := ∀ i, i < n → ∃ ad, A = some ad ∧ w.cell? (ad.add (i * 2)) = some (.int .i64 (xs.getD i 0)) ∧ w.cell? ⟨(ad.add (i * 2)).block, (ad.add (i * 2)).off + 1, none⟩ = some (.int .u64 (qs.getD i 0 : Nat))
theorem SwRow.below {w w' : World} {A : Option Addr} {n : Nat} {xs : List Int} {qs : List Nat} (h : SwRow w A n xs qs) (hb : Below w.heap.size w w') : SwRow w' A n xs qs := fun i hi => by
  obtain ⟨ad, ha, h1, h2⟩ := h i hi
  exact ⟨ad, ha, (hb.cell (World.block_lt_of_cell? w _ h1)).trans h1, (hb.cell (World.block_lt_of_cell? w _ h2)).trans h2⟩
def NewPost (w : World) (n : Nat) (xs : List Int) (qs : List Nat) (e : Ending) (w' : World) : Prop :=
  Below w.heap.size w w' ∧ ((stN xs qs n ≠ 0 ∧ e = .returned (.tuple #[.pointer none, .int .i64 (stN xs qs n)])) ∨ (stN xs qs n = 0 ∧ ∃ b va vm vd, w.heap.size ≤ b ∧ e = .returned (.tuple #[.pointer (some ⟨b, 0, none⟩), .int .i64 0]) ∧ TT w' b va vm vd (xs.take n) (mlN xs qs n) (dlN xs n)))
theorem New_out (A : Option Addr) (n c : Nat) (w : World) (h : n < 1 ∨ 64 < n) : Calls Tryd.prog 75 #[.slice A n c] w fun e w' => e = .returned (.tuple #[.pointer none, .int .i64 1]) ∧ w = w' := by
  rcases (by omega : n = 0 ∨ (1 ≤ n ∧ 64 < n)) with rfl | ⟨h1, h2⟩
  · clear h
    go_enter Tryd.func75, Tryd.ntmps75
    go_wp2; go_ret2; exact ⟨rfl, rfl⟩
  · have b1 : decide ((n : Int) < 1) = false := decide_eq_false (by omega)
    have b2 : decide (64 < (n : Int)) = true := decide_eq_true (by omega)
    clear h
    go_enter Tryd.func75, Tryd.ntmps75
    go_wp2; go_ret2; exact ⟨rfl, rfl⟩
theorem put_next (xs : List Int) (qs : List Nat) (n i b : Nat) (hi : i < n) (hn : n ≤ 64) (hx : xs.length = n) (hq : ∀ i, qs.getD i 0 < 18446744073709551616) (hd : ∀ j, j < i → 0 ≤ (dlN xs i).getD j 0 ∧ (dlN xs i).getD j 0 ≤ j) (hst : stN xs qs i = 0) (hok : okAt xs i) (va vm vd : Value) (w0 w : World) (h : TT w b va vm vd (xs.take i) (mlN xs qs i) (dlN xs i)) (hB : Below w0.heap.size w0 w) (hb : w0.heap.size ≤ b) :
    Calls Tryd.prog 108 #[.pointer (some ⟨b, 0, none⟩), .agg #[.int .i64 (xs.getD i 0), .int .u64 (qs.getD i 0 : Nat)]] w (PutPost w0 b (xs.take (i + 1)) (mlN xs qs (i + 1)) (dlN xs (i + 1))) := by
  have e : xs.take (i + 1) = xs.take i ++ [xs.getD i 0] := by
    rw [List.take_succ_eq_append_getElem (by omega), List.getD_eq_getElem?_getD, List.getElem?_eq_getElem (by omega)]
    rfl
  have hp := put_any b i va vm vd (xs.take i) (dlN xs i) (mlN xs qs i) (xs.getD i 0) (qs.getD i 0) w0 w h hB hb (by rw [List.length_take]; omega) (mlN_len xs qs i) (dlN_len xs i) (by omega) (okAt_in xs i hok)
    (fun j hj => by
      have := okAt_in xs j (stN_ok xs qs i hst j hj)
      rw [List.getD_eq_getElem?_getD, List.getElem?_take, if_pos hj, ← List.getD_eq_getElem?_getD]
      exact this) hd (mlN_lt xs qs hq i) (hq i)
  rw [← e] at hp
  exact hp
theorem dlN_in (xs : List Int) (qs : List Nat) (k : Nat) (hst : ∀ i, i < k → okAt xs i) : ∀ j, j < k → 0 ≤ (dlN xs k).getD j 0 ∧ (dlN xs k).getD j 0 ≤ j := by
  induction k with
  | zero => intro j hj; omega
  | succ k ih =>
    have ih := ih (fun i hi => hst i (by omega))
    intro j hj
    unfold dlN
    rw [List.getD_eq_getElem?_getD, List.getElem?_append, dlN_len]
    by_cases e : j < k
    · rw [if_pos e, ← List.getD_eq_getElem?_getD]; exact ih j e
    · have ej : j = k := by omega
      subst ej
      rw [if_neg e, Nat.sub_self]
      show 0 ≤ (if 0 ≤ xs.getD j 0 then (dlN xs j).getD (xs.getD j 0).toNat 0 + 1 else 0) ∧ (if 0 ≤ xs.getD j 0 then (dlN xs j).getD (xs.getD j 0).toNat 0 + 1 else 0) ≤ (j : Int)
      by_cases h0 : 0 ≤ xs.getD j 0
      · rw [if_pos h0]
        have hin := okAt_in xs j (hst j (by omega))
        have := ih (xs.getD j 0).toNat (by omega)
        omega
      · rw [if_neg h0]; omega
end Go.Proofs.YtmjkgnlmdcmdbaaDoor.Topo
