/- Histories, plain: what the last event of a task was; when events may be a history. No walk in this text. -/
namespace Go.Proofs.Hist
section
variable (st kd tk : Nat → Int)
/-- the last kind, of 1 to 3, of a task's events ahead of n -/
def lastK : Nat → Int → Int
  | 0, _ => 0
  | n + 1, t => if tk n = t ∧ 1 ≤ kd n ∧ kd n ≤ 3 then kd n else lastK n t
theorem lastK_range (n : Nat) (t : Int) : 0 ≤ lastK kd tk n t ∧ lastK kd tk n t ≤ 3 := by
  induction n with
  | zero => simp [lastK]
  | succ n ih => rw [lastK]; split <;> omega
/-- the step ahead of n; 0 for the first -/
def before : Nat → Int
  | 0 => 0
  | n + 1 => st n
/-- an event fits behind those ahead of it -/
def okAt (i : Nat) : Bool := decide (1 ≤ kd i) && decide (kd i ≤ 5) && decide (before st i ≤ st i) && (decide (3 < kd i) || decide (kd i = lastK kd tk i (tk i) + 1))
def okTo : Nat → Bool
  | 0 => true
  | n + 1 => okTo n && okAt st kd tk n
theorem okTo_false (n m : Nat) (h : okTo st kd tk n = false) (hm : n ≤ m) : okTo st kd tk m = false := by
  induction m with
  | zero => obtain rfl : n = 0 := by omega
            exact h
  | succ m ih =>
    by_cases e : n = m + 1
    · subst e; exact h
    · rw [okTo, ih (by omega)]; rfl
theorem okTo_at (n i : Nat) (h : okAt st kd tk i = false) (hi : i < n) : okTo st kd tk n = false := okTo_false st kd tk (i + 1) n (by rw [okTo, h, Bool.and_false]) hi
end
end Go.Proofs.Hist
