/- SatSums: the sum of any numbers, held each time, and the least of them, of every slice of int64 (the law reads its first 50). No condition. -/
import Derived.Test.YtplajmcjkddikaaSat
import Derived.Test.YtplajmcjkddikaaOpen
import Derived.Deep.DeepCutAuto
import Derived.Deep.CutBlock
namespace Go.Proofs.Ytplajmcjkddikaa.Sat
open Go.RowKit Go.Proofs.YtplajmcjkddikaaW.PrintWords Go.Proofs.YtplajmcjkddikaaW.PrintLast Go.Proofs.YtplajmcjkddikaaW.PrintMore Go.Proofs.Ytplajmcjkddikaa.PSatSums Go.Proofs.Ytplajmcjkddikaa.Open
attribute [local go_sem] max2_int min2_int max_two min_two
set_option linter.unusedVariables false

def addStep (s v : Int) : Int := if s + holdS v > 1152921504606846976 then 1152921504606846976 else s + holdS v
def sumS (xs : List Int) : Int := xs.foldl addStep 0
def minStep (m v : Int) : Int := if v < m then v else m
def minS (xs : List Int) : Int := xs.foldl minStep 1152921504606846976
theorem addStep_bd (s v : Int) (h : 0 ≤ s ∧ s ≤ 1152921504606846976) : 0 ≤ addStep s v ∧ addStep s v ≤ 1152921504606846976 ∧ s ≤ addStep s v ∧ holdS v ≤ addStep s v := by
  have := holdS_bd v
  unfold addStep; split <;> omega
theorem take_snoc (xs : List Int) (k : Nat) (h : k < xs.length) : xs.take (k + 1) = xs.take k ++ [xs.getD k 0] := by
  rw [List.take_succ_eq_append_getElem h, List.getD_eq_getElem?_getD, List.getElem?_eq_getElem h]; rfl
theorem sumS_snoc (xs : List Int) (k : Nat) (h : k < xs.length) : sumS (xs.take (k + 1)) = addStep (sumS (xs.take k)) (xs.getD k 0) := by
  unfold sumS; rw [take_snoc xs k h, List.foldl_append]; rfl
theorem minS_snoc (xs : List Int) (k : Nat) (h : k < xs.length) : minS (xs.take (k + 1)) = minStep (minS (xs.take k)) (xs.getD k 0) := by
  unfold minS; rw [take_snoc xs k h, List.foldl_append]; rfl
theorem sumS_bd (xs : List Int) : ∀ k, k ≤ xs.length → 0 ≤ sumS (xs.take k) ∧ sumS (xs.take k) ≤ 1152921504606846976
  | 0, _ => by simp [sumS]
  | k + 1, h => by rw [sumS_snoc xs k h]; have := addStep_bd _ (xs.getD k 0) (sumS_bd xs k (by omega)); omega
theorem sumS_ge (xs : List Int) (i : Nat) (hi : i < xs.length) : ∀ k, i < k → k ≤ xs.length → holdS (xs.getD i 0) ≤ sumS (xs.take k)
  | 0, h, _ => by omega
  | k + 1, h, hk => by
    rw [sumS_snoc xs k hk]
    have hb := addStep_bd _ (xs.getD k 0) (sumS_bd xs k (by omega))
    rcases Nat.lt_or_eq_of_le (Nat.le_of_lt_succ h) with h' | rfl
    · have := sumS_ge xs i hi k h' (by omega); omega
    · exact hb.2.2.2
theorem sumS_all (xs : List Int) : 0 ≤ sumS xs ∧ sumS xs ≤ 1152921504606846976 := by
  have := sumS_bd xs xs.length (Nat.le_refl _); rwa [List.take_length] at this

theorem add_l0 (xs : List Int) (hm : xs.length ≤ 4611686018427387904) : ∀ (d k i : Nat), xs.length - i = d → i ≤ xs.length → d < k → sat_Add.l0 k (sumS (xs.take i)) xs (xs.length : Int) (i : Int) = some (sumS xs) := by
  intro d
  induction d with
  | zero =>
    intro k i h hi hk
    obtain ⟨k, rfl⟩ : ∃ m, k = m + 1 := ⟨k - 1, by omega⟩
    obtain rfl : i = xs.length := by omega
    simp only [sat_Add.l0]
    rw [if_neg (by omega), List.take_length]
  | succ d ih =>
    intro k i h hi hk
    obtain ⟨k, rfl⟩ : ∃ m, k = m + 1 := ⟨k - 1, by omega⟩
    have hlt : i < xs.length := by omega
    simp only [sat_Add.l0]
    rw [if_pos (by omega), if_pos (by omega), if_pos (by omega)]
    have hb := sumS_bd xs i hi
    have hh := holdS_bd (xs.getD i 0)
    have e1 : mn (mx (rd xs (i : Int)) 0) 1152921504606846976 = holdS (xs.getD i 0) := by
      unfold rd; rw [Int.toNat_natCast]; unfold mn mx holdS; split <;> split <;> (try split) <;> omega
    have e2 : mn (wrap64 (sumS (xs.take i) + holdS (xs.getD i 0))) 1152921504606846976 = sumS (xs.take (i + 1)) := by
      rw [w64 (by omega), sumS_snoc xs i hlt]; rfl
    rw [e1, e2, w64 (x := (i : Int) + 1) (by omega)]
    have := ih k (i + 1) (by omega) (by omega) (by omega)
    rw [show ((i + 1 : Nat) : Int) = (i : Int) + 1 by omega] at this
    exact this

theorem add_any (xs : List Int) (A : Option Addr) (c : Nat) (w : World) (h : Kd.C (Kd.int .i64) w A xs.length xs) (hc : xs.length ≤ c) (hm : xs.length ≤ 4611686018427387904) :
    Calls Try.prog 26 #[.slice A xs.length c] w fun e w' => e = .returned (.int .i64 (sumS xs)) ∧ Below w.heap.size w w' := by
  refine sat_Add.calls (xs.length + 1) A c xs _ w h hc ?_
  have := add_l0 xs hm xs.length (xs.length + 1) 0 (by omega) (by omega) (by omega)
  unfold sat_Add.f
  simpa [sumS] using this

theorem least_l0 (xs : List Int) (hm : xs.length ≤ 4611686018427387904) : ∀ (d k i : Nat), xs.length - i = d → i ≤ xs.length → d < k → sat_Least.l0 k (minS (xs.take i)) xs (xs.length : Int) (i : Int) = some (minS xs) := by
  intro d
  induction d with
  | zero =>
    intro k i h hi hk
    obtain ⟨k, rfl⟩ : ∃ m, k = m + 1 := ⟨k - 1, by omega⟩
    obtain rfl : i = xs.length := by omega
    simp only [sat_Least.l0]
    rw [if_neg (by omega), List.take_length]
  | succ d ih =>
    intro k i h hi hk
    obtain ⟨k, rfl⟩ : ∃ m, k = m + 1 := ⟨k - 1, by omega⟩
    have hlt : i < xs.length := by omega
    simp only [sat_Least.l0]
    rw [if_pos (by omega), if_pos (by omega), if_pos (by omega)]
    have e1 : mn (minS (xs.take i)) (rd xs (i : Int)) = minS (xs.take (i + 1)) := by
      rw [minS_snoc xs i hlt]; unfold rd mn minStep; rw [Int.toNat_natCast]
    rw [e1, w64 (x := (i : Int) + 1) (by omega)]
    have := ih k (i + 1) (by omega) (by omega) (by omega)
    rw [show ((i + 1 : Nat) : Int) = (i : Int) + 1 by omega] at this
    exact this

theorem least_any (xs : List Int) (A : Option Addr) (c : Nat) (w : World) (h : Kd.C (Kd.int .i64) w A xs.length xs) (hc : xs.length ≤ c) (hm : xs.length ≤ 4611686018427387904) :
    Calls Try.prog 27 #[.slice A xs.length c] w fun e w' => e = .returned (.int .i64 (minS xs)) ∧ Below w.heap.size w w' := by
  refine sat_Least.calls (xs.length + 1) A c xs _ w h hc ?_
  have := least_l0 xs hm xs.length (xs.length + 1) 0 (by omega) (by omega) (by omega)
  unfold sat_Least.f
  simpa [minS] using this
end Go.Proofs.Ytplajmcjkddikaa.Sat
