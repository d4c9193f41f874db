/- SatMeets: clamping a number within any bounds and meeting any two stretches answer as the law's own reckoning; for every four int64. No condition. -/
import Derived.Test.YtamhkblebhnngaaPSatMeetsx1
namespace Go.Proofs.Ytamhkblebhnngaa.Pure
open Go.RowKit Go.Proofs.Ytamhkblebhnngaa.PSatMeets Go.Proofs.YtamhkblebhnngaaW.PrintWords Go.Proofs.YtamhkblebhnngaaW.PrintLast

theorem SatMeets_awake {k : Nat} (hk : 5 ≤ k) : berthagelaw02_awake.f k = some true :=
  at_rounds berthagelaw02_awake.mono hk (by decide +kernel)

theorem SatMeets_j4 (a b c d x y : Int) (hx : x = if c > a then c else a) (hy : y = if d < b then d else b) : berthagelaw02_SatMeets.j4 6 a b c d x y = some true := by
  have h1 : mx a c = x := by unfold mx; rw [hx]
  have h2 : mn b d = y := by unfold mn; rw [hy]
  simp only [berthagelaw02_SatMeets.j4, sat_Meet.f, h1, h2, SatMeets_awake (Nat.le_refl 5)]
  by_cases h : x ≥ y <;> simp [h]

theorem SatMeets_j2 (a b c d w : Int) (hw : w = if a < b ∨ c < b then b else if a > c then c else a) : berthagelaw02_SatMeets.j2 8 a b c d w = some true := by
  have h1 : mx (mn a (mx b c)) b = w := by
    rw [hw]; unfold mx mn
    split <;> split <;> split <;> (try split) <;> (try split) <;> omega
  simp only [berthagelaw02_SatMeets.j2, sat_Clamp.f, h1, Option.bind_some, if_true, berthagelaw02_SatMeets.j3]
  by_cases h : c > a <;> by_cases h' : d < b <;> simp only [h, h', if_true, if_false] <;> exact SatMeets_j4 _ _ _ _ _ _ (by simp [h]) (by simp [h'])

theorem SatMeets_j0 (a b c d w : Int) (hw : w = if a > c then c else a) : berthagelaw02_SatMeets.j0 10 a b c d w = some true := by
  simp only [berthagelaw02_SatMeets.j0, berthagelaw02_SatMeets.j1]
  by_cases h : a < b
  · simp only [h, if_true]; exact SatMeets_j2 _ _ _ _ _ (by simp [h])
  · by_cases h' : c < b
    · simp only [h, h', if_true, if_false, decide_true]; exact SatMeets_j2 _ _ _ _ _ (by simp [h'])
    · simp only [h, h', if_false, decide_false, Bool.false_eq_true]; exact SatMeets_j2 _ _ _ _ _ (by rw [hw, if_neg (by omega : ¬ (a < b ∨ c < b))])

theorem SatMeets : berthagelaw02_SatMeets.Pure := by
  intro a b c d _ _ _ _
  refine ⟨10, ?_⟩
  unfold berthagelaw02_SatMeets.f
  by_cases h : a > c
  · rw [if_pos h]; exact SatMeets_j0 _ _ _ _ _ (by rw [if_pos h])
  · rw [if_neg h]; exact SatMeets_j0 _ _ _ _ _ (by rw [if_neg h])

end Go.Proofs.Ytamhkblebhnngaa.Pure
