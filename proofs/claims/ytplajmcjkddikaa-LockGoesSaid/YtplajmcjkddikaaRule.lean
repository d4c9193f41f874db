/- Package rule, by hand walks: locks' lanes, what each kind needs. -/
import Derived.Test.YtplajmcjkddikaaProg
import Derived.Test.YtplajmcjkddikaaWMore
import Derived.WalkKit
import Derived.WalkSpells
import Derived.WalkLawsBesides
import Derived.KernelRfl
import Derived.Outline
import Derived.IntWalk
import Derived.Handy
namespace Go.Proofs.Ytplajmcjkddikaa.Rule
open Go.RowKit Go.Proofs.YtplajmcjkddikaaW.PrintWords Go.Proofs.YtplajmcjkddikaaW.PrintMore
attribute [local go_sem] max2_int min2_int max_two min_two
set_option linter.unusedVariables false

/-- three bools in a block of the call's own -/
structure Box3 (w : World) (b : Nat) (x y z : Bool) : Prop where
  c0 : w.cell? ⟨b, 0, none⟩ = some (.bool x)
  c1 : w.cell? ⟨b, 1, none⟩ = some (.bool y)
  c2 : w.cell? ⟨b, 2, none⟩ = some (.bool z)
  f0 : w.frozen? ⟨b, 0, none⟩ = false
  f1 : w.frozen? ⟨b, 1, none⟩ = false
  f2 : w.frozen? ⟨b, 2, none⟩ = false
theorem Box3.below {w w' : World} {b B : Nat} {x y z : Bool} (h : Box3 w b x y z) (hb : Below B w w') (hl : b < B) : Box3 w' b x y z :=
  ⟨(hb.cell (p := ⟨b, 0, none⟩) hl).trans h.c0, (hb.cell (p := ⟨b, 1, none⟩) hl).trans h.c1, (hb.cell (p := ⟨b, 2, none⟩) hl).trans h.c2,
   (hb.frozen (p := ⟨b, 0, none⟩) hl).trans h.f0, (hb.frozen (p := ⟨b, 1, none⟩) hl).trans h.f1, (hb.frozen (p := ⟨b, 2, none⟩) hl).trans h.f2⟩
theorem Box3.new (w : World) (x y z : Bool) (t : TypeId) : Box3 (w.alloc (.cells #[.bool x, .bool y, .bool z] t)) w.heap.size x y z :=
  ⟨by go_cell, by go_cell, by go_cell, by simp [go_sem], by simp [go_sem], by simp [go_sem]⟩
theorem Box3.lt {w : World} {b : Nat} {x y z : Bool} (h : Box3 w b x y z) : b < w.heap.size := World.block_lt_of_cell? w _ h.c0
theorem Box3.alloc {w : World} {b : Nat} {x y z : Bool} (h : Box3 w b x y z) (o : Obj) : Box3 (w.alloc o) b x y z := h.below ((Below.refl w.heap.size w).alloc (Nat.le_refl _) o) h.lt

abbrev lane (p q r : Bool) : Value := .agg #[.bool p, .bool q, .bool r]
theorem ret_i {k : IntKind} {a b : Int} (h : a = b) : Ending.returned (.int k a) = .returned (.int k b) := by rw [h]
theorem ret_v {a b : Value} (h : a = b) : Ending.returned a = .returned b := by rw [h]
theorem of02 (b : Nat) (w : World) (c0 : w.cell? ⟨b, 0, none⟩ = some (.int .i64 0)) (c1 : w.cell? ⟨b, 1, none⟩ = some (.int .i64 2)) : Calls Try.prog 102 #[.slice (some ⟨b, 0, none⟩) 2 2] w fun e w' => e = .returned (lane true false true) ∧ Below w.heap.size w w' := by
  go_enter Try.func102, Try.ntmps102
  have hb := World.block_lt_of_cell? w _ c0
  go_wp2
  go_rounds 3
  go_returns
  exact ⟨rfl, by go_grown⟩
theorem of012 (b : Nat) (w : World) (c0 : w.cell? ⟨b, 0, none⟩ = some (.int .i64 0)) (c1 : w.cell? ⟨b, 1, none⟩ = some (.int .i64 1)) (c2 : w.cell? ⟨b, 2, none⟩ = some (.int .i64 2)) : Calls Try.prog 102 #[.slice (some ⟨b, 0, none⟩) 3 3] w fun e w' => e = .returned (lane true true true) ∧ Below w.heap.size w w' := by
  go_enter Try.func102, Try.ntmps102
  have hb := World.block_lt_of_cell? w _ c0
  go_wp2
  go_rounds 4
  go_returns
  exact ⟨rfl, by go_grown⟩
theorem of0 (b : Nat) (w : World) (c0 : w.cell? ⟨b, 0, none⟩ = some (.int .i64 0)) : Calls Try.prog 102 #[.slice (some ⟨b, 0, none⟩) 1 1] w fun e w' => e = .returned (lane true false false) ∧ Below w.heap.size w w' := by
  go_enter Try.func102, Try.ntmps102
  have hb := World.block_lt_of_cell? w _ c0
  go_wp2
  go_rounds 2
  go_returns
  exact ⟨rfl, by go_grown⟩
theorem of1 (b : Nat) (w : World) (c0 : w.cell? ⟨b, 0, none⟩ = some (.int .i64 1)) : Calls Try.prog 102 #[.slice (some ⟨b, 0, none⟩) 1 1] w fun e w' => e = .returned (lane false true false) ∧ Below w.heap.size w w' := by
  go_enter Try.func102, Try.ntmps102
  have hb := World.block_lt_of_cell? w _ c0
  go_wp2
  go_rounds 2
  go_returns
  exact ⟨rfl, by go_grown⟩
theorem of2 (b : Nat) (w : World) (c0 : w.cell? ⟨b, 0, none⟩ = some (.int .i64 2)) : Calls Try.prog 102 #[.slice (some ⟨b, 0, none⟩) 1 1] w fun e w' => e = .returned (lane false false true) ∧ Below w.heap.size w w' := by
  go_enter Try.func102, Try.ntmps102
  have hb := World.block_lt_of_cell? w _ c0
  go_wp2
  go_rounds 2
  go_returns
  exact ⟨rfl, by go_grown⟩

theorem every_any (w : World) : Calls Try.prog 58 #[] w fun e w' => e = .returned (lane true true true) ∧ Below w.heap.size w w' := by
  go_enter Try.func58, Try.ntmps58
  go_wp2_with (first
    | (go_at_call 102; refine (of012 _ _ (by go_cell) (by go_cell) (by go_cell)).mono ?_; rintro e w1 ⟨rfl, hb1⟩; obtain ⟨k0, k1, k2, g0, g1, g2⟩ := ((Box3.new w false false false 57).alloc _).below hb1 (by go_size)))
  refine bodyPost_ret (v := lane true true true) (by simp [results, Try.results58, go_sem, k0, k1, k2]) rfl ⟨rfl, ?_⟩
  exact (((below_step (by go_grown) hb1).setCell (Nat.le_refl _) _).setCell (Nat.le_refl _) _).setCell (Nat.le_refl _) _

/-- what a kind needs -/
def nd (k : Int) : Bool × Bool × Bool :=
  if k = 1 ∨ k = 3 ∨ k = 4 then (true, false, true) else if k = 2 ∨ k = 5 ∨ k = 7 ∨ k = 8 ∨ k = 9 then (true, true, true)
  else if k = 6 ∨ k = 11 then (true, false, false) else if k = 10 then (false, true, false) else if k = 12 then (false, false, true) else (false, false, false)
def ndV (k : Int) : Value := lane (nd k).1 (nd k).2.1 (nd k).2.2
theorem ndV_out (k : Int) (h : k < 1 ∨ 12 < k) : ndV k = lane false false false := by
  unfold ndV nd; rw [if_neg (by omega), if_neg (by omega), if_neg (by omega), if_neg (by omega), if_neg (by omega)]
theorem ndV_1 : ndV 1 = lane true false true := by simp [ndV, nd]
theorem ndV_2 : ndV 2 = lane true true true := by simp [ndV, nd]
theorem ndV_3 : ndV 3 = lane true false true := by simp [ndV, nd]
theorem ndV_4 : ndV 4 = lane true false true := by simp [ndV, nd]
theorem ndV_5 : ndV 5 = lane true true true := by simp [ndV, nd]
theorem ndV_6 : ndV 6 = lane true false false := by simp [ndV, nd]
theorem ndV_7 : ndV 7 = lane true true true := by simp [ndV, nd]
theorem ndV_8 : ndV 8 = lane true true true := by simp [ndV, nd]
theorem ndV_9 : ndV 9 = lane true true true := by simp [ndV, nd]
theorem ndV_10 : ndV 10 = lane false true false := by simp [ndV, nd]
theorem ndV_11 : ndV 11 = lane true false false := by simp [ndV, nd]
theorem ndV_12 : ndV 12 = lane false false true := by simp [ndV, nd]
theorem needs_1 (w : World) : Calls Try.prog 56 #[.int .i64 1] w fun e w' => e = .returned (lane true false true) ∧ Below w.heap.size w w' := by
  go_enter Try.func56, Try.ntmps56
  go_wp2_with (first
    | (go_at_call 102; refine (of02 _ _ (by go_cell) (by go_cell)).mono ?_; rintro e w1 ⟨rfl, hb1⟩; obtain ⟨k0, k1, k2, g0, g1, g2⟩ := ((Box3.new w false false false 57).alloc _).below hb1 (by go_size)))
  refine bodyPost_ret (v := lane true false true) (by simp [results, Try.results56, go_sem, k0, k1, k2]) rfl ⟨rfl, ?_⟩
  exact (((below_step (by go_grown) hb1).setCell (Nat.le_refl _) _).setCell (Nat.le_refl _) _).setCell (Nat.le_refl _) _
theorem lawneeds_1 (w : World) : Calls Try.prog 57 #[.int .i64 1] w fun e w' => e = .returned (lane true false true) ∧ Below w.heap.size w w' := by
  go_enter Try.func57, Try.ntmps57
  go_wp2
  go_returns
  exact ⟨rfl, by go_grown⟩
theorem needs_2 (w : World) : Calls Try.prog 56 #[.int .i64 2] w fun e w' => e = .returned (lane true true true) ∧ Below w.heap.size w w' := by
  go_enter Try.func56, Try.ntmps56
  go_wp2_with (first
    | (go_at_call 58; refine (every_any _).mono ?_; rintro e w1 ⟨rfl, hb1⟩; obtain ⟨k0, k1, k2, g0, g1, g2⟩ := (Box3.new w false false false 57).below hb1 (by go_size)))
  refine bodyPost_ret (v := lane true true true) (by simp [results, Try.results56, go_sem, k0, k1, k2]) rfl ⟨rfl, ?_⟩
  exact (((below_step (by go_grown) hb1).setCell (Nat.le_refl _) _).setCell (Nat.le_refl _) _).setCell (Nat.le_refl _) _
theorem lawneeds_2 (w : World) : Calls Try.prog 57 #[.int .i64 2] w fun e w' => e = .returned (lane true true true) ∧ Below w.heap.size w w' := by
  go_enter Try.func57, Try.ntmps57
  go_wp2
  go_returns
  exact ⟨rfl, by go_grown⟩
theorem needs_3 (w : World) : Calls Try.prog 56 #[.int .i64 3] w fun e w' => e = .returned (lane true false true) ∧ Below w.heap.size w w' := by
  go_enter Try.func56, Try.ntmps56
  go_wp2_with (first
    | (go_at_call 102; refine (of02 _ _ (by go_cell) (by go_cell)).mono ?_; rintro e w1 ⟨rfl, hb1⟩; obtain ⟨k0, k1, k2, g0, g1, g2⟩ := ((Box3.new w false false false 57).alloc _).below hb1 (by go_size)))
  refine bodyPost_ret (v := lane true false true) (by simp [results, Try.results56, go_sem, k0, k1, k2]) rfl ⟨rfl, ?_⟩
  exact (((below_step (by go_grown) hb1).setCell (Nat.le_refl _) _).setCell (Nat.le_refl _) _).setCell (Nat.le_refl _) _
theorem lawneeds_3 (w : World) : Calls Try.prog 57 #[.int .i64 3] w fun e w' => e = .returned (lane true false true) ∧ Below w.heap.size w w' := by
  go_enter Try.func57, Try.ntmps57
  go_wp2
  go_returns
  exact ⟨rfl, by go_grown⟩
theorem needs_4 (w : World) : Calls Try.prog 56 #[.int .i64 4] w fun e w' => e = .returned (lane true false true) ∧ Below w.heap.size w w' := by
  go_enter Try.func56, Try.ntmps56
  go_wp2_with (first
    | (go_at_call 102; refine (of02 _ _ (by go_cell) (by go_cell)).mono ?_; rintro e w1 ⟨rfl, hb1⟩; obtain ⟨k0, k1, k2, g0, g1, g2⟩ := ((Box3.new w false false false 57).alloc _).below hb1 (by go_size)))
  refine bodyPost_ret (v := lane true false true) (by simp [results, Try.results56, go_sem, k0, k1, k2]) rfl ⟨rfl, ?_⟩
  exact (((below_step (by go_grown) hb1).setCell (Nat.le_refl _) _).setCell (Nat.le_refl _) _).setCell (Nat.le_refl _) _
theorem lawneeds_4 (w : World) : Calls Try.prog 57 #[.int .i64 4] w fun e w' => e = .returned (lane true false true) ∧ Below w.heap.size w w' := by
  go_enter Try.func57, Try.ntmps57
  go_wp2
  go_returns
  exact ⟨rfl, by go_grown⟩
theorem needs_5 (w : World) : Calls Try.prog 56 #[.int .i64 5] w fun e w' => e = .returned (lane true true true) ∧ Below w.heap.size w w' := by
  go_enter Try.func56, Try.ntmps56
  go_wp2_with (first
    | (go_at_call 58; refine (every_any _).mono ?_; rintro e w1 ⟨rfl, hb1⟩; obtain ⟨k0, k1, k2, g0, g1, g2⟩ := (Box3.new w false false false 57).below hb1 (by go_size)))
  refine bodyPost_ret (v := lane true true true) (by simp [results, Try.results56, go_sem, k0, k1, k2]) rfl ⟨rfl, ?_⟩
  exact (((below_step (by go_grown) hb1).setCell (Nat.le_refl _) _).setCell (Nat.le_refl _) _).setCell (Nat.le_refl _) _
theorem lawneeds_5 (w : World) : Calls Try.prog 57 #[.int .i64 5] w fun e w' => e = .returned (lane true true true) ∧ Below w.heap.size w w' := by
  go_enter Try.func57, Try.ntmps57
  go_wp2
  go_returns
  exact ⟨rfl, by go_grown⟩
theorem needs_6 (w : World) : Calls Try.prog 56 #[.int .i64 6] w fun e w' => e = .returned (lane true false false) ∧ Below w.heap.size w w' := by
  go_enter Try.func56, Try.ntmps56
  go_wp2_with (first
    | (go_at_call 102; refine (of0 _ _ (by go_cell)).mono ?_; rintro e w1 ⟨rfl, hb1⟩; obtain ⟨k0, k1, k2, g0, g1, g2⟩ := ((Box3.new w false false false 57).alloc _).below hb1 (by go_size)))
  refine bodyPost_ret (v := lane true false false) (by simp [results, Try.results56, go_sem, k0, k1, k2]) rfl ⟨rfl, ?_⟩
  exact (((below_step (by go_grown) hb1).setCell (Nat.le_refl _) _).setCell (Nat.le_refl _) _).setCell (Nat.le_refl _) _
theorem lawneeds_6 (w : World) : Calls Try.prog 57 #[.int .i64 6] w fun e w' => e = .returned (lane true false false) ∧ Below w.heap.size w w' := by
  go_enter Try.func57, Try.ntmps57
  go_wp2
  go_returns
  exact ⟨rfl, by go_grown⟩
theorem needs_7 (w : World) : Calls Try.prog 56 #[.int .i64 7] w fun e w' => e = .returned (lane true true true) ∧ Below w.heap.size w w' := by
  go_enter Try.func56, Try.ntmps56
  go_wp2_with (first
    | (go_at_call 58; refine (every_any _).mono ?_; rintro e w1 ⟨rfl, hb1⟩; obtain ⟨k0, k1, k2, g0, g1, g2⟩ := (Box3.new w false false false 57).below hb1 (by go_size)))
  refine bodyPost_ret (v := lane true true true) (by simp [results, Try.results56, go_sem, k0, k1, k2]) rfl ⟨rfl, ?_⟩
  exact (((below_step (by go_grown) hb1).setCell (Nat.le_refl _) _).setCell (Nat.le_refl _) _).setCell (Nat.le_refl _) _
theorem lawneeds_7 (w : World) : Calls Try.prog 57 #[.int .i64 7] w fun e w' => e = .returned (lane true true true) ∧ Below w.heap.size w w' := by
  go_enter Try.func57, Try.ntmps57
  go_wp2
  go_returns
  exact ⟨rfl, by go_grown⟩
theorem needs_8 (w : World) : Calls Try.prog 56 #[.int .i64 8] w fun e w' => e = .returned (lane true true true) ∧ Below w.heap.size w w' := by
  go_enter Try.func56, Try.ntmps56
  go_wp2_with (first
    | (go_at_call 58; refine (every_any _).mono ?_; rintro e w1 ⟨rfl, hb1⟩; obtain ⟨k0, k1, k2, g0, g1, g2⟩ := (Box3.new w false false false 57).below hb1 (by go_size)))
  refine bodyPost_ret (v := lane true true true) (by simp [results, Try.results56, go_sem, k0, k1, k2]) rfl ⟨rfl, ?_⟩
  exact (((below_step (by go_grown) hb1).setCell (Nat.le_refl _) _).setCell (Nat.le_refl _) _).setCell (Nat.le_refl _) _
theorem lawneeds_8 (w : World) : Calls Try.prog 57 #[.int .i64 8] w fun e w' => e = .returned (lane true true true) ∧ Below w.heap.size w w' := by
  go_enter Try.func57, Try.ntmps57
  go_wp2
  go_returns
  exact ⟨rfl, by go_grown⟩
theorem needs_9 (w : World) : Calls Try.prog 56 #[.int .i64 9] w fun e w' => e = .returned (lane true true true) ∧ Below w.heap.size w w' := by
  go_enter Try.func56, Try.ntmps56
  go_wp2_with (first
    | (go_at_call 58; refine (every_any _).mono ?_; rintro e w1 ⟨rfl, hb1⟩; obtain ⟨k0, k1, k2, g0, g1, g2⟩ := (Box3.new w false false false 57).below hb1 (by go_size)))
  refine bodyPost_ret (v := lane true true true) (by simp [results, Try.results56, go_sem, k0, k1, k2]) rfl ⟨rfl, ?_⟩
  exact (((below_step (by go_grown) hb1).setCell (Nat.le_refl _) _).setCell (Nat.le_refl _) _).setCell (Nat.le_refl _) _
theorem lawneeds_9 (w : World) : Calls Try.prog 57 #[.int .i64 9] w fun e w' => e = .returned (lane true true true) ∧ Below w.heap.size w w' := by
  go_enter Try.func57, Try.ntmps57
  go_wp2
  go_returns
  exact ⟨rfl, by go_grown⟩
theorem needs_10 (w : World) : Calls Try.prog 56 #[.int .i64 10] w fun e w' => e = .returned (lane false true false) ∧ Below w.heap.size w w' := by
  go_enter Try.func56, Try.ntmps56
  go_wp2_with (first
    | (go_at_call 102; refine (of1 _ _ (by go_cell)).mono ?_; rintro e w1 ⟨rfl, hb1⟩; obtain ⟨k0, k1, k2, g0, g1, g2⟩ := ((Box3.new w false false false 57).alloc _).below hb1 (by go_size)))
  refine bodyPost_ret (v := lane false true false) (by simp [results, Try.results56, go_sem, k0, k1, k2]) rfl ⟨rfl, ?_⟩
  exact (((below_step (by go_grown) hb1).setCell (Nat.le_refl _) _).setCell (Nat.le_refl _) _).setCell (Nat.le_refl _) _
theorem lawneeds_10 (w : World) : Calls Try.prog 57 #[.int .i64 10] w fun e w' => e = .returned (lane false true false) ∧ Below w.heap.size w w' := by
  go_enter Try.func57, Try.ntmps57
  go_wp2
  go_returns
  exact ⟨rfl, by go_grown⟩
theorem needs_11 (w : World) : Calls Try.prog 56 #[.int .i64 11] w fun e w' => e = .returned (lane true false false) ∧ Below w.heap.size w w' := by
  go_enter Try.func56, Try.ntmps56
  go_wp2_with (first
    | (go_at_call 102; refine (of0 _ _ (by go_cell)).mono ?_; rintro e w1 ⟨rfl, hb1⟩; obtain ⟨k0, k1, k2, g0, g1, g2⟩ := ((Box3.new w false false false 57).alloc _).below hb1 (by go_size)))
  refine bodyPost_ret (v := lane true false false) (by simp [results, Try.results56, go_sem, k0, k1, k2]) rfl ⟨rfl, ?_⟩
  exact (((below_step (by go_grown) hb1).setCell (Nat.le_refl _) _).setCell (Nat.le_refl _) _).setCell (Nat.le_refl _) _
theorem lawneeds_11 (w : World) : Calls Try.prog 57 #[.int .i64 11] w fun e w' => e = .returned (lane true false false) ∧ Below w.heap.size w w' := by
  go_enter Try.func57, Try.ntmps57
  go_wp2
  go_returns
  exact ⟨rfl, by go_grown⟩
theorem needs_12 (w : World) : Calls Try.prog 56 #[.int .i64 12] w fun e w' => e = .returned (lane false false true) ∧ Below w.heap.size w w' := by
  go_enter Try.func56, Try.ntmps56
  go_wp2_with (first
    | (go_at_call 102; refine (of2 _ _ (by go_cell)).mono ?_; rintro e w1 ⟨rfl, hb1⟩; obtain ⟨k0, k1, k2, g0, g1, g2⟩ := ((Box3.new w false false false 57).alloc _).below hb1 (by go_size)))
  refine bodyPost_ret (v := lane false false true) (by simp [results, Try.results56, go_sem, k0, k1, k2]) rfl ⟨rfl, ?_⟩
  exact (((below_step (by go_grown) hb1).setCell (Nat.le_refl _) _).setCell (Nat.le_refl _) _).setCell (Nat.le_refl _) _
theorem lawneeds_12 (w : World) : Calls Try.prog 57 #[.int .i64 12] w fun e w' => e = .returned (lane false false true) ∧ Below w.heap.size w w' := by
  go_enter Try.func57, Try.ntmps57
  go_wp2
  go_returns
  exact ⟨rfl, by go_grown⟩
theorem needs_out (k : Int) (w : World) (h : k < 1 ∨ 12 < k) : Calls Try.prog 56 #[.int .i64 k] w fun e w' => e = .returned (lane false false false) ∧ Below w.heap.size w w' := by
  rcases h with h | h <;>
  · go_enter Try.func56, Try.ntmps56
    go_wp2
    go_returns
    exact ⟨rfl, by go_grown⟩
theorem needs_any (k : Int) (w : World) : Calls Try.prog 56 #[.int .i64 k] w fun e w' => e = .returned (ndV k) ∧ Below w.heap.size w w' := by
  by_cases h : k < 1 ∨ 12 < k
  · rw [ndV_out k h]; exact needs_out k w h
  · rcases (by omega : k = 1 ∨ k = 2 ∨ k = 3 ∨ k = 4 ∨ k = 5 ∨ k = 6 ∨ k = 7 ∨ k = 8 ∨ k = 9 ∨ k = 10 ∨ k = 11 ∨ k = 12) with rfl | rfl | rfl | rfl | rfl | rfl | rfl | rfl | rfl | rfl | rfl | rfl
    · rw [ndV_1]; exact needs_1 w
    · rw [ndV_2]; exact needs_2 w
    · rw [ndV_3]; exact needs_3 w
    · rw [ndV_4]; exact needs_4 w
    · rw [ndV_5]; exact needs_5 w
    · rw [ndV_6]; exact needs_6 w
    · rw [ndV_7]; exact needs_7 w
    · rw [ndV_8]; exact needs_8 w
    · rw [ndV_9]; exact needs_9 w
    · rw [ndV_10]; exact needs_10 w
    · rw [ndV_11]; exact needs_11 w
    · rw [ndV_12]; exact needs_12 w
theorem lawneeds_out (k : Int) (w : World) (h : k < 1 ∨ 12 < k) : Calls Try.prog 57 #[.int .i64 k] w fun e w' => e = .returned (lane false false false) ∧ Below w.heap.size w w' := by
  rcases h with h | h <;>
  · go_enter Try.func57, Try.ntmps57
    go_wp2
    go_returns
    exact ⟨rfl, by go_grown⟩
theorem lawneeds_any (k : Int) (w : World) : Calls Try.prog 57 #[.int .i64 k] w fun e w' => e = .returned (ndV k) ∧ Below w.heap.size w w' := by
  by_cases h : k < 1 ∨ 12 < k
  · rw [ndV_out k h]; exact lawneeds_out k w h
  · rcases (by omega : k = 1 ∨ k = 2 ∨ k = 3 ∨ k = 4 ∨ k = 5 ∨ k = 6 ∨ k = 7 ∨ k = 8 ∨ k = 9 ∨ k = 10 ∨ k = 11 ∨ k = 12) with rfl | rfl | rfl | rfl | rfl | rfl | rfl | rfl | rfl | rfl | rfl | rfl
    · rw [ndV_1]; exact lawneeds_1 w
    · rw [ndV_2]; exact lawneeds_2 w
    · rw [ndV_3]; exact lawneeds_3 w
    · rw [ndV_4]; exact lawneeds_4 w
    · rw [ndV_5]; exact lawneeds_5 w
    · rw [ndV_6]; exact lawneeds_6 w
    · rw [ndV_7]; exact lawneeds_7 w
    · rw [ndV_8]; exact lawneeds_8 w
    · rw [ndV_9]; exact lawneeds_9 w
    · rw [ndV_10]; exact lawneeds_10 w
    · rw [ndV_11]; exact lawneeds_11 w
    · rw [ndV_12]; exact lawneeds_12 w
end Go.Proofs.Ytplajmcjkddikaa.Rule
