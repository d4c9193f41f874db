/- Lanes: the next lock from any on, and how many; by hand walks. -/
import Derived.Test.YtplajmcjkddikaaRule
namespace Go.Proofs.Ytplajmcjkddikaa.Rule
open Go.RowKit Go.Proofs.YtplajmcjkddikaaW.PrintWords Go.Proofs.YtplajmcjkddikaaW.PrintMore
attribute [local go_sem] max2_int min2_int max_two min_two
set_option linter.unusedVariables false

def nextS (p q r : Bool) (k : Int) : Int := if k ≤ 0 ∧ p = true then 0 else if k ≤ 1 ∧ q = true then 1 else if k ≤ 2 ∧ r = true then 2 else 3
theorem nextS_neg (p q r : Bool) (k : Int) (h : k < 0) : nextS p q r k = nextS p q r 0 := by
  unfold nextS; simp [show k ≤ 0 by omega, show k ≤ 1 by omega, show k ≤ 2 by omega]
theorem nextS_out (p q r : Bool) (k : Int) (h : 3 ≤ k) : nextS p q r k = 3 := by
  unfold nextS; rw [if_neg (by omega), if_neg (by omega), if_neg (by omega)]
def lenS (p q r : Bool) : Int := (if p then 1 else 0) + (if q then 1 else 0) + (if r then 1 else 0)

set_option maxHeartbeats 4000000 in
theorem next_any (p q r : Bool) (k : Int) (w : World) :
    Calls Try.prog 61 #[lane p q r, .int .i64 k] w fun e w' => e = .returned (.int .i64 (nextS p q r k)) ∧ Below w.heap.size w w' := by
  have hb : Below w.heap.size w (w.alloc (Obj.cells #[Value.bool p, Value.bool q, Value.bool r] 57)) := (Below.refl _ _).alloc (Nat.le_refl _) _
  by_cases hk3 : 3 ≤ k
  · rw [nextS_out _ _ _ _ hk3]
    go_enter Try.func61, Try.ntmps61
    go_wp2
    go_rounds 1
    go_ret
    exact ⟨rfl, hb⟩
  · by_cases hk0 : k < 0
    · rw [nextS_neg _ _ _ _ hk0]
      cases p <;> cases q <;> cases r <;> (go_enter Try.func61, Try.ntmps61; go_wp2; go_rounds 4; go_ret; exact ⟨rfl, hb⟩)
    · rcases (by omega : k = 0 ∨ k = 1 ∨ k = 2) with rfl | rfl | rfl <;>
      cases p <;> cases q <;> cases r <;> (go_enter Try.func61, Try.ntmps61; go_wp2; go_rounds 4; go_ret; exact ⟨rfl, hb⟩)

set_option maxRecDepth 100000 in
theorem len_any (p q r : Bool) (w : World) :
    Calls Try.prog 62 #[lane p q r] w fun e w' => e = .returned (.int .i64 (lenS p q r)) ∧ Below w.heap.size w w' := by
  have i0 : ∀ w : World, (Instr.index 57 (.agg #[.bool p, .bool q, .bool r]) (.int .i64 0)).run Try.prog w = .ok (.bool p) w := fun _ => by kernel_rfl
  have i1 : ∀ w : World, (Instr.index 57 (.agg #[.bool p, .bool q, .bool r]) (.int .i64 1)).run Try.prog w = .ok (.bool q) w := fun _ => by kernel_rfl
  have i2 : ∀ w : World, (Instr.index 57 (.agg #[.bool p, .bool q, .bool r]) (.int .i64 2)).run Try.prog w = .ok (.bool r) w := fun _ => by kernel_rfl
  cases p <;> cases q <;> cases r <;>
  · go_enter Try.func62, Try.ntmps62
    go_wp2
    go_rounds 4
    go_ret
    exact ⟨rfl, by go_grown⟩

theorem awake9_any (w : World) : Calls Try.prog 60 #[] w fun e w' => e = .returned (.bool true) ∧ Below w.heap.size w w' := by
  have h : nextS true false true 1 = 2 := by decide
  go_enter Try.func60, Try.ntmps60
  go_wp2_with (first
    | (go_at_call 56; refine (needs_3 _).mono ?_; rintro e w1 ⟨rfl, hb1⟩)
    | (go_at_call 61; refine (next_any _ _ _ _ _).mono ?_; rintro e w2 ⟨rfl, hb2⟩))
  go_ret
  exact ⟨rfl, below_step hb1 hb2⟩

set_option maxHeartbeats 4000000 in
theorem lanes_fff (k : Int) (w : World) :
    Calls Try.prog 11 #[lane false false false, .int .i64 k] w fun e w' => e = .returned (.bool true) ∧ Below w.heap.size w w' := by
  have hl : lenS false false false = 0 := by decide
  rcases (by omega : 3 ≤ k ∨ k = 2 ∨ k = 1 ∨ k = 0 ∨ k < 0) with h | rfl | rfl | rfl | h
  · have hn : nextS false false false k = 3 := nextS_out _ _ _ _ h
    go_enter Try.func11, Try.ntmps11
    go_wp2
    refine wp_loop_rounds 4 ?_
    repeat any_goals (rw [rounds_succ]; go_wp2_with (first
      | (go_at_call 61; refine (next_any _ _ _ _ _).mono ?_; rintro e w1 ⟨rfl, hb1⟩; have hX := (Box3.new (w.alloc _) false false false 57).below hb1 (by go_size); simp only [World.size_alloc] at hX; obtain ⟨k0, k1, k2, g0, g1, g2⟩ := hX)
      | (go_at_call 62; refine (len_any _ _ _ _).mono ?_; rintro e w2 ⟨rfl, hb2⟩)
      | (go_at_call 60; refine (awake9_any _).mono ?_; rintro e w3 ⟨rfl, hb3⟩)))
    go_ret
    exact ⟨rfl, below_step (below_step (below_step (by go_grown) hb1) hb2) hb3⟩
  · have hn : nextS false false false 2 = 3 := by decide
    go_enter Try.func11, Try.ntmps11
    go_wp2
    refine wp_loop_rounds 4 ?_
    repeat any_goals (rw [rounds_succ]; go_wp2_with (first
      | (go_at_call 61; refine (next_any _ _ _ _ _).mono ?_; rintro e w1 ⟨rfl, hb1⟩; have hX := (Box3.new (w.alloc _) false false false 57).below hb1 (by go_size); simp only [World.size_alloc] at hX; obtain ⟨k0, k1, k2, g0, g1, g2⟩ := hX)
      | (go_at_call 62; refine (len_any _ _ _ _).mono ?_; rintro e w2 ⟨rfl, hb2⟩)
      | (go_at_call 60; refine (awake9_any _).mono ?_; rintro e w3 ⟨rfl, hb3⟩)))
    go_ret
    exact ⟨rfl, below_step (below_step (below_step (by go_grown) hb1) hb2) hb3⟩
  · have hn : nextS false false false 1 = 3 := by decide
    go_enter Try.func11, Try.ntmps11
    go_wp2
    refine wp_loop_rounds 4 ?_
    repeat any_goals (rw [rounds_succ]; go_wp2_with (first
      | (go_at_call 61; refine (next_any _ _ _ _ _).mono ?_; rintro e w1 ⟨rfl, hb1⟩; have hX := (Box3.new (w.alloc _) false false false 57).below hb1 (by go_size); simp only [World.size_alloc] at hX; obtain ⟨k0, k1, k2, g0, g1, g2⟩ := hX)
      | (go_at_call 62; refine (len_any _ _ _ _).mono ?_; rintro e w2 ⟨rfl, hb2⟩)
      | (go_at_call 60; refine (awake9_any _).mono ?_; rintro e w3 ⟨rfl, hb3⟩)))
    go_ret
    exact ⟨rfl, below_step (below_step (below_step (by go_grown) hb1) hb2) hb3⟩
  · have hn : nextS false false false 0 = 3 := by decide
    go_enter Try.func11, Try.ntmps11
    go_wp2
    refine wp_loop_rounds 4 ?_
    repeat any_goals (rw [rounds_succ]; go_wp2_with (first
      | (go_at_call 61; refine (next_any _ _ _ _ _).mono ?_; rintro e w1 ⟨rfl, hb1⟩; have hX := (Box3.new (w.alloc _) false false false 57).below hb1 (by go_size); simp only [World.size_alloc] at hX; obtain ⟨k0, k1, k2, g0, g1, g2⟩ := hX)
      | (go_at_call 62; refine (len_any _ _ _ _).mono ?_; rintro e w2 ⟨rfl, hb2⟩)
      | (go_at_call 60; refine (awake9_any _).mono ?_; rintro e w3 ⟨rfl, hb3⟩)))
    go_ret
    exact ⟨rfl, below_step (below_step (below_step (by go_grown) hb1) hb2) hb3⟩
  · have hn : nextS false false false k = 3 := (nextS_neg _ _ _ _ h).trans (by decide)
    go_enter Try.func11, Try.ntmps11
    go_wp2
    refine wp_loop_rounds 4 ?_
    repeat any_goals (rw [rounds_succ]; go_wp2_with (first
      | (go_at_call 61; refine (next_any _ _ _ _ _).mono ?_; rintro e w1 ⟨rfl, hb1⟩; have hX := (Box3.new (w.alloc _) false false false 57).below hb1 (by go_size); simp only [World.size_alloc] at hX; obtain ⟨k0, k1, k2, g0, g1, g2⟩ := hX)
      | (go_at_call 62; refine (len_any _ _ _ _).mono ?_; rintro e w2 ⟨rfl, hb2⟩)
      | (go_at_call 60; refine (awake9_any _).mono ?_; rintro e w3 ⟨rfl, hb3⟩)))
    go_ret
    exact ⟨rfl, below_step (below_step (below_step (by go_grown) hb1) hb2) hb3⟩
set_option maxHeartbeats 4000000 in
theorem lanes_fft (k : Int) (w : World) :
    Calls Try.prog 11 #[lane false false true, .int .i64 k] w fun e w' => e = .returned (.bool true) ∧ Below w.heap.size w w' := by
  have hl : lenS false false true = 1 := by decide
  rcases (by omega : 3 ≤ k ∨ k = 2 ∨ k = 1 ∨ k = 0 ∨ k < 0) with h | rfl | rfl | rfl | h
  · have hn : nextS false false true k = 3 := nextS_out _ _ _ _ h
    go_enter Try.func11, Try.ntmps11
    go_wp2
    refine wp_loop_rounds 4 ?_
    repeat any_goals (rw [rounds_succ]; go_wp2_with (first
      | (go_at_call 61; refine (next_any _ _ _ _ _).mono ?_; rintro e w1 ⟨rfl, hb1⟩; have hX := (Box3.new (w.alloc _) false false true 57).below hb1 (by go_size); simp only [World.size_alloc] at hX; obtain ⟨k0, k1, k2, g0, g1, g2⟩ := hX)
      | (go_at_call 62; refine (len_any _ _ _ _).mono ?_; rintro e w2 ⟨rfl, hb2⟩)
      | (go_at_call 60; refine (awake9_any _).mono ?_; rintro e w3 ⟨rfl, hb3⟩)))
    go_ret
    exact ⟨rfl, below_step (below_step (below_step (by go_grown) hb1) hb2) hb3⟩
  · have hn : nextS false false true 2 = 2 := by decide
    go_enter Try.func11, Try.ntmps11
    go_wp2
    refine wp_loop_rounds 4 ?_
    repeat any_goals (rw [rounds_succ]; go_wp2_with (first
      | (go_at_call 61; refine (next_any _ _ _ _ _).mono ?_; rintro e w1 ⟨rfl, hb1⟩; have hX := (Box3.new (w.alloc _) false false true 57).below hb1 (by go_size); simp only [World.size_alloc] at hX; obtain ⟨k0, k1, k2, g0, g1, g2⟩ := hX)
      | (go_at_call 62; refine (len_any _ _ _ _).mono ?_; rintro e w2 ⟨rfl, hb2⟩)
      | (go_at_call 60; refine (awake9_any _).mono ?_; rintro e w3 ⟨rfl, hb3⟩)))
    go_ret
    exact ⟨rfl, below_step (below_step (below_step (by go_grown) hb1) hb2) hb3⟩
  · have hn : nextS false false true 1 = 2 := by decide
    go_enter Try.func11, Try.ntmps11
    go_wp2
    refine wp_loop_rounds 4 ?_
    repeat any_goals (rw [rounds_succ]; go_wp2_with (first
      | (go_at_call 61; refine (next_any _ _ _ _ _).mono ?_; rintro e w1 ⟨rfl, hb1⟩; have hX := (Box3.new (w.alloc _) false false true 57).below hb1 (by go_size); simp only [World.size_alloc] at hX; obtain ⟨k0, k1, k2, g0, g1, g2⟩ := hX)
      | (go_at_call 62; refine (len_any _ _ _ _).mono ?_; rintro e w2 ⟨rfl, hb2⟩)
      | (go_at_call 60; refine (awake9_any _).mono ?_; rintro e w3 ⟨rfl, hb3⟩)))
    go_ret
    exact ⟨rfl, below_step (below_step (below_step (by go_grown) hb1) hb2) hb3⟩
  · have hn : nextS false false true 0 = 2 := by decide
    go_enter Try.func11, Try.ntmps11
    go_wp2
    refine wp_loop_rounds 4 ?_
    repeat any_goals (rw [rounds_succ]; go_wp2_with (first
      | (go_at_call 61; refine (next_any _ _ _ _ _).mono ?_; rintro e w1 ⟨rfl, hb1⟩; have hX := (Box3.new (w.alloc _) false false true 57).below hb1 (by go_size); simp only [World.size_alloc] at hX; obtain ⟨k0, k1, k2, g0, g1, g2⟩ := hX)
      | (go_at_call 62; refine (len_any _ _ _ _).mono ?_; rintro e w2 ⟨rfl, hb2⟩)
      | (go_at_call 60; refine (awake9_any _).mono ?_; rintro e w3 ⟨rfl, hb3⟩)))
    go_ret
    exact ⟨rfl, below_step (below_step (below_step (by go_grown) hb1) hb2) hb3⟩
  · have hn : nextS false false true k = 2 := (nextS_neg _ _ _ _ h).trans (by decide)
    go_enter Try.func11, Try.ntmps11
    go_wp2
    refine wp_loop_rounds 4 ?_
    repeat any_goals (rw [rounds_succ]; go_wp2_with (first
      | (go_at_call 61; refine (next_any _ _ _ _ _).mono ?_; rintro e w1 ⟨rfl, hb1⟩; have hX := (Box3.new (w.alloc _) false false true 57).below hb1 (by go_size); simp only [World.size_alloc] at hX; obtain ⟨k0, k1, k2, g0, g1, g2⟩ := hX)
      | (go_at_call 62; refine (len_any _ _ _ _).mono ?_; rintro e w2 ⟨rfl, hb2⟩)
      | (go_at_call 60; refine (awake9_any _).mono ?_; rintro e w3 ⟨rfl, hb3⟩)))
    go_ret
    exact ⟨rfl, below_step (below_step (below_step (by go_grown) hb1) hb2) hb3⟩
set_option maxHeartbeats 4000000 in
theorem lanes_ftf (k : Int) (w : World) :
    Calls Try.prog 11 #[lane false true false, .int .i64 k] w fun e w' => e = .returned (.bool true) ∧ Below w.heap.size w w' := by
  have hl : lenS false true false = 1 := by decide
  rcases (by omega : 3 ≤ k ∨ k = 2 ∨ k = 1 ∨ k = 0 ∨ k < 0) with h | rfl | rfl | rfl | h
  · have hn : nextS false true false k = 3 := nextS_out _ _ _ _ h
    go_enter Try.func11, Try.ntmps11
    go_wp2
    refine wp_loop_rounds 4 ?_
    repeat any_goals (rw [rounds_succ]; go_wp2_with (first
      | (go_at_call 61; refine (next_any _ _ _ _ _).mono ?_; rintro e w1 ⟨rfl, hb1⟩; have hX := (Box3.new (w.alloc _) false true false 57).below hb1 (by go_size); simp only [World.size_alloc] at hX; obtain ⟨k0, k1, k2, g0, g1, g2⟩ := hX)
      | (go_at_call 62; refine (len_any _ _ _ _).mono ?_; rintro e w2 ⟨rfl, hb2⟩)
      | (go_at_call 60; refine (awake9_any _).mono ?_; rintro e w3 ⟨rfl, hb3⟩)))
    go_ret
    exact ⟨rfl, below_step (below_step (below_step (by go_grown) hb1) hb2) hb3⟩
  · have hn : nextS false true false 2 = 3 := by decide
    go_enter Try.func11, Try.ntmps11
    go_wp2
    refine wp_loop_rounds 4 ?_
    repeat any_goals (rw [rounds_succ]; go_wp2_with (first
      | (go_at_call 61; refine (next_any _ _ _ _ _).mono ?_; rintro e w1 ⟨rfl, hb1⟩; have hX := (Box3.new (w.alloc _) false true false 57).below hb1 (by go_size); simp only [World.size_alloc] at hX; obtain ⟨k0, k1, k2, g0, g1, g2⟩ := hX)
      | (go_at_call 62; refine (len_any _ _ _ _).mono ?_; rintro e w2 ⟨rfl, hb2⟩)
      | (go_at_call 60; refine (awake9_any _).mono ?_; rintro e w3 ⟨rfl, hb3⟩)))
    go_ret
    exact ⟨rfl, below_step (below_step (below_step (by go_grown) hb1) hb2) hb3⟩
  · have hn : nextS false true false 1 = 1 := by decide
    go_enter Try.func11, Try.ntmps11
    go_wp2
    refine wp_loop_rounds 4 ?_
    repeat any_goals (rw [rounds_succ]; go_wp2_with (first
      | (go_at_call 61; refine (next_any _ _ _ _ _).mono ?_; rintro e w1 ⟨rfl, hb1⟩; have hX := (Box3.new (w.alloc _) false true false 57).below hb1 (by go_size); simp only [World.size_alloc] at hX; obtain ⟨k0, k1, k2, g0, g1, g2⟩ := hX)
      | (go_at_call 62; refine (len_any _ _ _ _).mono ?_; rintro e w2 ⟨rfl, hb2⟩)
      | (go_at_call 60; refine (awake9_any _).mono ?_; rintro e w3 ⟨rfl, hb3⟩)))
    go_ret
    exact ⟨rfl, below_step (below_step (below_step (by go_grown) hb1) hb2) hb3⟩
  · have hn : nextS false true false 0 = 1 := by decide
    go_enter Try.func11, Try.ntmps11
    go_wp2
    refine wp_loop_rounds 4 ?_
    repeat any_goals (rw [rounds_succ]; go_wp2_with (first
      | (go_at_call 61; refine (next_any _ _ _ _ _).mono ?_; rintro e w1 ⟨rfl, hb1⟩; have hX := (Box3.new (w.alloc _) false true false 57).below hb1 (by go_size); simp only [World.size_alloc] at hX; obtain ⟨k0, k1, k2, g0, g1, g2⟩ := hX)
      | (go_at_call 62; refine (len_any _ _ _ _).mono ?_; rintro e w2 ⟨rfl, hb2⟩)
      | (go_at_call 60; refine (awake9_any _).mono ?_; rintro e w3 ⟨rfl, hb3⟩)))
    go_ret
    exact ⟨rfl, below_step (below_step (below_step (by go_grown) hb1) hb2) hb3⟩
  · have hn : nextS false true false k = 1 := (nextS_neg _ _ _ _ h).trans (by decide)
    go_enter Try.func11, Try.ntmps11
    go_wp2
    refine wp_loop_rounds 4 ?_
    repeat any_goals (rw [rounds_succ]; go_wp2_with (first
      | (go_at_call 61; refine (next_any _ _ _ _ _).mono ?_; rintro e w1 ⟨rfl, hb1⟩; have hX := (Box3.new (w.alloc _) false true false 57).below hb1 (by go_size); simp only [World.size_alloc] at hX; obtain ⟨k0, k1, k2, g0, g1, g2⟩ := hX)
      | (go_at_call 62; refine (len_any _ _ _ _).mono ?_; rintro e w2 ⟨rfl, hb2⟩)
      | (go_at_call 60; refine (awake9_any _).mono ?_; rintro e w3 ⟨rfl, hb3⟩)))
    go_ret
    exact ⟨rfl, below_step (below_step (below_step (by go_grown) hb1) hb2) hb3⟩
set_option maxHeartbeats 4000000 in
theorem lanes_ftt (k : Int) (w : World) :
    Calls Try.prog 11 #[lane false true true, .int .i64 k] w fun e w' => e = .returned (.bool true) ∧ Below w.heap.size w w' := by
  have hl : lenS false true true = 2 := by decide
  rcases (by omega : 3 ≤ k ∨ k = 2 ∨ k = 1 ∨ k = 0 ∨ k < 0) with h | rfl | rfl | rfl | h
  · have hn : nextS false true true k = 3 := nextS_out _ _ _ _ h
    go_enter Try.func11, Try.ntmps11
    go_wp2
    refine wp_loop_rounds 4 ?_
    repeat any_goals (rw [rounds_succ]; go_wp2_with (first
      | (go_at_call 61; refine (next_any _ _ _ _ _).mono ?_; rintro e w1 ⟨rfl, hb1⟩; have hX := (Box3.new (w.alloc _) false true true 57).below hb1 (by go_size); simp only [World.size_alloc] at hX; obtain ⟨k0, k1, k2, g0, g1, g2⟩ := hX)
      | (go_at_call 62; refine (len_any _ _ _ _).mono ?_; rintro e w2 ⟨rfl, hb2⟩)
      | (go_at_call 60; refine (awake9_any _).mono ?_; rintro e w3 ⟨rfl, hb3⟩)))
    go_ret
    exact ⟨rfl, below_step (below_step (below_step (by go_grown) hb1) hb2) hb3⟩
  · have hn : nextS false true true 2 = 2 := by decide
    go_enter Try.func11, Try.ntmps11
    go_wp2
    refine wp_loop_rounds 4 ?_
    repeat any_goals (rw [rounds_succ]; go_wp2_with (first
      | (go_at_call 61; refine (next_any _ _ _ _ _).mono ?_; rintro e w1 ⟨rfl, hb1⟩; have hX := (Box3.new (w.alloc _) false true true 57).below hb1 (by go_size); simp only [World.size_alloc] at hX; obtain ⟨k0, k1, k2, g0, g1, g2⟩ := hX)
      | (go_at_call 62; refine (len_any _ _ _ _).mono ?_; rintro e w2 ⟨rfl, hb2⟩)
      | (go_at_call 60; refine (awake9_any _).mono ?_; rintro e w3 ⟨rfl, hb3⟩)))
    go_ret
    exact ⟨rfl, below_step (below_step (below_step (by go_grown) hb1) hb2) hb3⟩
  · have hn : nextS false true true 1 = 1 := by decide
    go_enter Try.func11, Try.ntmps11
    go_wp2
    refine wp_loop_rounds 4 ?_
    repeat any_goals (rw [rounds_succ]; go_wp2_with (first
      | (go_at_call 61; refine (next_any _ _ _ _ _).mono ?_; rintro e w1 ⟨rfl, hb1⟩; have hX := (Box3.new (w.alloc _) false true true 57).below hb1 (by go_size); simp only [World.size_alloc] at hX; obtain ⟨k0, k1, k2, g0, g1, g2⟩ := hX)
      | (go_at_call 62; refine (len_any _ _ _ _).mono ?_; rintro e w2 ⟨rfl, hb2⟩)
      | (go_at_call 60; refine (awake9_any _).mono ?_; rintro e w3 ⟨rfl, hb3⟩)))
    go_ret
    exact ⟨rfl, below_step (below_step (below_step (by go_grown) hb1) hb2) hb3⟩
  · have hn : nextS false true true 0 = 1 := by decide
    go_enter Try.func11, Try.ntmps11
    go_wp2
    refine wp_loop_rounds 4 ?_
    repeat any_goals (rw [rounds_succ]; go_wp2_with (first
      | (go_at_call 61; refine (next_any _ _ _ _ _).mono ?_; rintro e w1 ⟨rfl, hb1⟩; have hX := (Box3.new (w.alloc _) false true true 57).below hb1 (by go_size); simp only [World.size_alloc] at hX; obtain ⟨k0, k1, k2, g0, g1, g2⟩ := hX)
      | (go_at_call 62; refine (len_any _ _ _ _).mono ?_; rintro e w2 ⟨rfl, hb2⟩)
      | (go_at_call 60; refine (awake9_any _).mono ?_; rintro e w3 ⟨rfl, hb3⟩)))
    go_ret
    exact ⟨rfl, below_step (below_step (below_step (by go_grown) hb1) hb2) hb3⟩
  · have hn : nextS false true true k = 1 := (nextS_neg _ _ _ _ h).trans (by decide)
    go_enter Try.func11, Try.ntmps11
    go_wp2
    refine wp_loop_rounds 4 ?_
    repeat any_goals (rw [rounds_succ]; go_wp2_with (first
      | (go_at_call 61; refine (next_any _ _ _ _ _).mono ?_; rintro e w1 ⟨rfl, hb1⟩; have hX := (Box3.new (w.alloc _) false true true 57).below hb1 (by go_size); simp only [World.size_alloc] at hX; obtain ⟨k0, k1, k2, g0, g1, g2⟩ := hX)
      | (go_at_call 62; refine (len_any _ _ _ _).mono ?_; rintro e w2 ⟨rfl, hb2⟩)
      | (go_at_call 60; refine (awake9_any _).mono ?_; rintro e w3 ⟨rfl, hb3⟩)))
    go_ret
    exact ⟨rfl, below_step (below_step (below_step (by go_grown) hb1) hb2) hb3⟩
set_option maxHeartbeats 4000000 in
theorem lanes_tff (k : Int) (w : World) :
    Calls Try.prog 11 #[lane true false false, .int .i64 k] w fun e w' => e = .returned (.bool true) ∧ Below w.heap.size w w' := by
  have hl : lenS true false false = 1 := by decide
  rcases (by omega : 3 ≤ k ∨ k = 2 ∨ k = 1 ∨ k = 0 ∨ k < 0) with h | rfl | rfl | rfl | h
  · have hn : nextS true false false k = 3 := nextS_out _ _ _ _ h
    go_enter Try.func11, Try.ntmps11
    go_wp2
    refine wp_loop_rounds 4 ?_
    repeat any_goals (rw [rounds_succ]; go_wp2_with (first
      | (go_at_call 61; refine (next_any _ _ _ _ _).mono ?_; rintro e w1 ⟨rfl, hb1⟩; have hX := (Box3.new (w.alloc _) true false false 57).below hb1 (by go_size); simp only [World.size_alloc] at hX; obtain ⟨k0, k1, k2, g0, g1, g2⟩ := hX)
      | (go_at_call 62; refine (len_any _ _ _ _).mono ?_; rintro e w2 ⟨rfl, hb2⟩)
      | (go_at_call 60; refine (awake9_any _).mono ?_; rintro e w3 ⟨rfl, hb3⟩)))
    go_ret
    exact ⟨rfl, below_step (below_step (below_step (by go_grown) hb1) hb2) hb3⟩
  · have hn : nextS true false false 2 = 3 := by decide
    go_enter Try.func11, Try.ntmps11
    go_wp2
    refine wp_loop_rounds 4 ?_
    repeat any_goals (rw [rounds_succ]; go_wp2_with (first
      | (go_at_call 61; refine (next_any _ _ _ _ _).mono ?_; rintro e w1 ⟨rfl, hb1⟩; have hX := (Box3.new (w.alloc _) true false false 57).below hb1 (by go_size); simp only [World.size_alloc] at hX; obtain ⟨k0, k1, k2, g0, g1, g2⟩ := hX)
      | (go_at_call 62; refine (len_any _ _ _ _).mono ?_; rintro e w2 ⟨rfl, hb2⟩)
      | (go_at_call 60; refine (awake9_any _).mono ?_; rintro e w3 ⟨rfl, hb3⟩)))
    go_ret
    exact ⟨rfl, below_step (below_step (below_step (by go_grown) hb1) hb2) hb3⟩
  · have hn : nextS true false false 1 = 3 := by decide
    go_enter Try.func11, Try.ntmps11
    go_wp2
    refine wp_loop_rounds 4 ?_
    repeat any_goals (rw [rounds_succ]; go_wp2_with (first
      | (go_at_call 61; refine (next_any _ _ _ _ _).mono ?_; rintro e w1 ⟨rfl, hb1⟩; have hX := (Box3.new (w.alloc _) true false false 57).below hb1 (by go_size); simp only [World.size_alloc] at hX; obtain ⟨k0, k1, k2, g0, g1, g2⟩ := hX)
      | (go_at_call 62; refine (len_any _ _ _ _).mono ?_; rintro e w2 ⟨rfl, hb2⟩)
      | (go_at_call 60; refine (awake9_any _).mono ?_; rintro e w3 ⟨rfl, hb3⟩)))
    go_ret
    exact ⟨rfl, below_step (below_step (below_step (by go_grown) hb1) hb2) hb3⟩
  · have hn : nextS true false false 0 = 0 := by decide
    go_enter Try.func11, Try.ntmps11
    go_wp2
    refine wp_loop_rounds 4 ?_
    repeat any_goals (rw [rounds_succ]; go_wp2_with (first
      | (go_at_call 61; refine (next_any _ _ _ _ _).mono ?_; rintro e w1 ⟨rfl, hb1⟩; have hX := (Box3.new (w.alloc _) true false false 57).below hb1 (by go_size); simp only [World.size_alloc] at hX; obtain ⟨k0, k1, k2, g0, g1, g2⟩ := hX)
      | (go_at_call 62; refine (len_any _ _ _ _).mono ?_; rintro e w2 ⟨rfl, hb2⟩)
      | (go_at_call 60; refine (awake9_any _).mono ?_; rintro e w3 ⟨rfl, hb3⟩)))
    go_ret
    exact ⟨rfl, below_step (below_step (below_step (by go_grown) hb1) hb2) hb3⟩
  · have hn : nextS true false false k = 0 := (nextS_neg _ _ _ _ h).trans (by decide)
    go_enter Try.func11, Try.ntmps11
    go_wp2
    refine wp_loop_rounds 4 ?_
    repeat any_goals (rw [rounds_succ]; go_wp2_with (first
      | (go_at_call 61; refine (next_any _ _ _ _ _).mono ?_; rintro e w1 ⟨rfl, hb1⟩; have hX := (Box3.new (w.alloc _) true false false 57).below hb1 (by go_size); simp only [World.size_alloc] at hX; obtain ⟨k0, k1, k2, g0, g1, g2⟩ := hX)
      | (go_at_call 62; refine (len_any _ _ _ _).mono ?_; rintro e w2 ⟨rfl, hb2⟩)
      | (go_at_call 60; refine (awake9_any _).mono ?_; rintro e w3 ⟨rfl, hb3⟩)))
    go_ret
    exact ⟨rfl, below_step (below_step (below_step (by go_grown) hb1) hb2) hb3⟩
set_option maxHeartbeats 4000000 in
theorem lanes_tft (k : Int) (w : World) :
    Calls Try.prog 11 #[lane true false true, .int .i64 k] w fun e w' => e = .returned (.bool true) ∧ Below w.heap.size w w' := by
  have hl : lenS true false true = 2 := by decide
  rcases (by omega : 3 ≤ k ∨ k = 2 ∨ k = 1 ∨ k = 0 ∨ k < 0) with h | rfl | rfl | rfl | h
  · have hn : nextS true false true k = 3 := nextS_out _ _ _ _ h
    go_enter Try.func11, Try.ntmps11
    go_wp2
    refine wp_loop_rounds 4 ?_
    repeat any_goals (rw [rounds_succ]; go_wp2_with (first
      | (go_at_call 61; refine (next_any _ _ _ _ _).mono ?_; rintro e w1 ⟨rfl, hb1⟩; have hX := (Box3.new (w.alloc _) true false true 57).below hb1 (by go_size); simp only [World.size_alloc] at hX; obtain ⟨k0, k1, k2, g0, g1, g2⟩ := hX)
      | (go_at_call 62; refine (len_any _ _ _ _).mono ?_; rintro e w2 ⟨rfl, hb2⟩)
      | (go_at_call 60; refine (awake9_any _).mono ?_; rintro e w3 ⟨rfl, hb3⟩)))
    go_ret
    exact ⟨rfl, below_step (below_step (below_step (by go_grown) hb1) hb2) hb3⟩
  · have hn : nextS true false true 2 = 2 := by decide
    go_enter Try.func11, Try.ntmps11
    go_wp2
    refine wp_loop_rounds 4 ?_
    repeat any_goals (rw [rounds_succ]; go_wp2_with (first
      | (go_at_call 61; refine (next_any _ _ _ _ _).mono ?_; rintro e w1 ⟨rfl, hb1⟩; have hX := (Box3.new (w.alloc _) true false true 57).below hb1 (by go_size); simp only [World.size_alloc] at hX; obtain ⟨k0, k1, k2, g0, g1, g2⟩ := hX)
      | (go_at_call 62; refine (len_any _ _ _ _).mono ?_; rintro e w2 ⟨rfl, hb2⟩)
      | (go_at_call 60; refine (awake9_any _).mono ?_; rintro e w3 ⟨rfl, hb3⟩)))
    go_ret
    exact ⟨rfl, below_step (below_step (below_step (by go_grown) hb1) hb2) hb3⟩
  · have hn : nextS true false true 1 = 2 := by decide
    go_enter Try.func11, Try.ntmps11
    go_wp2
    refine wp_loop_rounds 4 ?_
    repeat any_goals (rw [rounds_succ]; go_wp2_with (first
      | (go_at_call 61; refine (next_any _ _ _ _ _).mono ?_; rintro e w1 ⟨rfl, hb1⟩; have hX := (Box3.new (w.alloc _) true false true 57).below hb1 (by go_size); simp only [World.size_alloc] at hX; obtain ⟨k0, k1, k2, g0, g1, g2⟩ := hX)
      | (go_at_call 62; refine (len_any _ _ _ _).mono ?_; rintro e w2 ⟨rfl, hb2⟩)
      | (go_at_call 60; refine (awake9_any _).mono ?_; rintro e w3 ⟨rfl, hb3⟩)))
    go_ret
    exact ⟨rfl, below_step (below_step (below_step (by go_grown) hb1) hb2) hb3⟩
  · have hn : nextS true false true 0 = 0 := by decide
    go_enter Try.func11, Try.ntmps11
    go_wp2
    refine wp_loop_rounds 4 ?_
    repeat any_goals (rw [rounds_succ]; go_wp2_with (first
      | (go_at_call 61; refine (next_any _ _ _ _ _).mono ?_; rintro e w1 ⟨rfl, hb1⟩; have hX := (Box3.new (w.alloc _) true false true 57).below hb1 (by go_size); simp only [World.size_alloc] at hX; obtain ⟨k0, k1, k2, g0, g1, g2⟩ := hX)
      | (go_at_call 62; refine (len_any _ _ _ _).mono ?_; rintro e w2 ⟨rfl, hb2⟩)
      | (go_at_call 60; refine (awake9_any _).mono ?_; rintro e w3 ⟨rfl, hb3⟩)))
    go_ret
    exact ⟨rfl, below_step (below_step (below_step (by go_grown) hb1) hb2) hb3⟩
  · have hn : nextS true false true k = 0 := (nextS_neg _ _ _ _ h).trans (by decide)
    go_enter Try.func11, Try.ntmps11
    go_wp2
    refine wp_loop_rounds 4 ?_
    repeat any_goals (rw [rounds_succ]; go_wp2_with (first
      | (go_at_call 61; refine (next_any _ _ _ _ _).mono ?_; rintro e w1 ⟨rfl, hb1⟩; have hX := (Box3.new (w.alloc _) true false true 57).below hb1 (by go_size); simp only [World.size_alloc] at hX; obtain ⟨k0, k1, k2, g0, g1, g2⟩ := hX)
      | (go_at_call 62; refine (len_any _ _ _ _).mono ?_; rintro e w2 ⟨rfl, hb2⟩)
      | (go_at_call 60; refine (awake9_any _).mono ?_; rintro e w3 ⟨rfl, hb3⟩)))
    go_ret
    exact ⟨rfl, below_step (below_step (below_step (by go_grown) hb1) hb2) hb3⟩
set_option maxHeartbeats 4000000 in
theorem lanes_ttf (k : Int) (w : World) :
    Calls Try.prog 11 #[lane true true false, .int .i64 k] w fun e w' => e = .returned (.bool true) ∧ Below w.heap.size w w' := by
  have hl : lenS true true false = 2 := by decide
  rcases (by omega : 3 ≤ k ∨ k = 2 ∨ k = 1 ∨ k = 0 ∨ k < 0) with h | rfl | rfl | rfl | h
  · have hn : nextS true true false k = 3 := nextS_out _ _ _ _ h
    go_enter Try.func11, Try.ntmps11
    go_wp2
    refine wp_loop_rounds 4 ?_
    repeat any_goals (rw [rounds_succ]; go_wp2_with (first
      | (go_at_call 61; refine (next_any _ _ _ _ _).mono ?_; rintro e w1 ⟨rfl, hb1⟩; have hX := (Box3.new (w.alloc _) true true false 57).below hb1 (by go_size); simp only [World.size_alloc] at hX; obtain ⟨k0, k1, k2, g0, g1, g2⟩ := hX)
      | (go_at_call 62; refine (len_any _ _ _ _).mono ?_; rintro e w2 ⟨rfl, hb2⟩)
      | (go_at_call 60; refine (awake9_any _).mono ?_; rintro e w3 ⟨rfl, hb3⟩)))
    go_ret
    exact ⟨rfl, below_step (below_step (below_step (by go_grown) hb1) hb2) hb3⟩
  · have hn : nextS true true false 2 = 3 := by decide
    go_enter Try.func11, Try.ntmps11
    go_wp2
    refine wp_loop_rounds 4 ?_
    repeat any_goals (rw [rounds_succ]; go_wp2_with (first
      | (go_at_call 61; refine (next_any _ _ _ _ _).mono ?_; rintro e w1 ⟨rfl, hb1⟩; have hX := (Box3.new (w.alloc _) true true false 57).below hb1 (by go_size); simp only [World.size_alloc] at hX; obtain ⟨k0, k1, k2, g0, g1, g2⟩ := hX)
      | (go_at_call 62; refine (len_any _ _ _ _).mono ?_; rintro e w2 ⟨rfl, hb2⟩)
      | (go_at_call 60; refine (awake9_any _).mono ?_; rintro e w3 ⟨rfl, hb3⟩)))
    go_ret
    exact ⟨rfl, below_step (below_step (below_step (by go_grown) hb1) hb2) hb3⟩
  · have hn : nextS true true false 1 = 1 := by decide
    go_enter Try.func11, Try.ntmps11
    go_wp2
    refine wp_loop_rounds 4 ?_
    repeat any_goals (rw [rounds_succ]; go_wp2_with (first
      | (go_at_call 61; refine (next_any _ _ _ _ _).mono ?_; rintro e w1 ⟨rfl, hb1⟩; have hX := (Box3.new (w.alloc _) true true false 57).below hb1 (by go_size); simp only [World.size_alloc] at hX; obtain ⟨k0, k1, k2, g0, g1, g2⟩ := hX)
      | (go_at_call 62; refine (len_any _ _ _ _).mono ?_; rintro e w2 ⟨rfl, hb2⟩)
      | (go_at_call 60; refine (awake9_any _).mono ?_; rintro e w3 ⟨rfl, hb3⟩)))
    go_ret
    exact ⟨rfl, below_step (below_step (below_step (by go_grown) hb1) hb2) hb3⟩
  · have hn : nextS true true false 0 = 0 := by decide
    go_enter Try.func11, Try.ntmps11
    go_wp2
    refine wp_loop_rounds 4 ?_
    repeat any_goals (rw [rounds_succ]; go_wp2_with (first
      | (go_at_call 61; refine (next_any _ _ _ _ _).mono ?_; rintro e w1 ⟨rfl, hb1⟩; have hX := (Box3.new (w.alloc _) true true false 57).below hb1 (by go_size); simp only [World.size_alloc] at hX; obtain ⟨k0, k1, k2, g0, g1, g2⟩ := hX)
      | (go_at_call 62; refine (len_any _ _ _ _).mono ?_; rintro e w2 ⟨rfl, hb2⟩)
      | (go_at_call 60; refine (awake9_any _).mono ?_; rintro e w3 ⟨rfl, hb3⟩)))
    go_ret
    exact ⟨rfl, below_step (below_step (below_step (by go_grown) hb1) hb2) hb3⟩
  · have hn : nextS true true false k = 0 := (nextS_neg _ _ _ _ h).trans (by decide)
    go_enter Try.func11, Try.ntmps11
    go_wp2
    refine wp_loop_rounds 4 ?_
    repeat any_goals (rw [rounds_succ]; go_wp2_with (first
      | (go_at_call 61; refine (next_any _ _ _ _ _).mono ?_; rintro e w1 ⟨rfl, hb1⟩; have hX := (Box3.new (w.alloc _) true true false 57).below hb1 (by go_size); simp only [World.size_alloc] at hX; obtain ⟨k0, k1, k2, g0, g1, g2⟩ := hX)
      | (go_at_call 62; refine (len_any _ _ _ _).mono ?_; rintro e w2 ⟨rfl, hb2⟩)
      | (go_at_call 60; refine (awake9_any _).mono ?_; rintro e w3 ⟨rfl, hb3⟩)))
    go_ret
    exact ⟨rfl, below_step (below_step (below_step (by go_grown) hb1) hb2) hb3⟩
set_option maxHeartbeats 4000000 in
theorem lanes_ttt (k : Int) (w : World) :
    Calls Try.prog 11 #[lane true true true, .int .i64 k] w fun e w' => e = .returned (.bool true) ∧ Below w.heap.size w w' := by
  have hl : lenS true true true = 3 := by decide
  rcases (by omega : 3 ≤ k ∨ k = 2 ∨ k = 1 ∨ k = 0 ∨ k < 0) with h | rfl | rfl | rfl | h
  · have hn : nextS true true true k = 3 := nextS_out _ _ _ _ h
    go_enter Try.func11, Try.ntmps11
    go_wp2
    refine wp_loop_rounds 4 ?_
    repeat any_goals (rw [rounds_succ]; go_wp2_with (first
      | (go_at_call 61; refine (next_any _ _ _ _ _).mono ?_; rintro e w1 ⟨rfl, hb1⟩; have hX := (Box3.new (w.alloc _) true true true 57).below hb1 (by go_size); simp only [World.size_alloc] at hX; obtain ⟨k0, k1, k2, g0, g1, g2⟩ := hX)
      | (go_at_call 62; refine (len_any _ _ _ _).mono ?_; rintro e w2 ⟨rfl, hb2⟩)
      | (go_at_call 60; refine (awake9_any _).mono ?_; rintro e w3 ⟨rfl, hb3⟩)))
    go_ret
    exact ⟨rfl, below_step (below_step (below_step (by go_grown) hb1) hb2) hb3⟩
  · have hn : nextS true true true 2 = 2 := by decide
    go_enter Try.func11, Try.ntmps11
    go_wp2
    refine wp_loop_rounds 4 ?_
    repeat any_goals (rw [rounds_succ]; go_wp2_with (first
      | (go_at_call 61; refine (next_any _ _ _ _ _).mono ?_; rintro e w1 ⟨rfl, hb1⟩; have hX := (Box3.new (w.alloc _) true true true 57).below hb1 (by go_size); simp only [World.size_alloc] at hX; obtain ⟨k0, k1, k2, g0, g1, g2⟩ := hX)
      | (go_at_call 62; refine (len_any _ _ _ _).mono ?_; rintro e w2 ⟨rfl, hb2⟩)
      | (go_at_call 60; refine (awake9_any _).mono ?_; rintro e w3 ⟨rfl, hb3⟩)))
    go_ret
    exact ⟨rfl, below_step (below_step (below_step (by go_grown) hb1) hb2) hb3⟩
  · have hn : nextS true true true 1 = 1 := by decide
    go_enter Try.func11, Try.ntmps11
    go_wp2
    refine wp_loop_rounds 4 ?_
    repeat any_goals (rw [rounds_succ]; go_wp2_with (first
      | (go_at_call 61; refine (next_any _ _ _ _ _).mono ?_; rintro e w1 ⟨rfl, hb1⟩; have hX := (Box3.new (w.alloc _) true true true 57).below hb1 (by go_size); simp only [World.size_alloc] at hX; obtain ⟨k0, k1, k2, g0, g1, g2⟩ := hX)
      | (go_at_call 62; refine (len_any _ _ _ _).mono ?_; rintro e w2 ⟨rfl, hb2⟩)
      | (go_at_call 60; refine (awake9_any _).mono ?_; rintro e w3 ⟨rfl, hb3⟩)))
    go_ret
    exact ⟨rfl, below_step (below_step (below_step (by go_grown) hb1) hb2) hb3⟩
  · have hn : nextS true true true 0 = 0 := by decide
    go_enter Try.func11, Try.ntmps11
    go_wp2
    refine wp_loop_rounds 4 ?_
    repeat any_goals (rw [rounds_succ]; go_wp2_with (first
      | (go_at_call 61; refine (next_any _ _ _ _ _).mono ?_; rintro e w1 ⟨rfl, hb1⟩; have hX := (Box3.new (w.alloc _) true true true 57).below hb1 (by go_size); simp only [World.size_alloc] at hX; obtain ⟨k0, k1, k2, g0, g1, g2⟩ := hX)
      | (go_at_call 62; refine (len_any _ _ _ _).mono ?_; rintro e w2 ⟨rfl, hb2⟩)
      | (go_at_call 60; refine (awake9_any _).mono ?_; rintro e w3 ⟨rfl, hb3⟩)))
    go_ret
    exact ⟨rfl, below_step (below_step (below_step (by go_grown) hb1) hb2) hb3⟩
  · have hn : nextS true true true k = 0 := (nextS_neg _ _ _ _ h).trans (by decide)
    go_enter Try.func11, Try.ntmps11
    go_wp2
    refine wp_loop_rounds 4 ?_
    repeat any_goals (rw [rounds_succ]; go_wp2_with (first
      | (go_at_call 61; refine (next_any _ _ _ _ _).mono ?_; rintro e w1 ⟨rfl, hb1⟩; have hX := (Box3.new (w.alloc _) true true true 57).below hb1 (by go_size); simp only [World.size_alloc] at hX; obtain ⟨k0, k1, k2, g0, g1, g2⟩ := hX)
      | (go_at_call 62; refine (len_any _ _ _ _).mono ?_; rintro e w2 ⟨rfl, hb2⟩)
      | (go_at_call 60; refine (awake9_any _).mono ?_; rintro e w3 ⟨rfl, hb3⟩)))
    go_ret
    exact ⟨rfl, below_step (below_step (below_step (by go_grown) hb1) hb2) hb3⟩

theorem RuleLanes_any (p q r : Bool) (k : Int) (w : World) :
    Calls Try.prog 11 #[lane p q r, .int .i64 k] w fun e w' => e = .returned (.bool true) ∧ Below w.heap.size w w' := by
  cases p <;> cases q <;> cases r
  · exact lanes_fff k w
  · exact lanes_fft k w
  · exact lanes_ftf k w
  · exact lanes_ftt k w
  · exact lanes_tff k w
  · exact lanes_tft k w
  · exact lanes_ttf k w
  · exact lanes_ttt k w
end Go.Proofs.Ytplajmcjkddikaa.Rule
