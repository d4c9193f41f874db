/- Package lock, by hand walks: locks that are taken in one order; of a set that the call itself made, and of none. -/
import Derived.Test.YtplajmcjkddikaaLanes
import Derived.Test.YtplajmcjkddikaaWKept
import Derived.Lib.Hide
namespace Go.Proofs.Ytplajmcjkddikaa.Lock
open Go.RowKit Go.Proofs.YtplajmcjkddikaaW.PrintWords Go.Proofs.YtplajmcjkddikaaW.PrintMore Go.Proofs.Ytplajmcjkddikaa.Rule
set_option linter.unusedVariables false

/-- the set at block b: three owners, and how often one was taken -/
structure LS (w : World) (b : Nat) (x y z t : Int) : Prop where
  c0 : w.cell? ⟨b, 0, none⟩ = some (.int .i64 x)
  c1 : w.cell? ⟨b, 1, none⟩ = some (.int .i64 y)
  c2 : w.cell? ⟨b, 2, none⟩ = some (.int .i64 z)
  c3 : w.cell? ⟨b, 3, none⟩ = some (.int .i64 t)
  f0 : w.frozen? ⟨b, 0, none⟩ = false
  f1 : w.frozen? ⟨b, 1, none⟩ = false
  f2 : w.frozen? ⟨b, 2, none⟩ = false
  f3 : w.frozen? ⟨b, 3, none⟩ = false
theorem LS.lt {w : World} {b : Nat} {x y z t : Int} (h : LS w b x y z t) : b < w.heap.size := World.block_lt_of_cell? w _ h.c0
theorem LS.below {w w' : World} {b B : Nat} {x y z t : Int} (h : LS w b x y z t) (hb : Below B w w') (hl : b < B) : LS w' b x y z t :=
  ⟨(hb.cell (p := ⟨b, 0, none⟩) hl).trans h.c0, (hb.cell (p := ⟨b, 1, none⟩) hl).trans h.c1, (hb.cell (p := ⟨b, 2, none⟩) hl).trans h.c2, (hb.cell (p := ⟨b, 3, none⟩) hl).trans h.c3,
   (hb.frozen (p := ⟨b, 0, none⟩) hl).trans h.f0, (hb.frozen (p := ⟨b, 1, none⟩) hl).trans h.f1, (hb.frozen (p := ⟨b, 2, none⟩) hl).trans h.f2, (hb.frozen (p := ⟨b, 3, none⟩) hl).trans h.f3⟩
theorem LS.alloc {w : World} {b : Nat} {x y z t : Int} (h : LS w b x y z t) (o : Obj) : LS (w.alloc o) b x y z t := h.below ((Below.refl w.heap.size w).alloc (Nat.le_refl _) o) h.lt
theorem cell_of_heap {w w' : World} {b o : Nat} (h : w'.heap[b]? = w.heap[b]?) : w'.cell? ⟨b, o, none⟩ = w.cell? ⟨b, o, none⟩ := by simp [World.cell?, h]
theorem frozen_of_heap {w w' : World} {b o : Nat} (h : w'.heap[b]? = w.heap[b]?) : w'.frozen? ⟨b, o, none⟩ = w.frozen? ⟨b, o, none⟩ := by simp [World.frozen?, h]
theorem LS.kept {w w' : World} {b : Nat} {x y z t : Int} {S : Nat → Prop} (h : LS w b x y z t) (hk : Kept w w' S) (hl : ¬ S b) : LS w' b x y z t := by
  have e := hk.2 b h.lt hl
  exact ⟨(cell_of_heap e).trans h.c0, (cell_of_heap e).trans h.c1, (cell_of_heap e).trans h.c2, (cell_of_heap e).trans h.c3, (frozen_of_heap e).trans h.f0, (frozen_of_heap e).trans h.f1, (frozen_of_heap e).trans h.f2, (frozen_of_heap e).trans h.f3⟩
theorem LS.set0 {w : World} {b : Nat} {x y z t : Int} (h : LS w b x y z t) (v : Int) : LS (w.setCell ⟨b, 0, none⟩ (.int .i64 v)) b v y z t := by
  obtain ⟨c0, c1, c2, c3, f0, f1, f2, f3⟩ := h
  exact ⟨by go_cell, by go_cell, by go_cell, by go_cell, by simp [go_sem, f0], by simp [go_sem, f1], by simp [go_sem, f2], by simp [go_sem, f3]⟩
theorem LS.set1 {w : World} {b : Nat} {x y z t : Int} (h : LS w b x y z t) (v : Int) : LS (w.setCell ⟨b, 1, none⟩ (.int .i64 v)) b x v z t := by
  obtain ⟨c0, c1, c2, c3, f0, f1, f2, f3⟩ := h
  exact ⟨by go_cell, by go_cell, by go_cell, by go_cell, by simp [go_sem, f0], by simp [go_sem, f1], by simp [go_sem, f2], by simp [go_sem, f3]⟩
theorem LS.set2 {w : World} {b : Nat} {x y z t : Int} (h : LS w b x y z t) (v : Int) : LS (w.setCell ⟨b, 2, none⟩ (.int .i64 v)) b x y v t := by
  obtain ⟨c0, c1, c2, c3, f0, f1, f2, f3⟩ := h
  exact ⟨by go_cell, by go_cell, by go_cell, by go_cell, by simp [go_sem, f0], by simp [go_sem, f1], by simp [go_sem, f2], by simp [go_sem, f3]⟩
theorem LS.set3 {w : World} {b : Nat} {x y z t : Int} (h : LS w b x y z t) (v : Int) : LS (w.setCell ⟨b, 3, none⟩ (.int .i64 v)) b x y z v := by
  obtain ⟨c0, c1, c2, c3, f0, f1, f2, f3⟩ := h
  exact ⟨by go_cell, by go_cell, by go_cell, by go_cell, by simp [go_sem, f0], by simp [go_sem, f1], by simp [go_sem, f2], by simp [go_sem, f3]⟩

/-- only block b has changed, of what was there -/
def Upd (b : Nat) (w w' : World) : Prop := Kept w w' (fun i => i = b) ∧ Below b w w'
theorem Upd.refl (b : Nat) (w : World) : Upd b w w := ⟨Kept.refl _ _, Below.refl _ _⟩
theorem Upd.of_below {b : Nat} {w w' : World} (h : Below w.heap.size w w') (hb : b ≤ w.heap.size) : Upd b w w' := ⟨Kept.of_below h _, h.mono hb⟩
theorem Upd.trans {b : Nat} {w w1 w2 : World} (h : Upd b w w1) (k : Upd b w1 w2) : Upd b w w2 := ⟨h.1.then_ k.1 (fun i hi => .inl hi), h.2.trans k.2⟩
theorem Upd.setCell {b : Nat} {w w1 : World} (h : Upd b w w1) (o : Nat) (v : Value) : Upd b w (w1.setCell ⟨b, o, none⟩ v) := ⟨h.1.setCell (p := ⟨b, o, none⟩) (.inl rfl) v, h.2.setCell (Nat.le_refl _) v⟩
theorem Upd.two {b : Nat} {w w1 w2 : World} {x y z t : Int} (h : LS w b x y z t) (h1 : Below w.heap.size w w1) (h2 : Below w1.heap.size w1 w2) : Upd b w w2 :=
  (Upd.of_below h1 (Nat.le_of_lt h.lt)).trans (Upd.of_below h2 (Nat.le_of_lt (h.below h1 h.lt).lt))

def at3 (x y z : Int) (k : Int) : Int := if k = 0 then x else if k = 1 then y else if k = 2 then z else 0
theorem at3_out (x y z k : Int) (h : k < 0 ∨ 3 ≤ k) : at3 x y z k = 0 := by unfold at3; rw [if_neg (by omega), if_neg (by omega), if_neg (by omega)]

theorem owner_any (b : Nat) (x y z t k : Int) (w : World) (h : LS w b x y z t) :
    Calls Try.prog 67 #[.pointer (some ⟨b, 0, none⟩), .int .i64 k] w fun e w' => e = .returned (.int .i64 (at3 x y z k)) ∧ w = w' := by
  obtain ⟨c0, c1, c2, c3, f0, f1, f2, f3⟩ := h
  by_cases hk : 0 ≤ k ∧ k < 3
  · rcases (by omega : k = 0 ∨ k = 1 ∨ k = 2) with rfl | rfl | rfl <;>
    · go_enter Try.func67, Try.ntmps67
      go_wp2; go_ret; exact ⟨rfl, rfl⟩
  · rw [at3_out x y z k (by omega)]
    rcases (by omega : k < 0 ∨ 3 ≤ k) with hk0 | hk0 <;>
    · clear hk
      go_enter Try.func67, Try.ntmps67
      go_wp2; go_ret; exact ⟨rfl, rfl⟩
theorem owner_nil (k : Int) (w : World) :
    Calls Try.prog 67 #[.pointer none, .int .i64 k] w fun e w' => e = .returned (.int .i64 0) ∧ w = w' := by
  go_enter Try.func67, Try.ntmps67
  go_wp2; go_ret; exact ⟨rfl, rfl⟩
theorem taken_any (b : Nat) (x y z t : Int) (w : World) (h : LS w b x y z t) :
    Calls Try.prog 70 #[.pointer (some ⟨b, 0, none⟩)] w fun e w' => e = .returned (.int .i64 t) ∧ w = w' := by
  obtain ⟨c0, c1, c2, c3, f0, f1, f2, f3⟩ := h
  go_enter Try.func70, Try.ntmps70
  go_wp2; go_ret; exact ⟨rfl, rfl⟩
theorem taken_nil (w : World) :
    Calls Try.prog 70 #[.pointer none] w fun e w' => e = .returned (.int .i64 0) ∧ w = w' := by
  go_enter Try.func70, Try.ntmps70
  go_wp2; go_ret; exact ⟨rfl, rfl⟩
theorem idle_nil (w : World) :
    Calls Try.prog 71 #[.pointer none] w fun e w' => e = .returned (.bool true) ∧ w = w' := by
  go_enter Try.func71, Try.ntmps71
  go_wp2; go_ret; exact ⟨rfl, rfl⟩
theorem held_nil (k : Int) (w : World) :
    Calls Try.prog 72 #[.pointer none, .int .i64 k] w fun e w' => e = .returned (lane false false false) ∧ Below w.heap.size w w' := by
  by_cases h : k = 0
  · subst h
    go_enter Try.func72, Try.ntmps72
    go_wp2
    refine wp_loop_rounds 4 ?_
    repeat any_goals (rw [rounds_succ]; go_wp2_with (go_at_call 67; refine (owner_nil _ _).mono ?_; rintro e w1 ⟨rfl, rfl⟩))
    go_returns
    exact ⟨rfl, by go_grown⟩
  · have h1 : (k != 0) = true := by simpa using h
    have h2 : ((0 : Int) == k) = false := by simp; omega
    go_enter Try.func72, Try.ntmps72
    go_wp2
    refine wp_loop_rounds 4 ?_
    repeat any_goals (rw [rounds_succ]; go_wp2_with (go_at_call 67; refine (owner_nil _ _).mono ?_; rintro e w1 ⟨rfl, rfl⟩))
    go_returns
    exact ⟨rfl, by go_grown⟩
theorem try_nil (k who : Int) (w : World) :
    Calls Try.prog 66 #[.pointer none, .int .i64 k, .int .i64 who] w fun e w' => e = .returned (.int .i64 1) ∧ w = w' := by
  go_enter Try.func66, Try.ntmps66
  go_wp2; go_ret; exact ⟨rfl, rfl⟩
theorem free_nil (k who : Int) (w : World) :
    Calls Try.prog 73 #[.pointer none, .int .i64 k, .int .i64 who] w fun e w' => e = .returned (.int .i64 1) ∧ w = w' := by
  go_enter Try.func73, Try.ntmps73
  go_wp2; go_ret; exact ⟨rfl, rfl⟩
theorem all_nil (who : Int) (w : World) :
    Calls Try.prog 74 #[.pointer none, .int .i64 who] w fun e w' => e = .returned (.int .i64 0) ∧ w = w' := by
  go_enter Try.func74, Try.ntmps74
  go_wp2
  refine wp_loop_rounds 4 ?_
  repeat any_goals (rw [rounds_succ]; go_wp2_with (go_at_call 73; refine (free_nil _ _ _).mono ?_; rintro e w1 ⟨rfl, rfl⟩))
  go_ret
  exact ⟨rfl, rfl⟩

def isB (x who : Int) : Bool := who != 0 && x == who
theorem held_zero (b : Nat) (x y z t : Int) (w : World) (h : LS w b x y z t) :
    Calls Try.prog 72 #[.pointer (some ⟨b, 0, none⟩), .int .i64 0] w fun e w' => e = .returned (lane false false false) ∧ Below w.heap.size w w' := by
  obtain ⟨c0, c1, c2, c3, f0, f1, f2, f3⟩ := h
  go_enter Try.func72, Try.ntmps72
  go_wp2
  refine wp_loop_rounds 4 ?_
  repeat any_goals (rw [rounds_succ]; go_wp2_with fail)
  go_returns
  exact ⟨rfl, by go_grown⟩
/-- the set after new blocks of the call's own -/
theorem owner_two (b : Nat) (x y z t k : Int) (w : World) (o1 : Obj) (cs : Array Value) (ty : TypeId) (fr : Nat × Nat) (h : LS w b x y z t) :
    Calls Try.prog 67 #[.pointer (some ⟨b, 0, none⟩), .int .i64 k] ((w.alloc o1).alloc (.cells cs ty fr)) fun e w' => e = .returned (.int .i64 (at3 x y z k)) ∧ (w.alloc o1).alloc (.cells cs ty fr) = w' :=
  owner_any b x y z t k _ ((h.alloc _).alloc _)
theorem held_pos (b : Nat) (x y z t who : Int) (p q r : Bool) (w : World) (h : LS w b x y z t) (h0 : (who != 0) = true) (hx : (x == who) = p) (hy : (y == who) = q) (hz : (z == who) = r) :
    Calls Try.prog 72 #[.pointer (some ⟨b, 0, none⟩), .int .i64 who] w fun e w' => e = .returned (lane p q r) ∧ Below w.heap.size w w' := by
  have a0 : at3 x y z 0 = x := rfl
  have a1 : at3 x y z 1 = y := rfl
  have a2 : at3 x y z 2 = z := rfl
  cases p <;> cases q <;> cases r <;>
  · go_enter Try.func72, Try.ntmps72
    go_wp2
    refine wp_loop_rounds 4 ?_
    repeat any_goals (rw [rounds_succ]; go_wp2_with (go_at_call 67; refine (owner_two b x y z t _ w _ _ _ _ h).mono ?_; rintro e w1 ⟨rfl, rfl⟩))
    go_returns
    exact ⟨rfl, by go_grown⟩
theorem held_any (b : Nat) (x y z t who : Int) (w : World) (h : LS w b x y z t) :
    Calls Try.prog 72 #[.pointer (some ⟨b, 0, none⟩), .int .i64 who] w fun e w' => e = .returned (lane (isB x who) (isB y who) (isB z who)) ∧ Below w.heap.size w w' := by
  by_cases h0 : who = 0
  · subst h0
    have e : ∀ x, isB x 0 = false := fun x => rfl
    rw [e, e, e]
    exact held_zero b x y z t w h
  · have h1 : (who != 0) = true := by simpa using h0
    have e : ∀ x, isB x who = (x == who) := fun x => by unfold isB; rw [h1]; rfl
    rw [e, e, e]
    exact held_pos b x y z t who _ _ _ w h h1 rfl rfl rfl

/-- what Try answers -/
def tryE (x y z k who : Int) : Int :=
  if k < 0 ∨ 3 ≤ k ∨ who < 1 then 1 else if nextS (x == who) (y == who) (z == who) k < 3 then 17 else if at3 x y z k ≠ 0 then 18 else 0
def put3 (x y z k v : Int) : Int × Int × Int := (if k = 0 then v else x, if k = 1 then v else y, if k = 2 then v else z)
theorem try_arg (b : Nat) (k who : Int) (w : World) (h : k < 0 ∨ 3 ≤ k ∨ who < 1) :
    Calls Try.prog 66 #[.pointer (some ⟨b, 0, none⟩), .int .i64 k, .int .i64 who] w fun e w' => e = .returned (.int .i64 1) ∧ w = w' := by
  rcases (by omega : k < 0 ∨ (0 ≤ k ∧ 3 ≤ k) ∨ (0 ≤ k ∧ k < 3 ∧ who < 1)) with h1 | ⟨h0, h1⟩ | ⟨h0, h1, h2⟩ <;>
  · clear h
    go_enter Try.func66, Try.ntmps66
    go_wp2; go_ret; exact ⟨rfl, rfl⟩
theorem try_0 (b : Nat) (x y z t who : Int) (w : World) (h : LS w b x y z t) (hw : 1 ≤ who) (ht : 0 ≤ t ∧ t < 4611686018427387904) :
    Calls Try.prog 66 #[.pointer (some ⟨b, 0, none⟩), .int .i64 0, .int .i64 who] w fun e w' => e = .returned (.int .i64 (tryE x y z 0 who)) ∧
      (tryE x y z 0 who = 0 → LS w' b who y z (t + 1)) ∧ (tryE x y z 0 who ≠ 0 → LS w' b x y z t) ∧ Upd b w w' := by
  obtain ⟨ht0, ht1⟩ := ht
  have h1 : (who != 0) = true := by simp; omega
  have e : ∀ x, isB x who = (x == who) := fun x => by unfold isB; rw [h1]; rfl
  have hL := h
  have hlt := h.lt
  have a0 : at3 x y z 0 = x := rfl
  have E : tryE x y z 0 who = if nextS (x == who) (y == who) (z == who) 0 < 3 then 17 else if x ≠ 0 then 18 else 0 := by
    unfold tryE; rw [if_neg (by omega), a0]
  rw [E]; clear E
  by_cases hn : nextS (x == who) (y == who) (z == who) 0 < 3
  · rw [if_pos hn]
    go_enter Try.func66, Try.ntmps66
    go_wp2_with (first
      | (go_at_call 72; refine (held_any b x y z t who _ h).mono ?_; rintro e w1 ⟨rfl, hb1⟩; rw [e, e, e])
      | (go_at_call 61; refine (next_any _ _ _ _ _).mono ?_; rintro e w2 ⟨rfl, hb2⟩))
    go_ret
    exact ⟨rfl, fun h => absurd h (by decide), fun _ => (hL.below hb1 hlt).below hb2 (hL.below hb1 hlt).lt, Upd.two hL hb1 hb2⟩
  · rw [if_neg hn]
    by_cases ho : x = 0
    · rw [if_neg (by omega)]
      subst ho
      go_enter Try.func66, Try.ntmps66
      go_wp2_with (first
        | (go_at_call 72; refine (held_any b _ _ _ t who _ h).mono ?_; rintro e w1 ⟨rfl, hb1⟩; rw [e, e, e])
        | (go_at_call 61; refine (next_any _ _ _ _ _).mono ?_; rintro e w2 ⟨rfl, hb2⟩; obtain ⟨c0, c1, c2, c3, f0, f1, f2, f3⟩ := (hL.below hb1 hlt).below hb2 (hL.below hb1 hlt).lt))
      go_ret
      have hL2 := (hL.below hb1 hlt).below hb2 (hL.below hb1 hlt).lt
      have hk : Upd b w w2 := Upd.two hL hb1 hb2
      refine ⟨rfl, fun _ => (hL2.set0 who).set3 (t + 1), fun h => absurd rfl h, ?_⟩
      exact (hk.setCell 0 _).setCell 3 _
    · rw [if_pos ho]
      have ho' : (x != 0) = true := by simpa using ho
      go_enter Try.func66, Try.ntmps66
      go_wp2_with (first
        | (go_at_call 72; refine (held_any b x y z t who _ h).mono ?_; rintro e w1 ⟨rfl, hb1⟩; rw [e, e, e])
        | (go_at_call 61; refine (next_any _ _ _ _ _).mono ?_; rintro e w2 ⟨rfl, hb2⟩; obtain ⟨c0, c1, c2, c3, f0, f1, f2, f3⟩ := (hL.below hb1 hlt).below hb2 (hL.below hb1 hlt).lt))
      go_ret
      exact ⟨rfl, fun h => absurd h (by decide), fun _ => (hL.below hb1 hlt).below hb2 (hL.below hb1 hlt).lt, Upd.two hL hb1 hb2⟩
theorem try_1 (b : Nat) (x y z t who : Int) (w : World) (h : LS w b x y z t) (hw : 1 ≤ who) (ht : 0 ≤ t ∧ t < 4611686018427387904) :
    Calls Try.prog 66 #[.pointer (some ⟨b, 0, none⟩), .int .i64 1, .int .i64 who] w fun e w' => e = .returned (.int .i64 (tryE x y z 1 who)) ∧
      (tryE x y z 1 who = 0 → LS w' b x who z (t + 1)) ∧ (tryE x y z 1 who ≠ 0 → LS w' b x y z t) ∧ Upd b w w' := by
  obtain ⟨ht0, ht1⟩ := ht
  have h1 : (who != 0) = true := by simp; omega
  have e : ∀ x, isB x who = (x == who) := fun x => by unfold isB; rw [h1]; rfl
  have hL := h
  have hlt := h.lt
  have a0 : at3 x y z 1 = y := rfl
  have E : tryE x y z 1 who = if nextS (x == who) (y == who) (z == who) 1 < 3 then 17 else if y ≠ 0 then 18 else 0 := by
    unfold tryE; rw [if_neg (by omega), a0]
  rw [E]; clear E
  by_cases hn : nextS (x == who) (y == who) (z == who) 1 < 3
  · rw [if_pos hn]
    go_enter Try.func66, Try.ntmps66
    go_wp2_with (first
      | (go_at_call 72; refine (held_any b x y z t who _ h).mono ?_; rintro e w1 ⟨rfl, hb1⟩; rw [e, e, e])
      | (go_at_call 61; refine (next_any _ _ _ _ _).mono ?_; rintro e w2 ⟨rfl, hb2⟩))
    go_ret
    exact ⟨rfl, fun h => absurd h (by decide), fun _ => (hL.below hb1 hlt).below hb2 (hL.below hb1 hlt).lt, Upd.two hL hb1 hb2⟩
  · rw [if_neg hn]
    by_cases ho : y = 0
    · rw [if_neg (by omega)]
      subst ho
      go_enter Try.func66, Try.ntmps66
      go_wp2_with (first
        | (go_at_call 72; refine (held_any b _ _ _ t who _ h).mono ?_; rintro e w1 ⟨rfl, hb1⟩; rw [e, e, e])
        | (go_at_call 61; refine (next_any _ _ _ _ _).mono ?_; rintro e w2 ⟨rfl, hb2⟩; obtain ⟨c0, c1, c2, c3, f0, f1, f2, f3⟩ := (hL.below hb1 hlt).below hb2 (hL.below hb1 hlt).lt))
      go_ret
      have hL2 := (hL.below hb1 hlt).below hb2 (hL.below hb1 hlt).lt
      have hk : Upd b w w2 := Upd.two hL hb1 hb2
      refine ⟨rfl, fun _ => (hL2.set1 who).set3 (t + 1), fun h => absurd rfl h, ?_⟩
      exact (hk.setCell 1 _).setCell 3 _
    · rw [if_pos ho]
      have ho' : (y != 0) = true := by simpa using ho
      go_enter Try.func66, Try.ntmps66
      go_wp2_with (first
        | (go_at_call 72; refine (held_any b x y z t who _ h).mono ?_; rintro e w1 ⟨rfl, hb1⟩; rw [e, e, e])
        | (go_at_call 61; refine (next_any _ _ _ _ _).mono ?_; rintro e w2 ⟨rfl, hb2⟩; obtain ⟨c0, c1, c2, c3, f0, f1, f2, f3⟩ := (hL.below hb1 hlt).below hb2 (hL.below hb1 hlt).lt))
      go_ret
      exact ⟨rfl, fun h => absurd h (by decide), fun _ => (hL.below hb1 hlt).below hb2 (hL.below hb1 hlt).lt, Upd.two hL hb1 hb2⟩
theorem try_2 (b : Nat) (x y z t who : Int) (w : World) (h : LS w b x y z t) (hw : 1 ≤ who) (ht : 0 ≤ t ∧ t < 4611686018427387904) :
    Calls Try.prog 66 #[.pointer (some ⟨b, 0, none⟩), .int .i64 2, .int .i64 who] w fun e w' => e = .returned (.int .i64 (tryE x y z 2 who)) ∧
      (tryE x y z 2 who = 0 → LS w' b x y who (t + 1)) ∧ (tryE x y z 2 who ≠ 0 → LS w' b x y z t) ∧ Upd b w w' := by
  obtain ⟨ht0, ht1⟩ := ht
  have h1 : (who != 0) = true := by simp; omega
  have e : ∀ x, isB x who = (x == who) := fun x => by unfold isB; rw [h1]; rfl
  have hL := h
  have hlt := h.lt
  have a0 : at3 x y z 2 = z := rfl
  have E : tryE x y z 2 who = if nextS (x == who) (y == who) (z == who) 2 < 3 then 17 else if z ≠ 0 then 18 else 0 := by
    unfold tryE; rw [if_neg (by omega), a0]
  rw [E]; clear E
  by_cases hn : nextS (x == who) (y == who) (z == who) 2 < 3
  · rw [if_pos hn]
    go_enter Try.func66, Try.ntmps66
    go_wp2_with (first
      | (go_at_call 72; refine (held_any b x y z t who _ h).mono ?_; rintro e w1 ⟨rfl, hb1⟩; rw [e, e, e])
      | (go_at_call 61; refine (next_any _ _ _ _ _).mono ?_; rintro e w2 ⟨rfl, hb2⟩))
    go_ret
    exact ⟨rfl, fun h => absurd h (by decide), fun _ => (hL.below hb1 hlt).below hb2 (hL.below hb1 hlt).lt, Upd.two hL hb1 hb2⟩
  · rw [if_neg hn]
    by_cases ho : z = 0
    · rw [if_neg (by omega)]
      subst ho
      go_enter Try.func66, Try.ntmps66
      go_wp2_with (first
        | (go_at_call 72; refine (held_any b _ _ _ t who _ h).mono ?_; rintro e w1 ⟨rfl, hb1⟩; rw [e, e, e])
        | (go_at_call 61; refine (next_any _ _ _ _ _).mono ?_; rintro e w2 ⟨rfl, hb2⟩; obtain ⟨c0, c1, c2, c3, f0, f1, f2, f3⟩ := (hL.below hb1 hlt).below hb2 (hL.below hb1 hlt).lt))
      go_ret
      have hL2 := (hL.below hb1 hlt).below hb2 (hL.below hb1 hlt).lt
      have hk : Upd b w w2 := Upd.two hL hb1 hb2
      refine ⟨rfl, fun _ => (hL2.set2 who).set3 (t + 1), fun h => absurd rfl h, ?_⟩
      exact (hk.setCell 2 _).setCell 3 _
    · rw [if_pos ho]
      have ho' : (z != 0) = true := by simpa using ho
      go_enter Try.func66, Try.ntmps66
      go_wp2_with (first
        | (go_at_call 72; refine (held_any b x y z t who _ h).mono ?_; rintro e w1 ⟨rfl, hb1⟩; rw [e, e, e])
        | (go_at_call 61; refine (next_any _ _ _ _ _).mono ?_; rintro e w2 ⟨rfl, hb2⟩; obtain ⟨c0, c1, c2, c3, f0, f1, f2, f3⟩ := (hL.below hb1 hlt).below hb2 (hL.below hb1 hlt).lt))
      go_ret
      exact ⟨rfl, fun h => absurd h (by decide), fun _ => (hL.below hb1 hlt).below hb2 (hL.below hb1 hlt).lt, Upd.two hL hb1 hb2⟩

theorem try_any (b : Nat) (x y z t k who : Int) (w : World) (h : LS w b x y z t) (ht : 0 ≤ t ∧ t < 4611686018427387904) :
    Calls Try.prog 66 #[.pointer (some ⟨b, 0, none⟩), .int .i64 k, .int .i64 who] w fun e w' => e = .returned (.int .i64 (tryE x y z k who)) ∧
      (tryE x y z k who = 0 → LS w' b (put3 x y z k who).1 (put3 x y z k who).2.1 (put3 x y z k who).2.2 (t + 1)) ∧ (tryE x y z k who ≠ 0 → LS w' b x y z t) ∧ Upd b w w' := by
  by_cases hk : k < 0 ∨ 3 ≤ k ∨ who < 1
  · have E : tryE x y z k who = 1 := by unfold tryE; rw [if_pos hk]
    rw [E]
    refine (try_arg b k who w hk).mono ?_
    rintro e w' ⟨rfl, rfl⟩
    exact ⟨rfl, fun h => absurd h (by decide), fun _ => h, Upd.refl _ _⟩
  · rcases (by omega : k = 0 ∨ k = 1 ∨ k = 2) with rfl | rfl | rfl
    · exact try_0 b x y z t who w h (by omega) ht
    · exact try_1 b x y z t who w h (by omega) ht
    · exact try_2 b x y z t who w h (by omega) ht
/-- what Free answers, and what it leaves -/
def freeE (x y z k who : Int) : Int := if k < 0 ∨ 3 ≤ k ∨ who < 1 then 1 else if at3 x y z k ≠ who then 8 else 0
def fr (x y z k who : Int) : Int × Int × Int := if freeE x y z k who = 0 then put3 x y z k 0 else (x, y, z)
theorem free_arg (b : Nat) (k who : Int) (w : World) (h : k < 0 ∨ 3 ≤ k ∨ who < 1) :
    Calls Try.prog 73 #[.pointer (some ⟨b, 0, none⟩), .int .i64 k, .int .i64 who] w fun e w' => e = .returned (.int .i64 1) ∧ w = w' := by
  rcases (by omega : k < 0 ∨ (0 ≤ k ∧ 3 ≤ k) ∨ (0 ≤ k ∧ k < 3 ∧ who < 1)) with h1 | ⟨h0, h1⟩ | ⟨h0, h1, h2⟩ <;>
  · clear h
    go_enter Try.func73, Try.ntmps73
    go_wp2; go_ret; exact ⟨rfl, rfl⟩
theorem free_0 (b : Nat) (x y z t who : Int) (w : World) (h : LS w b x y z t) (hw : 1 ≤ who) :
    Calls Try.prog 73 #[.pointer (some ⟨b, 0, none⟩), .int .i64 0, .int .i64 who] w fun e w' => e = .returned (.int .i64 (if x ≠ who then 8 else 0)) ∧
      (x = who → LS w' b 0 y z t) ∧ (x ≠ who → LS w' b x y z t) ∧ Upd b w w' := by
  have hL := h
  obtain ⟨c0, c1, c2, c3, f0, f1, f2, f3⟩ := h
  by_cases ho : x = who
  · have ho' : (x != who) = false := by simpa using ho
    rw [if_neg (fun h => h ho)]
    have HO := Lib.hid ho
    clear ho
    go_enter Try.func73, Try.ntmps73
    go_wp2
    go_ret
    exact ⟨rfl, fun _ => hL.set0 0, fun h => absurd HO.out h, (Upd.refl b w).setCell 0 _⟩
  · have ho' : (x != who) = true := by simpa using ho
    rw [if_pos ho]
    go_enter Try.func73, Try.ntmps73
    go_wp2
    go_ret
    exact ⟨rfl, fun h => absurd h ho, fun _ => hL, Upd.refl _ _⟩
theorem free_1 (b : Nat) (x y z t who : Int) (w : World) (h : LS w b x y z t) (hw : 1 ≤ who) :
    Calls Try.prog 73 #[.pointer (some ⟨b, 0, none⟩), .int .i64 1, .int .i64 who] w fun e w' => e = .returned (.int .i64 (if y ≠ who then 8 else 0)) ∧
      (y = who → LS w' b x 0 z t) ∧ (y ≠ who → LS w' b x y z t) ∧ Upd b w w' := by
  have hL := h
  obtain ⟨c0, c1, c2, c3, f0, f1, f2, f3⟩ := h
  by_cases ho : y = who
  · have ho' : (y != who) = false := by simpa using ho
    rw [if_neg (fun h => h ho)]
    have HO := Lib.hid ho
    clear ho
    go_enter Try.func73, Try.ntmps73
    go_wp2
    go_ret
    exact ⟨rfl, fun _ => hL.set1 0, fun h => absurd HO.out h, (Upd.refl b w).setCell 1 _⟩
  · have ho' : (y != who) = true := by simpa using ho
    rw [if_pos ho]
    go_enter Try.func73, Try.ntmps73
    go_wp2
    go_ret
    exact ⟨rfl, fun h => absurd h ho, fun _ => hL, Upd.refl _ _⟩
theorem free_2 (b : Nat) (x y z t who : Int) (w : World) (h : LS w b x y z t) (hw : 1 ≤ who) :
    Calls Try.prog 73 #[.pointer (some ⟨b, 0, none⟩), .int .i64 2, .int .i64 who] w fun e w' => e = .returned (.int .i64 (if z ≠ who then 8 else 0)) ∧
      (z = who → LS w' b x y 0 t) ∧ (z ≠ who → LS w' b x y z t) ∧ Upd b w w' := by
  have hL := h
  obtain ⟨c0, c1, c2, c3, f0, f1, f2, f3⟩ := h
  by_cases ho : z = who
  · have ho' : (z != who) = false := by simpa using ho
    rw [if_neg (fun h => h ho)]
    have HO := Lib.hid ho
    clear ho
    go_enter Try.func73, Try.ntmps73
    go_wp2
    go_ret
    exact ⟨rfl, fun _ => hL.set2 0, fun h => absurd HO.out h, (Upd.refl b w).setCell 2 _⟩
  · have ho' : (z != who) = true := by simpa using ho
    rw [if_pos ho]
    go_enter Try.func73, Try.ntmps73
    go_wp2
    go_ret
    exact ⟨rfl, fun h => absurd h ho, fun _ => hL, Upd.refl _ _⟩
theorem free_any (b : Nat) (x y z t k who : Int) (w : World) (h : LS w b x y z t) :
    Calls Try.prog 73 #[.pointer (some ⟨b, 0, none⟩), .int .i64 k, .int .i64 who] w fun e w' => e = .returned (.int .i64 (freeE x y z k who)) ∧
      LS w' b (fr x y z k who).1 (fr x y z k who).2.1 (fr x y z k who).2.2 t ∧ Upd b w w' := by
  by_cases hk : k < 0 ∨ 3 ≤ k ∨ who < 1
  · have E : freeE x y z k who = 1 := by unfold freeE; rw [if_pos hk]
    have E2 : fr x y z k who = (x, y, z) := by unfold fr; rw [E]; rfl
    rw [E, E2]
    refine (free_arg b k who w hk).mono ?_
    rintro e w' ⟨rfl, rfl⟩
    exact ⟨rfl, h, Upd.refl _ _⟩
  · rcases (by omega : k = 0 ∨ k = 1 ∨ k = 2) with rfl | rfl | rfl
    · have E : freeE x y z 0 who = if x ≠ who then 8 else 0 := by unfold freeE; rw [if_neg hk]; rfl
      refine (free_0 b x y z t who w h (by omega)).mono ?_
      rintro e w' ⟨rfl, h1, h2, h3⟩
      refine ⟨by rw [E], ?_, h3⟩
      by_cases ho : x = who
      · have E2 : fr x y z 0 who = put3 x y z 0 0 := by unfold fr; rw [E, if_neg (c := x ≠ who) (fun h => h ho), if_pos rfl]
        rw [E2]; exact h1 ho
      · have E2 : fr x y z 0 who = (x, y, z) := by unfold fr; rw [E, if_pos (c := x ≠ who) ho, if_neg (by decide)]
        rw [E2]; exact h2 ho
    · have E : freeE x y z 1 who = if y ≠ who then 8 else 0 := by unfold freeE; rw [if_neg hk]; rfl
      refine (free_1 b x y z t who w h (by omega)).mono ?_
      rintro e w' ⟨rfl, h1, h2, h3⟩
      refine ⟨by rw [E], ?_, h3⟩
      by_cases ho : y = who
      · have E2 : fr x y z 1 who = put3 x y z 1 0 := by unfold fr; rw [E, if_neg (c := y ≠ who) (fun h => h ho), if_pos rfl]
        rw [E2]; exact h1 ho
      · have E2 : fr x y z 1 who = (x, y, z) := by unfold fr; rw [E, if_pos (c := y ≠ who) ho, if_neg (by decide)]
        rw [E2]; exact h2 ho
    · have E : freeE x y z 2 who = if z ≠ who then 8 else 0 := by unfold freeE; rw [if_neg hk]; rfl
      refine (free_2 b x y z t who w h (by omega)).mono ?_
      rintro e w' ⟨rfl, h1, h2, h3⟩
      refine ⟨by rw [E], ?_, h3⟩
      by_cases ho : z = who
      · have E2 : fr x y z 2 who = put3 x y z 2 0 := by unfold fr; rw [E, if_neg (c := z ≠ who) (fun h => h ho), if_pos rfl]
        rw [E2]; exact h1 ho
      · have E2 : fr x y z 2 who = (x, y, z) := by unfold fr; rw [E, if_pos (c := z ≠ who) ho, if_neg (by decide)]
        rw [E2]; exact h2 ho

def one (e : Int) : Int := if e = 0 then 1 else 0
def allN (x y z who : Int) : Int :=
  let a := fr x y z 0 who
  let c := fr a.1 a.2.1 a.2.2 1 who
  one (freeE x y z 0 who) + one (freeE a.1 a.2.1 a.2.2 1 who) + one (freeE c.1 c.2.1 c.2.2 2 who)
def allS (x y z who : Int) : Int × Int × Int :=
  let a := fr x y z 0 who
  let c := fr a.1 a.2.1 a.2.2 1 who
  fr c.1 c.2.1 c.2.2 2 who
set_option maxHeartbeats 1000000 in
theorem all_any (b : Nat) (x y z t who : Int) (w : World) (h : LS w b x y z t) :
    Calls Try.prog 74 #[.pointer (some ⟨b, 0, none⟩), .int .i64 who] w fun e w' => e = .returned (.int .i64 (allN x y z who)) ∧
      LS w' b (allS x y z who).1 (allS x y z who).2.1 (allS x y z who).2.2 t ∧ Upd b w w' := by
  have E1 : allN x y z who = one (freeE x y z 0 who) + one (freeE (fr x y z 0 who).1 (fr x y z 0 who).2.1 (fr x y z 0 who).2.2 1 who) + one (freeE (fr (fr x y z 0 who).1 (fr x y z 0 who).2.1 (fr x y z 0 who).2.2 1 who).1 (fr (fr x y z 0 who).1 (fr x y z 0 who).2.1 (fr x y z 0 who).2.2 1 who).2.1 (fr (fr x y z 0 who).1 (fr x y z 0 who).2.1 (fr x y z 0 who).2.2 1 who).2.2 2 who) := rfl
  have E2 : allS x y z who = fr (fr (fr x y z 0 who).1 (fr x y z 0 who).2.1 (fr x y z 0 who).2.2 1 who).1 (fr (fr x y z 0 who).1 (fr x y z 0 who).2.1 (fr x y z 0 who).2.2 1 who).2.1 (fr (fr x y z 0 who).1 (fr x y z 0 who).2.1 (fr x y z 0 who).2.2 1 who).2.2 2 who := rfl
  rw [E1, E2]
  clear E1 E2
  have h1 := fun w => free_any b x y z t 0 who w
  generalize fr x y z 0 who = a at *
  have h2 := fun w => free_any b a.1 a.2.1 a.2.2 t 1 who w
  generalize fr a.1 a.2.1 a.2.2 1 who = c at *
  have h3 := fun w => free_any b c.1 c.2.1 c.2.2 t 2 who w
  generalize fr c.1 c.2.1 c.2.2 2 who = d at *
  generalize freeE x y z 0 who = e1 at *
  generalize freeE a.1 a.2.1 a.2.2 1 who = e2 at *
  generalize freeE c.1 c.2.1 c.2.2 2 who = e3 at *
  have H1 := Lib.hid h1
  have H2 := Lib.hid h2
  have H3 := Lib.hid h3
  clear h1 h2 h3
  go_enter Try.func74, Try.ntmps74
  go_wp2
  refine wp_loop_rounds 4 ?_
  rw [rounds_succ]
  go_wp2_with (go_at_call 73; refine (H1.out _ h).mono ?_; rintro e w1 ⟨rfl, hl1, hk1⟩)
  all_goals (rw [rounds_succ]; go_wp2_with (go_at_call 73; refine (H2.out _ hl1).mono ?_; rintro e w2 ⟨rfl, hl2, hk2⟩))
  all_goals (rw [rounds_succ]; go_wp2_with (go_at_call 73; refine (H3.out _ hl2).mono ?_; rintro e w3 ⟨rfl, hl3, hk3⟩))
  all_goals (rw [rounds_succ]; go_wp2)
  all_goals
    go_ret
    refine ⟨ret_i (by unfold one; simp_all), hl3, (hk1.trans hk2).trans hk3⟩
end Go.Proofs.Ytplajmcjkddikaa.Lock
