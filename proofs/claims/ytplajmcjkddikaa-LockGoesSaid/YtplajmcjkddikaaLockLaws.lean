/- LockNobody, and what LockPlays and LockGoes share; by hand walks. -/
import Derived.Test.YtplajmcjkddikaaLock
import Derived.Test.YtplajmcjkddikaaEql
import Derived.RegionTactic
import Derived.Deep.RegionWith
import Derived.Deep.DeepCutAuto
import Derived.Deep.CutBlock
namespace Go.Proofs.Ytplajmcjkddikaa.Lock
open Go.RowKit Go.Proofs.YtplajmcjkddikaaW.PrintWords Go.Proofs.YtplajmcjkddikaaW.PrintMore Go.Proofs.Ytplajmcjkddikaa.Rule
set_option linter.unusedVariables false

theorem LS.new (w : World) (ty : TypeId) : LS (w.alloc (.cells #[.int .i64 0, .int .i64 0, .int .i64 0, .int .i64 0] ty)) w.heap.size 0 0 0 0 :=
  ⟨by go_cell, by go_cell, by go_cell, by go_cell, by simp [go_sem], by simp [go_sem], by simp [go_sem], by simp [go_sem]⟩

theorem aw1 (b : Nat) (w : World) (h : LS w b 0 0 0 0) : Calls Try.prog 66 #[.pointer (some ⟨b, 0, none⟩), .int .i64 2, .int .i64 1] w fun e w' => e = .returned (.int .i64 0) ∧ LS w' b 0 0 1 1 ∧ Upd b w w' :=
  (try_any b 0 0 0 0 2 1 w h (by omega)).mono fun e w' ⟨h1, h2, _, h4⟩ => ⟨h1, h2 (by decide), h4⟩
theorem aw2 (b : Nat) (w : World) (h : LS w b 0 0 1 1) : Calls Try.prog 66 #[.pointer (some ⟨b, 0, none⟩), .int .i64 0, .int .i64 1] w fun e w' => e = .returned (.int .i64 17) ∧ LS w' b 0 0 1 1 ∧ Upd b w w' :=
  (try_any b 0 0 1 1 0 1 w h (by omega)).mono fun e w' ⟨h1, _, h3, h4⟩ => ⟨h1, h3 (by decide), h4⟩
theorem aw3 (b : Nat) (w : World) (h : LS w b 0 0 1 1) : Calls Try.prog 66 #[.pointer (some ⟨b, 0, none⟩), .int .i64 2, .int .i64 2] w fun e w' => e = .returned (.int .i64 18) ∧ LS w' b 0 0 1 1 ∧ Upd b w w' :=
  (try_any b 0 0 1 1 2 2 w h (by omega)).mono fun e w' ⟨h1, _, h3, h4⟩ => ⟨h1, h3 (by decide), h4⟩
theorem aw4 (b : Nat) (w : World) (h : LS w b 0 0 1 1) : Calls Try.prog 67 #[.pointer (some ⟨b, 0, none⟩), .int .i64 2] w fun e w' => e = .returned (.int .i64 1) ∧ w = w' := owner_any b 0 0 1 1 2 w h
theorem awake16_any (w : World) : Calls Try.prog 68 #[] w fun e w' => e = .returned (.bool true) ∧ Below w.heap.size w w' := by
  have hL0 := LS.new w 72
  go_enter Try.func68, Try.ntmps68
  go_wp2_with fail
  refine (aw1 _ _ hL0).mono ?_
  rintro e w1 ⟨rfl, hL1, hU1⟩
  go_wp2_with fail
  refine (aw2 _ _ hL1).mono ?_
  rintro e w2 ⟨rfl, hL2, hU2⟩
  go_wp2_with fail
  refine (aw3 _ _ hL2).mono ?_
  rintro e w3 ⟨rfl, hL3, hU3⟩
  go_wp2_with fail
  refine (aw4 _ _ hL3).mono ?_
  rintro e w4 ⟨rfl, rfl⟩
  go_wp2_with fail
  go_ret
  exact ⟨rfl, ((((Below.refl _ _).alloc (Nat.le_refl _) _).trans hU1.2).trans hU2.2).trans hU3.2⟩

theorem LockNobody_any (k who : Int) (w : World) :
    Calls Try.prog 15 #[.int .i64 k, .int .i64 who] w fun e w' => e = .returned (.bool true) ∧ Below w.heap.size w w' := by
  have he := eql_lane
  go_enter Try.func15, Try.ntmps15
  go_wp2_with (first
    | (go_at_call 66; refine (try_nil _ _ _).mono ?_; rintro e w1 ⟨rfl, rfl⟩)
    | (go_at_call 73; refine (free_nil _ _ _).mono ?_; rintro e w1 ⟨rfl, rfl⟩)
    | (go_at_call 74; refine (all_nil _ _).mono ?_; rintro e w1 ⟨rfl, rfl⟩)
    | (go_at_call 67; refine (owner_nil _ _).mono ?_; rintro e w1 ⟨rfl, rfl⟩)
    | (go_at_call 70; refine (taken_nil _).mono ?_; rintro e w1 ⟨rfl, rfl⟩)
    | (go_at_call 72; refine (held_nil _ _).mono ?_; rintro e w2 ⟨rfl, hb2⟩)
    | (go_at_call 71; refine (idle_nil _).mono ?_; rintro e w1 ⟨rfl, rfl⟩)
    | (go_at_call 68; refine (awake16_any _).mono ?_; rintro e w3 ⟨rfl, hb3⟩))
  go_ret
  exact ⟨rfl, below_step hb2 hb3⟩
end Go.Proofs.Ytplajmcjkddikaa.Lock
