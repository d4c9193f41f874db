/- ScoreSlows: any slowdown, and which jobs have begun, for every three int64 and every job. No condition. -/
import Derived.Test.YtplajmcjkddikaaRows
import Derived.Test.YtplajmcjkddikaaScore
import Derived.Test.YtplajmcjkddikaaFacts
import Derived.Test.YtplajmcjkddikaaWSized
import Derived.WalkKit
import Derived.ProofKit
import Derived.OpenShut
import Derived.ShutString
import Derived.ChangeOld
import Derived.Below
import Derived.SizedLaws
import Derived.Test.YtplajmcjkddikaaOpen
import Derived.Test.YtplajmcjkddikaaFlat
namespace Go.Proofs.Ytplajmcjkddikaa.scoreSlows
open Go.ChangeShapes Go.WideShapes Go.ChangeAt Go.RowKit Go.Proofs.Ytplajmcjkddikaa.Open Go.Proofs.Ytplajmcjkddikaa.Flat
open Go.ChangeMaps (open_string shut_string)
set_option linter.unusedVariables false
theorem own : ownKnob Try.prog.godebug = none := by kernel_rfl
theorem laidOut : laidOutB Try.prog = true := by kernel_rfl
set_option maxRecDepth 100000 in
theorem lifted (os : Os) (started : os.Started) (H : Type) (enc : TypeId × Value → H) :
    ReturnsInHanded {} Try.checked os 6 .any (Rows.scoreSlowsSpec.pre6 enc Try.prog Try.f6 Rows.scoreSlowsRow.domain false) (Rows.scoreSlowsSpec.post enc Try.prog Try.f6 false true false false) := by
  refine returnsInHanded_of_change_sized (C := Try.checked) own started (by kernel_rfl) Try.func6
    (ChangeSpec.witness6 (enc := enc) (C := Try.checked) false ⟨#[], #[.int .i64 0, .int .i64 0, .int .i64 0, .agg #[.int .i64 0, .int .i64 0, .int .i64 0, .int .i64 0, .int .i64 0, .int .i64 0, .int .i64 0, .int .i64 0, .int .i64 0, .int .u64 0]], []⟩ 8 (by kernel_rfl) (by kernel_rfl) (by kernel_rfl) (by kernel_rfl)) ?_
  intro W base args ds gs before hval0 hW hcnd hsz0 _
  have hsz : (DataW.weightsEach Try.prog (Try.f6.params.toList ++ Rows.scoreSlowsSpec.plain.varTypes Try.prog) (ds ++ gs)).all (· ≤ reachBytes) = true := hsz0
  have hval : ∀ (j : Nat) t v, Try.f6.params[j]? = some t → args[j]? = some v → Value.okWide Try.prog W .any base t v := hval0
  have hW' := hW
  obtain ⟨p, q, hA0, hV, rfl, hfz, hnd⟩ := hW
  have hA : DataW.TrodAll enc Try.prog W 0 (fun _ => true) true Try.f6.params.toList args.toList ds p := hA0
  rw [Try.params6] at hA hval hsz
  obtain ⟨v0, vs0, d0, ds0, p0, q0, hargs, rfl, rfl, h0, r0⟩ := trodAll_cons hA
  obtain ⟨v1, vs1, d1, ds1, p1, q1, rfl, rfl, rfl, h1, r1⟩ := trodAll_cons r0
  obtain ⟨v2, vs2, d2, ds2, p2, q2, rfl, rfl, rfl, h2, r2⟩ := trodAll_cons r1
  obtain ⟨v3, vs3, d3, ds3, p3, q3, rfl, rfl, rfl, h3, r3⟩ := trodAll_cons r2
  obtain ⟨rfl, rfl, rfl⟩ := trodAll_nil r3
  obtain rfl : args = #[v0, v1, v2, v3] := by cases args; simp_all
  obtain ⟨rfl, rfl⟩ := trodVars_none hV
  obtain ⟨a0, rfl, rfl, rfl, w0⟩ := open_int Try.underlying2 (hval 0 2 v0 rfl rfl) h0
  obtain ⟨a1, rfl, rfl, rfl, w1⟩ := open_int Try.underlying2 (hval 1 2 v1 rfl rfl) h1
  obtain ⟨a2, rfl, rfl, rfl, w2⟩ := open_int Try.underlying2 (hval 2 2 v2 rfl rfl) h2
  have k3 := h3
  have lt3 : ∀ x ∈ p3, x.block < W.heap.size := by obtain ⟨m, hm⟩ := k3; exact DataW.trod_lt m _ _ _ hm
  obtain ⟨cs3_0, rfl, L3_0⟩ := open_flat (Ls := [.int .i64, .int .i64, .int .i64, .int .i64, .int .i64, .int .i64, .int .i64, .int .i64, .int .i64, .int .u64]) (fuel := 8) (by kernel_rfl) (.inl ⟨_, Try.underlying34⟩) (hval 3 34 v3 rfl rfl) h3
  obtain ⟨_, cs3_1, rfl, ⟨a3_0, rfl, w3_0⟩, L3_1⟩ := L3_0.cons
  obtain ⟨_, cs3_2, rfl, ⟨a3_1, rfl, w3_1⟩, L3_2⟩ := L3_1.cons
  obtain ⟨_, cs3_3, rfl, ⟨a3_2, rfl, w3_2⟩, L3_3⟩ := L3_2.cons
  obtain ⟨_, cs3_4, rfl, ⟨a3_3, rfl, w3_3⟩, L3_4⟩ := L3_3.cons
  obtain ⟨_, cs3_5, rfl, ⟨a3_4, rfl, w3_4⟩, L3_5⟩ := L3_4.cons
  obtain ⟨_, cs3_6, rfl, ⟨a3_5, rfl, w3_5⟩, L3_6⟩ := L3_5.cons
  obtain ⟨_, cs3_7, rfl, ⟨a3_6, rfl, w3_6⟩, L3_7⟩ := L3_6.cons
  obtain ⟨_, cs3_8, rfl, ⟨a3_7, rfl, w3_7⟩, L3_8⟩ := L3_7.cons
  obtain ⟨_, cs3_9, rfl, ⟨a3_8, rfl, w3_8⟩, L3_9⟩ := L3_8.cons
  obtain ⟨_, cs3_10, rfl, ⟨a3_9, rfl, w3_9⟩, L3_10⟩ := L3_9.cons
  obtain rfl := L3_10.nil
  clear hA0 hval0 hsz0 hsz
  refine (Go.Proofs.Ytplajmcjkddikaa.Sat.ScoreSlows_any a0 a1 a2 a3_0 a3_1 a3_2 a3_3 a3_4 a3_5 a3_6 a3_7 a3_8 a3_9 W ).mono fun e W' ⟨he, bel⟩ => ?_
  subst he
  exact ⟨_, rfl, _, _, _, [], _, [], hW', trodAll_mk1 (shut_bool Try.underlying4 _), (trodAll_cons_mk (shut_int Try.underlying2 w0) (trodAll_cons_mk (shut_int Try.underlying2 w1) (trodAll_cons_mk (shut_int Try.underlying2 w2) (trodAll_cons_mk (Below.trod laidOut (by kernel_rfl) (of_decide_eq_true (by kernel_rfl)) k3 bel lt3) trodAll_mk0)))), rfl, bel.frame _, fun h => by cases h⟩
theorem closed : joinedFacts Try.pinned.checked.prog 6 Try.f6 Rows.scoreSlowsSpec Rows.scoreSlowsRow = true :=
  Facts.closed (by kernel_rfl) (by kernel_rfl) (by kernel_rfl) (by kernel_rfl) (by kernel_rfl) (by kernel_rfl) (by kernel_rfl) (by kernel_rfl) (by kernel_rfl) (by kernel_rfl) (by kernel_rfl) (by kernel_rfl) (by kernel_rfl) (by kernel_rfl) (by kernel_rfl) (by kernel_rfl) (by kernel_rfl) (by kernel_rfl) (by kernel_rfl) (by kernel_rfl) (by kernel_rfl) (by kernel_rfl) (by kernel_rfl) (by kernel_rfl) (by kernel_rfl) (by kernel_rfl)
theorem over : Rows.scoreSlowsRow.holds Try.pinned (OpenSpec.ofChange Rows.scoreSlowsSpec) :=
  OpenClaim.holds_of_wide 6 Try.f6 rfl rfl rfl rfl rfl rfl rfl ⟨rfl, rfl, rfl, rfl, rfl⟩ rfl rfl rfl rfl rfl (by kernel_rfl) Try.func6 closed
    (of_decide_eq_true (by kernel_rfl)) (by unfold Func.isWrapper; first | (rw [if_pos (by decide +kernel)]; kernel_rfl) | (rw [if_neg (by decide +kernel)]; exact ⟨rfl, rfl⟩))
    (fun os started H enc _ => lifted os started H enc)
theorem proved : Rows.ScoreSlowsSaid := over
#print axioms proved
end Go.Proofs.Ytplajmcjkddikaa.scoreSlows
namespace Go.Proofs.Ytplajmcjkddikaa
/-- The row, under a short name, for the claim. -/
theorem scoreSlows_holds : Rows.ScoreSlowsSaid := scoreSlows.proved
end Go.Proofs.Ytplajmcjkddikaa
