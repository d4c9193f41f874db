/- for every request, the bytes are right just where the law says so, are the law's own bytes, and read again give the same request -/
import Derived.Test.YtplajmcjkddikaaRows
import Derived.Test.YtplajmcjkddikaaReqLaw3
import Derived.Test.YtplajmcjkddikaaFacts
import Derived.Test.YtplajmcjkddikaaWSized
import Derived.WalkKit
import Derived.ProofKit
import Derived.OpenShut
import Derived.ShutString
import Derived.ChangeOld
import Derived.Below
import Derived.SizedLaws
import Derived.Test.YtplajmcjkddikaaOpen
import Derived.Test.YtplajmcjkddikaaFlat
namespace Go.Proofs.Ytplajmcjkddikaa.reqBytes
open Go.ChangeShapes Go.WideShapes Go.ChangeAt Go.RowKit Go.Proofs.Ytplajmcjkddikaa.Open Go.Proofs.Ytplajmcjkddikaa.Flat
open Go.ChangeMaps (open_string shut_string)
set_option linter.unusedVariables false
theorem own : ownKnob Try.prog.godebug = none := by kernel_rfl
theorem laidOut : laidOutB Try.prog = true := by kernel_rfl
set_option maxRecDepth 100000 in
theorem lifted (os : Os) (started : os.Started) (H : Type) (enc : TypeId × Value → H) :
    ReturnsInHanded {} Try.checked os 20 .any (Rows.reqBytesSpec.pre6 enc Try.prog Try.f20 Rows.reqBytesRow.domain false) (Rows.reqBytesSpec.post enc Try.prog Try.f20 false true false false) := by
  refine returnsInHanded_of_change_sized (C := Try.checked) own started (by kernel_rfl) Try.func20
    (ChangeSpec.witness6 (enc := enc) (C := Try.checked) false ⟨#[], #[.agg #[.int .i64 0, .int .i64 0, .int .i64 0, .int .i64 0, .int .i64 0, .int .i64 0, .bool false, .int .i64 0, .int .i64 0]], []⟩ 8 (by kernel_rfl) (by kernel_rfl) (by kernel_rfl) (by kernel_rfl)) ?_
  intro W base args ds gs before hval0 hW hcnd hsz0 _
  have hsz : (DataW.weightsEach Try.prog (Try.f20.params.toList ++ Rows.reqBytesSpec.plain.varTypes Try.prog) (ds ++ gs)).all (· ≤ reachBytes) = true := hsz0
  have hval : ∀ (j : Nat) t v, Try.f20.params[j]? = some t → args[j]? = some v → Value.okWide Try.prog W .any base t v := hval0
  have hW' := hW
  obtain ⟨p, q, hA0, hV, rfl, hfz, hnd⟩ := hW
  have hA : DataW.TrodAll enc Try.prog W 0 (fun _ => true) true Try.f20.params.toList args.toList ds p := hA0
  rw [Try.params20] at hA hval hsz
  obtain ⟨v0, vs0, d0, ds0, p0, q0, hargs, rfl, rfl, h0, r0⟩ := trodAll_cons hA
  obtain ⟨rfl, rfl, rfl⟩ := trodAll_nil r0
  obtain rfl : args = #[v0] := by cases args; simp_all
  obtain ⟨rfl, rfl⟩ := trodVars_none hV
  have k0 := h0
  have lt0 : ∀ x ∈ p0, x.block < W.heap.size := by obtain ⟨m, hm⟩ := k0; exact DataW.trod_lt m _ _ _ hm
  obtain ⟨cs0_0, rfl, L0_0⟩ := open_flat (Ls := [.int .i64, .int .i64, .int .i64, .int .i64, .int .i64, .int .i64, .bool, .int .i64, .int .i64]) (fuel := 8) (by kernel_rfl) (.inl ⟨_, Try.underlying64⟩) (hval 0 64 v0 rfl rfl) h0
  obtain ⟨_, cs0_1, rfl, ⟨a0_0, rfl, w0_0⟩, L0_1⟩ := L0_0.cons
  obtain ⟨_, cs0_2, rfl, ⟨a0_1, rfl, w0_1⟩, L0_2⟩ := L0_1.cons
  obtain ⟨_, cs0_3, rfl, ⟨a0_2, rfl, w0_2⟩, L0_3⟩ := L0_2.cons
  obtain ⟨_, cs0_4, rfl, ⟨a0_3, rfl, w0_3⟩, L0_4⟩ := L0_3.cons
  obtain ⟨_, cs0_5, rfl, ⟨a0_4, rfl, w0_4⟩, L0_5⟩ := L0_4.cons
  obtain ⟨_, cs0_6, rfl, ⟨a0_5, rfl, w0_5⟩, L0_6⟩ := L0_5.cons
  obtain ⟨_, cs0_7, rfl, ⟨a0_6, rfl⟩, L0_7⟩ := L0_6.cons
  obtain ⟨_, cs0_8, rfl, ⟨a0_7, rfl, w0_7⟩, L0_8⟩ := L0_7.cons
  obtain ⟨_, cs0_9, rfl, ⟨a0_8, rfl, w0_8⟩, L0_9⟩ := L0_8.cons
  obtain rfl := L0_9.nil
  clear hA0 hval0 hsz0 hsz
  refine (Go.Proofs.Ytplajmcjkddikaa.ReqLaw.ReqBytes_any a0_0 a0_1 a0_2 a0_3 a0_4 a0_5 a0_6 a0_7 a0_8 W w0_0 w0_1 w0_2 w0_3 w0_4 w0_5 w0_7 w0_8).mono fun e W' ⟨he, bel⟩ => ?_
  subst he
  exact ⟨_, rfl, _, _, _, [], _, [], hW', trodAll_mk1 (shut_bool Try.underlying4 _), (trodAll_cons_mk (Below.trod laidOut (by kernel_rfl) (of_decide_eq_true (by kernel_rfl)) k0 bel lt0) trodAll_mk0), rfl, bel.frame _, fun h => by cases h⟩
theorem closed : joinedFacts Try.pinned.checked.prog 20 Try.f20 Rows.reqBytesSpec Rows.reqBytesRow = true :=
  Facts.closed (by kernel_rfl) (by kernel_rfl) (by kernel_rfl) (by kernel_rfl) (by kernel_rfl) (by kernel_rfl) (by kernel_rfl) (by kernel_rfl) (by kernel_rfl) (by kernel_rfl) (by kernel_rfl) (by kernel_rfl) (by kernel_rfl) (by kernel_rfl) (by kernel_rfl) (by kernel_rfl) (by kernel_rfl) (by kernel_rfl) (by kernel_rfl) (by kernel_rfl) (by kernel_rfl) (by kernel_rfl) (by kernel_rfl) (by kernel_rfl) (by kernel_rfl) (by kernel_rfl)
theorem over : Rows.reqBytesRow.holds Try.pinned (OpenSpec.ofChange Rows.reqBytesSpec) :=
  OpenClaim.holds_of_wide 20 Try.f20 rfl rfl rfl rfl rfl rfl rfl ⟨rfl, rfl, rfl, rfl, rfl⟩ rfl rfl rfl rfl rfl (by kernel_rfl) Try.func20 closed
    (of_decide_eq_true (by kernel_rfl)) (by unfold Func.isWrapper; first | (rw [if_pos (by decide +kernel)]; kernel_rfl) | (rw [if_neg (by decide +kernel)]; exact ⟨rfl, rfl⟩))
    (fun os started H enc _ => lifted os started H enc)
theorem proved : Rows.ReqBytesSaid := over
#print axioms proved
end Go.Proofs.Ytplajmcjkddikaa.reqBytes
namespace Go.Proofs.Ytplajmcjkddikaa
/-- The row, under a short name, for the claim. -/
theorem reqBytes_holds : Rows.ReqBytesSaid := reqBytes.proved
end Go.Proofs.Ytplajmcjkddikaa
