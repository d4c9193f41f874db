/- for every run of bytes, what is read is right and writes the same bytes again, or the law's own refusal is given -/
import Derived.Test.YtplajmcjkddikaaRows
import Derived.Test.YtplajmcjkddikaaReqLaw4
import Derived.Test.YtplajmcjkddikaaFacts
import Derived.Test.YtplajmcjkddikaaWSized
import Derived.WalkKit
import Derived.ProofKit
import Derived.OpenShut
import Derived.ShutString
import Derived.ChangeOld
import Derived.Below
import Derived.SizedLaws
import Derived.Test.YtplajmcjkddikaaOpen
import Derived.Test.YtplajmcjkddikaaFlat
namespace Go.Proofs.Ytplajmcjkddikaa.reqReads
open Go.ChangeShapes Go.WideShapes Go.ChangeAt Go.RowKit Go.Proofs.Ytplajmcjkddikaa.Open Go.Proofs.Ytplajmcjkddikaa.Flat
open Go.ChangeMaps (open_string shut_string)
set_option linter.unusedVariables false
theorem own : ownKnob Try.prog.godebug = none := by kernel_rfl
theorem laidOut : laidOutB Try.prog = true := by kernel_rfl
set_option maxRecDepth 100000 in
theorem lifted (os : Os) (started : os.Started) (H : Type) (enc : TypeId × Value → H) :
    ReturnsInHanded {} Try.checked os 21 .any (Rows.reqReadsSpec.pre6 enc Try.prog Try.f21 Rows.reqReadsRow.domain false) (Rows.reqReadsSpec.post enc Try.prog Try.f21 false true false false) := by
  refine returnsInHanded_of_change_sized (C := Try.checked) own started (by kernel_rfl) Try.func21
    (ChangeSpec.witness6 (enc := enc) (C := Try.checked) false ⟨#[], #[.slice none 0 0, .agg #[.int .i64 0, .int .i64 0, .int .i64 0, .int .i64 0, .int .i64 0, .int .i64 0, .bool false, .int .i64 0, .int .i64 0]], []⟩ 8 (by kernel_rfl) (by kernel_rfl) (by kernel_rfl) (by kernel_rfl)) ?_
  intro W base args ds gs before hval0 hW hcnd hsz0 _
  have hsz : (DataW.weightsEach Try.prog (Try.f21.params.toList ++ Rows.reqReadsSpec.plain.varTypes Try.prog) (ds ++ gs)).all (· ≤ reachBytes) = true := hsz0
  have hval : ∀ (j : Nat) t v, Try.f21.params[j]? = some t → args[j]? = some v → Value.okWide Try.prog W .any base t v := hval0
  have hW' := hW
  obtain ⟨p, q, hA0, hV, rfl, hfz, hnd⟩ := hW
  have hA : DataW.TrodAll enc Try.prog W 0 (fun _ => true) true Try.f21.params.toList args.toList ds p := hA0
  rw [Try.params21] at hA hval hsz
  obtain ⟨v0, vs0, d0, ds0, p0, q0, hargs, rfl, rfl, h0, r0⟩ := trodAll_cons hA
  obtain ⟨v1, vs1, d1, ds1, p1, q1, rfl, rfl, rfl, h1, r1⟩ := trodAll_cons r0
  obtain ⟨rfl, rfl, rfl⟩ := trodAll_nil r1
  obtain rfl : args = #[v0, v1] := by cases args; simp_all
  obtain ⟨rfl, rfl⟩ := trodVars_none hV
  obtain ⟨a0, len0, cap0, rfl⟩ := okWide_slice Try.underlying38 (hval 0 38 v0 rfl rfl)
  have k0 := h0
  have lt0 : ∀ x ∈ p0, x.block < W.heap.size := by obtain ⟨m, hm⟩ := k0; exact DataW.trod_lt m _ _ _ hm
  obtain ⟨z0, w0⟩ : ∃ zs, IsRow .u8 W a0 len0 cap0 zs := by
    obtain ⟨fuel, hf⟩ := h0
    rcases open_ints Try.underlying38 Try.underlying5 (by kernel_rfl) hf with ⟨hcs, _⟩ | ⟨x, l, c, zs, hcs, _, hl, hm, hz, _, hcell, hwz⟩
    · simp [Value.cells] at hcs
      obtain ⟨rfl, rfl, rfl⟩ := hcs
      exact ⟨[], .inl ⟨rfl, rfl, rfl, rfl⟩⟩
    · simp [Value.cells] at hcs
      obtain ⟨rfl, rfl, rfl⟩ := hcs
      exact ⟨zs, .inr ⟨_, rfl, hl, hm, by simpa using hz, hcell, hwz⟩⟩
  have y0 : len0 * 1 ≤ 140737488351232 := Go.Proofs.YtplajmcjkddikaaW.PrintWords.sized_ints hsz (j := 0) (t := 38) rfl rfl Try.underlying38 Try.underlying5 (by kernel_rfl) (by kernel_rfl) h0
  have k1 := h1
  have lt1 : ∀ x ∈ p1, x.block < W.heap.size := by obtain ⟨m, hm⟩ := k1; exact DataW.trod_lt m _ _ _ hm
  obtain ⟨cs1_0, rfl, L1_0⟩ := open_flat (Ls := [.int .i64, .int .i64, .int .i64, .int .i64, .int .i64, .int .i64, .bool, .int .i64, .int .i64]) (fuel := 8) (by kernel_rfl) (.inl ⟨_, Try.underlying64⟩) (hval 1 64 v1 rfl rfl) h1
  obtain ⟨_, cs1_1, rfl, ⟨a1_0, rfl, w1_0⟩, L1_1⟩ := L1_0.cons
  obtain ⟨_, cs1_2, rfl, ⟨a1_1, rfl, w1_1⟩, L1_2⟩ := L1_1.cons
  obtain ⟨_, cs1_3, rfl, ⟨a1_2, rfl, w1_2⟩, L1_3⟩ := L1_2.cons
  obtain ⟨_, cs1_4, rfl, ⟨a1_3, rfl, w1_3⟩, L1_4⟩ := L1_3.cons
  obtain ⟨_, cs1_5, rfl, ⟨a1_4, rfl, w1_4⟩, L1_5⟩ := L1_4.cons
  obtain ⟨_, cs1_6, rfl, ⟨a1_5, rfl, w1_5⟩, L1_6⟩ := L1_5.cons
  obtain ⟨_, cs1_7, rfl, ⟨a1_6, rfl⟩, L1_7⟩ := L1_6.cons
  obtain ⟨_, cs1_8, rfl, ⟨a1_7, rfl, w1_7⟩, L1_8⟩ := L1_7.cons
  obtain ⟨_, cs1_9, rfl, ⟨a1_8, rfl, w1_8⟩, L1_9⟩ := L1_8.cons
  obtain rfl := L1_9.nil
  clear hA0 hval0 hsz0 hsz
  refine (Go.Proofs.Ytplajmcjkddikaa.ReqLaw.ReqReads_any a0 len0 cap0 z0 a1_0 a1_1 a1_2 a1_3 a1_4 a1_5 a1_6 a1_7 a1_8 W w0 y0 w1_0 w1_1 w1_2 w1_3 w1_4 w1_5 w1_7 w1_8).mono fun e W' ⟨he, bel⟩ => ?_
  subst he
  exact ⟨_, rfl, _, _, _, [], _, [], hW', trodAll_mk1 (shut_bool Try.underlying4 _), (trodAll_cons_mk (Below.trod laidOut (by kernel_rfl) (of_decide_eq_true (by kernel_rfl)) k0 bel lt0) (trodAll_cons_mk (Below.trod laidOut (by kernel_rfl) (of_decide_eq_true (by kernel_rfl)) k1 bel lt1) trodAll_mk0)), rfl, bel.frame _, fun h => by cases h⟩
theorem closed : joinedFacts Try.pinned.checked.prog 21 Try.f21 Rows.reqReadsSpec Rows.reqReadsRow = true :=
  Facts.closed (by kernel_rfl) (by kernel_rfl) (by kernel_rfl) (by kernel_rfl) (by kernel_rfl) (by kernel_rfl) (by kernel_rfl) (by kernel_rfl) (by kernel_rfl) (by kernel_rfl) (by kernel_rfl) (by kernel_rfl) (by kernel_rfl) (by kernel_rfl) (by kernel_rfl) (by kernel_rfl) (by kernel_rfl) (by kernel_rfl) (by kernel_rfl) (by kernel_rfl) (by kernel_rfl) (by kernel_rfl) (by kernel_rfl) (by kernel_rfl) (by kernel_rfl) (by kernel_rfl)
theorem over : Rows.reqReadsRow.holds Try.pinned (OpenSpec.ofChange Rows.reqReadsSpec) :=
  OpenClaim.holds_of_wide 21 Try.f21 rfl rfl rfl rfl rfl rfl rfl ⟨rfl, rfl, rfl, rfl, rfl⟩ rfl rfl rfl rfl rfl (by kernel_rfl) Try.func21 closed
    (of_decide_eq_true (by kernel_rfl)) (by unfold Func.isWrapper; first | (rw [if_pos (by decide +kernel)]; kernel_rfl) | (rw [if_neg (by decide +kernel)]; exact ⟨rfl, rfl⟩))
    (fun os started H enc _ => lifted os started H enc)
theorem proved : Rows.ReqReadsSaid := over
#print axioms proved
end Go.Proofs.Ytplajmcjkddikaa.reqReads
namespace Go.Proofs.Ytplajmcjkddikaa
/-- The row, under a short name, for the claim. -/
theorem reqReads_holds : Rows.ReqReadsSaid := reqReads.proved
end Go.Proofs.Ytplajmcjkddikaa
