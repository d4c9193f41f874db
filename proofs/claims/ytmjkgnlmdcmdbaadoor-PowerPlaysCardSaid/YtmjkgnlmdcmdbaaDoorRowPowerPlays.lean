/- whatever is used, left, and passed, nodes sleep and are awake as in the document's plant: for every number of nodes, every rule, every script -/
import Derived.Test.YtmjkgnlmdcmdbaaDoorRows
import Derived.Test.YtmjkgnlmdcmdbaaDoorCards
import Derived.Test.YtmjkgnlmdcmdbaaDoorTie
import Derived.Test.YtmjkgnlmdcmdbaaDoorPl8
import Derived.Test.YtmjkgnlmdcmdbaaDoorFacts
import Derived.Test.YtmjkgnlmdcmdbaaDoorWSized
import Derived.Test.YtmjkgnlmdcmdbaaDoorDoorBase
import Derived.WalkKit
import Derived.ProofKit
import Derived.OpenShut
import Derived.ShutString
import Derived.ChangeOld
import Derived.Below
import Derived.SizedLaws
import Derived.Test.YtmjkgnlmdcmdbaaDoorOpen
import Derived.Test.YtmjkgnlmdcmdbaaDoorFlat
import Derived.SevenTiedAt
namespace Go.Proofs.YtmjkgnlmdcmdbaaDoor.powerPlays
open Go.ChangeShapes Go.WideShapes Go.ChangeAt Go.RowKit Go.Proofs.YtmjkgnlmdcmdbaaDoor.Open Go.Proofs.YtmjkgnlmdcmdbaaDoor.Flat
open Go.ChangeMaps (open_string shut_string)
set_option linter.unusedVariables false
theorem laidOut : laidOutB Tryd.prog = true := by kernel_rfl
set_option maxRecDepth 100000 in
theorem lifted (os : Os) (started : os.Started) (H : Type) (enc : TypeId × Value → H) :
    ReturnsInHanded {} Tryd.checked os 12 .any (fun w args => (Rows.powerPlaysSpec.pre enc Tryd.prog Tryd.f12 [] false w args ∧ laidMetH Tryd.prog Rows.powerPlaysRow.laid w) ∧ sizedMet enc Tryd.prog Tryd.f12 (OpenSpec.ofChange Rows.powerPlaysSpec) false w args) (Rows.powerPlaysSpec.post enc Tryd.prog Tryd.f12 false true false false) := by
  refine returnsInHanded_of_change_and (C := Tryd.checked) (X := fun w _ => laidMetH Tryd.prog Rows.powerPlaysRow.laid w) (fun _ _ _ hh h => h.of_heap hh) DoorBase.own started (by kernel_rfl) Tryd.func12
    (ChangeSpec.witness_shaped (enc := enc) (C := Tryd.checked) (os := os) (X := fun w _ => laidMetH Tryd.prog Rows.powerPlaysRow.laid w) false (World.doorLaid Tryd.prog 14 os) #[.int .i64 0, .agg #[.int .i64 0, .int .i64 0, .int .i64 0], .slice none 0 0] 8 rfl (World.shaped_of_RefB (by kernel_rfl) (by kernel_rfl)) (by kernel_rfl) (by kernel_rfl) (by kernel_rfl) (DoorBase.door_met os _)) ?_
  intro W base args ds gs before hval0 hW hcnd hsz0 hL _
  have hTab := DoorBase.tab_of_laid hL
  have hsz : (DataW.weightsEach Tryd.prog (Tryd.f12.params.toList ++ Rows.powerPlaysSpec.plain.varTypes Tryd.prog) (ds ++ gs)).all (· ≤ reachBytes) = true := hsz0
  have hval : ∀ (j : Nat) t v, Tryd.f12.params[j]? = some t → args[j]? = some v → Value.okWide Tryd.prog W .any base t v := hval0
  have hW' := hW
  obtain ⟨p, q, hA0, hV, rfl, hfz, hnd⟩ := hW
  have hA : DataW.TrodAll enc Tryd.prog W 0 (fun _ => true) true Tryd.f12.params.toList args.toList ds p := hA0
  rw [Tryd.params12] at hA hval hsz
  obtain ⟨v0, vs0, d0, ds0, p0, q0, hargs, rfl, rfl, h0, r0⟩ := trodAll_cons hA
  obtain ⟨v1, vs1, d1, ds1, p1, q1, rfl, rfl, rfl, h1, r1⟩ := trodAll_cons r0
  obtain ⟨v2, vs2, d2, ds2, p2, q2, rfl, rfl, rfl, h2, r2⟩ := trodAll_cons r1
  obtain ⟨rfl, rfl, rfl⟩ := trodAll_nil r2
  obtain rfl : args = #[v0, v1, v2] := by cases args; simp_all
  obtain ⟨rfl, rfl⟩ := trodVars_none hV
  obtain ⟨a0, rfl, rfl, rfl, w0⟩ := open_int Tryd.underlying3 (hval 0 3 v0 rfl rfl) h0
  have k1 := h1
  have lt1 : ∀ x ∈ p1, x.block < W.heap.size := by obtain ⟨m, hm⟩ := k1; exact DataW.trod_lt m _ _ _ hm
  obtain ⟨cs1_0, rfl, L1_0⟩ := open_flat (Ls := [.int .i64, .int .i64, .int .i64]) (fuel := 8) (by kernel_rfl) (.inl ⟨_, Tryd.underlying71⟩) (hval 1 71 v1 rfl rfl) h1
  obtain ⟨_, cs1_1, rfl, ⟨a1_0, rfl, w1_0⟩, L1_1⟩ := L1_0.cons
  obtain ⟨_, cs1_2, rfl, ⟨a1_1, rfl, w1_1⟩, L1_2⟩ := L1_1.cons
  obtain ⟨_, cs1_3, rfl, ⟨a1_2, rfl, w1_2⟩, L1_3⟩ := L1_2.cons
  obtain rfl := L1_3.nil
  have k2 := h2
  have lt2 : ∀ x ∈ p2, x.block < W.heap.size := by obtain ⟨m, hm⟩ := k2; exact DataW.trod_lt m _ _ _ hm
  obtain ⟨a2, len2, cap2, z2, rfl, y2, w2, r2_⟩ := open_flats (Ls := [.int .i64, .int .u64, .int .i64]) (fuel := 8) Tryd.underlying72 (by kernel_rfl) (by kernel_rfl) (hval 2 72 v2 rfl rfl) h2
  clear hA0 hval0 hsz0 hsz
  refine (Go.Proofs.YtmjkgnlmdcmdbaaDoor.Power.PowerPlays_any a0 a1_0 a1_1 a1_2 a2 len2 cap2 z2 W w0 w1_0 w1_1 w1_2 y2 w2 r2_ hTab).mono fun e W' ⟨he, bel⟩ => ?_
  subst he
  exact ⟨_, rfl, _, _, _, [], _, [], hW', trodAll_mk1 (shut_bool Tryd.underlying4 _), (trodAll_cons_mk (shut_int Tryd.underlying3 w0) (trodAll_cons_mk (Below.trod laidOut (by kernel_rfl) (of_decide_eq_true (by kernel_rfl)) k1 bel lt1) (trodAll_cons_mk (Below.trod laidOut (by kernel_rfl) (of_decide_eq_true (by kernel_rfl)) k2 bel lt2) trodAll_mk0))), rfl, bel.frame _, fun h => by cases h⟩
theorem closed : joinedFacts Tryd.pinned.checked.prog 12 Tryd.f12 Rows.powerPlaysSpec Rows.powerPlaysRow = true :=
  Facts.closed (by kernel_rfl) (by kernel_rfl) (by kernel_rfl) (by kernel_rfl) (by kernel_rfl) (by kernel_rfl) (by kernel_rfl) (by kernel_rfl) (by kernel_rfl) (by kernel_rfl) (by kernel_rfl) (by kernel_rfl) (by kernel_rfl) (by kernel_rfl) (by kernel_rfl) (by kernel_rfl) (by kernel_rfl) (by kernel_rfl) (by kernel_rfl) (by kernel_rfl) (by kernel_rfl) (by kernel_rfl) (by kernel_rfl) (by kernel_rfl) (by kernel_rfl) (by kernel_rfl)
theorem over : Rows.powerPlaysRow.holds Tryd.pinned (OpenSpec.ofChange Rows.powerPlaysSpec) :=
  OpenClaim.holds_of_wide 12 Tryd.f12 rfl rfl rfl rfl rfl rfl rfl ⟨rfl, rfl, rfl, rfl, rfl⟩ rfl rfl rfl rfl rfl (by kernel_rfl) Tryd.func12 closed
    (of_decide_eq_true (by kernel_rfl)) (by unfold Func.isWrapper; first | (rw [if_pos (by decide +kernel)]; kernel_rfl) | (rw [if_neg (by decide +kernel)]; exact ⟨rfl, rfl⟩))
    (fun os started H enc _ => lifted os started H enc)
theorem proved : Rows.PowerPlaysSaid := over
theorem card : Rows.PowerPlaysCardSaid :=
  Claim7.holds_tied_plain_at .later [] [.data] true (true, "0ae122481ecad4657f421f93b591a4a8cb3dec720c4e18898b4ede7ec35287d7") false
    proved (fun _ h => by cases h) (by kernel_rfl) (fun _ h => by cases h) powerPlays_row_tie rfl ⟨rfl, rfl⟩ (by kernel_rfl) rfl
    (fun f fn hf hfn => by
      obtain rfl : f = 12 := Option.some.inj ((show Tryd.prog.funcNamed "berthage/berthagelaw42.PowerPlays" = some 12 by kernel_rfl).symm.trans hf) |>.symm
      obtain rfl : fn = Tryd.f12 := (Option.some.inj (Tryd.func12.symm.trans hfn)).symm
      exact ⟨by kernel_rfl, fun j t ht => by
        rw [Tryd.params12] at ht
        have hm : t ∈ [3, 71, 72] := by simpa using Array.mem_of_getElem? ht
        have hall : ([3, 71, 72].all fun u => !Tryd.prog.wantsStandIn u) = true := by kernel_rfl
        exact (show Tryd.prog.wantsStandIn t = false by simpa using List.all_eq_true.1 hall t hm)⟩)
    (by kernel_rfl)
#print axioms card
end Go.Proofs.YtmjkgnlmdcmdbaaDoor.powerPlays
namespace Go.Proofs.YtmjkgnlmdcmdbaaDoor
/-- The card, under a short name, for the claim. -/
theorem powerPlays_holds : Rows.PowerPlaysCardSaid := powerPlays.card
end Go.Proofs.YtmjkgnlmdcmdbaaDoor
