/- Law 6: a step upon the table and upon the plain table. -/
import Derived.Test.YtmjkgnlmdcmdbaaDoorPlainN3
import Derived.Test.YtmjkgnlmdcmdbaaDoorNodeBack
import Derived.RegionTactic
import Derived.Deep.RegionWith
import Derived.Deep.DeepCutAuto
import Derived.Deep.CutBlock
import Derived.OpenShut
import Derived.StillTailTactics
import Derived.Handy
import Derived.Deep.RegionHeld3
namespace Go.Proofs.YtmjkgnlmdcmdbaaDoor.Node
open Go.RowKit Go.Proofs.YtmjkgnlmdcmdbaaDoorW.PrintWords Go.Proofs.YtmjkgnlmdcmdbaaDoorW.PrintLast Go.Proofs.YtmjkgnlmdcmdbaaDoorW.PrintMore Go.Proofs.YtmjkgnlmdcmdbaaDoor.Row Go.Proofs.YtmjkgnlmdcmdbaaDoor.Sets
set_option linter.unusedVariables false
set_option linter.unusedSimpArgs false
def DoT (f : FuncId) (vs : Array Value) (b a u d : Nat) (v : Value) (u' d' : Nat) : Prop := ∀ w : World, NT w b a u d → Tab w → Calls Tryd.prog f (#[.pointer (some ⟨b, 0, none⟩)] ++ vs) w fun e w' => e = .returned v ∧ NT w' b a u' d' ∧ Upd b w w'
def DoP (f : FuncId) (vs : Array Value) (bp g cap : Nat) (l : List Int) (N : Nat) (v : Value) (u' d' : Nat) : Prop := ∀ w : World, PL w bp g cap l → Calls Tryd.prog f (#[.pointer (some ⟨bp, 0, none⟩)] ++ vs) w (After N u' d' bp g cap v w)
theorem DoT.one {f : FuncId} {x : Value} {b a u d : Nat} {v : Value} {u' d' : Nat} (h : DoT f #[x] b a u d v u' d') (w : World) (hl : NT w b a u d) (hT : Tab w) : Calls Tryd.prog f #[.pointer (some ⟨b, 0, none⟩), x] w fun e w' => e = .returned v ∧ NT w' b a u' d' ∧ Upd b w w' := h w hl hT
theorem DoP.one {f : FuncId} {x : Value} {bp g cap : Nat} {l : List Int} {N : Nat} {v : Value} {u' d' : Nat} (h : DoP f #[x] bp g cap l N v u' d') (w : World) (hl : PL w bp g cap l) : Calls Tryd.prog f #[.pointer (some ⟨bp, 0, none⟩), x] w (After N u' d' bp g cap v w) := h w hl
theorem DoP.two {f : FuncId} {x y : Value} {bp g cap : Nat} {l : List Int} {N : Nat} {v : Value} {u' d' : Nat} (h : DoP f #[x, y] bp g cap l N v u' d') (w : World) (hl : PL w bp g cap l) : Calls Tryd.prog f #[.pointer (some ⟨bp, 0, none⟩), x, y] w (After N u' d' bp g cap v w) := h w hl
theorem claimU_lt (a u d s : Nat) (hu : u < 18446744073709551616) (hs : s < 18446744073709551616) : claimU a u d s < 18446744073709551616 := by
  unfold claimU
  by_cases h : claimE a u d s = 0
  · rw [if_pos h]; exact or_lt u s hu hs
  · rw [if_neg h]; exact hu
theorem giveU_lt (u s : Nat) (hu : u < 18446744073709551616) : giveU u s < 18446744073709551616 := by
  unfold giveU
  by_cases h : minus s u = 0
  · rw [if_pos h]; exact minus_lt u s hu
  · rw [if_neg h]; exact hu
theorem sm_all (N u d : Nat) (h0 : 1 ≤ N) (hN : N ≤ 64) (hu : u < 18446744073709551616) (hd : d < 18446744073709551616) : Small3 (allS N) u d := ⟨allS_pos _ (by omega) (by omega), allS_lt _, hu, hd⟩
def Two (f p : FuncId) (vs ws : Array Value) (N b u d bp g cap : Nat) (l : List Int) (v : Value) : Prop := ∃ u' d', (u' < 18446744073709551616 ∧ d' < 18446744073709551616) ∧ DoT f vs b (allS N) u d v u' d' ∧ DoP p ws bp g cap l N v u' d'
theorem claim_two (N b u d bp g cap s : Nat) (l : List Int) (h0 : 1 ≤ N) (hN : N ≤ 64) (hu : u < 18446744073709551616) (hd : d < 18446744073709551616) (hs : s < 18446744073709551616) (hp : PI N u d l) :
    ∃ E, Two 48 91 #[.int .u64 s] #[.int .u64 s] N b u d bp g cap l (.int .i64 E) :=
  ⟨claimE (allS N) u d s, claimU (allS N) u d s, d, ⟨claimU_lt _ _ _ _ hu hs, hd⟩, fun w h _ => Claim_any b _ u d s w h (sm_all N u d h0 hN hu hd) hs, fun w h => claim06_any N bp g cap l u d s w h hp hN hu hd hs⟩
theorem give_two (N b u d bp g cap s : Nat) (l : List Int) (h0 : 1 ≤ N) (hN : N ≤ 64) (hu : u < 18446744073709551616) (hd : d < 18446744073709551616) (hs : s < 18446744073709551616) (hp : PI N u d l) :
    ∃ n E : Int, Two 43 92 #[.int .u64 s] #[.int .u64 s] N b u d bp g cap l (.tuple #[.int .i64 n, .int .i64 E]) :=
  ⟨giveN u d s, giveE u s, giveU u s, d, ⟨giveU_lt _ _ hu, hd⟩, fun w h _ => Give_any b _ u d s w h (sm_all N u d h0 hN hu hd) hs, fun w h => give06_any N bp g cap l u d s w h hp hN hu hd hs⟩
theorem take_two (N b u d bp g cap : Nat) (n : Int) (l : List Int) (h0 : 1 ≤ N) (hN : N ≤ 64) (hu : u < 18446744073709551616) (hd : d < 18446744073709551616) (hp : PI N u d l) :
    ∃ (t : Nat) (E : Int), Two 39 90 #[.int .i64 n] #[.int .i64 n] N b u d bp g cap l (.tuple #[.int .u64 (t : Int), .int .i64 E]) :=
  ⟨takeT (allS N) u d n, takeE (allS N) u d n, u ||| takeT (allS N) u d n, d, ⟨or_lt _ _ hu (takeT_lt _ _ _ _), hd⟩, fun w h k => Take_any b _ u d n w h (sm_all N u d h0 hN hu hd) k, fun w h => take06_any N bp g cap l u d n w h hp hN hu hd⟩
theorem drain_two (N b u d bp g cap : Nat) (n : Int) (l : List Int) (h0 : 1 ≤ N) (hN : N ≤ 64) (hu : u < 18446744073709551616) (hd : d < 18446744073709551616) (hp : PI N u d l) :
    ∃ E : Int, Two 37 93 #[.int .i64 n] #[.int .i64 n, .bool true] N b u d bp g cap l (.int .i64 E) :=
  ⟨turnE (allS N) d n true, u, turnD (allS N) d n true, ⟨hu, turnD_lt _ _ _ _ hd⟩, fun w h _ => Drain_any b _ u d n w h (sm_all N u d h0 hN hu hd), fun w h => turn06_any N bp g cap l u d n true w h hp hN hd⟩
theorem resume_two (N b u d bp g cap : Nat) (n : Int) (l : List Int) (h0 : 1 ≤ N) (hN : N ≤ 64) (hu : u < 18446744073709551616) (hd : d < 18446744073709551616) (hp : PI N u d l) :
    ∃ E : Int, Two 38 93 #[.int .i64 n] #[.int .i64 n, .bool false] N b u d bp g cap l (.int .i64 E) :=
  ⟨turnE (allS N) d n false, u, turnD (allS N) d n false, ⟨hu, turnD_lt _ _ _ _ hd⟩, fun w h _ => Resume_any b _ u d n w h (sm_all N u d h0 hN hu hd), fun w h => turn06_any N bp g cap l u d n false w h hp hN hd⟩
def StepPost (w0 : World) (N b bp g cap : Nat) (e : Ending) (w' : World) : Prop := e = .returned (.bool true) ∧ ∃ u' d' l', NT w' b (allS N) u' d' ∧ PL w' bp g cap l' ∧ PI N u' d' l' ∧ (u' < 18446744073709551616 ∧ d' < 18446744073709551616) ∧ Below w0.heap.size w0 w'
set_option maxRecDepth 100000 in
set_option maxHeartbeats 2000000 in
theorem step06_any (N b bp g cap u d s : Nat) (l : List Int) (x y : Int) (w0 w : World) (h0 : 1 ≤ N) (hN : N ≤ 64) (hu : u < 18446744073709551616) (hd : d < 18446744073709551616) (hs : s < 18446744073709551616) (hp : PI N u d l) (h1 : NT w b (allS N) u d) (h2 : PL w bp g cap l) (hne : b ≠ bp ∧ b ≠ g) (hB : Below w0.heap.size w0 w) (hbs : w0.heap.size ≤ b ∧ w0.heap.size ≤ g) (hT : Tab w0) :
    Calls Tryd.prog 45 #[.pointer (some ⟨b, 0, none⟩), .pointer (some ⟨bp, 0, none⟩), .agg #[.int .i64 x, .int .i64 y, .int .u64 s]] w (StepPost w0 N b bp g cap) := by
  have HNE := Lib.hid hne
  have HBS := Lib.hid hbs
  have HT := Lib.hid hT
  have L1 := Lib.hid h1
  have L2 := Lib.hid h2
  have HB := Lib.hid hB
  have G1 := Lib.hid (Nat.ne_of_gt h1.lt : w.heap.size ≠ b)
  have G2 := Lib.hid (Nat.ne_of_gt h2.r.lt : w.heap.size ≠ g)
  have GE := Lib.hid hB.size
  have CL := claim_two N b u d bp g cap s l h0 hN hu hd hs hp
  have GI := give_two N b u d bp g cap s l h0 hN hu hd hs hp
  have TA := take_two N b u d bp g cap y l h0 hN hu hd hp
  have DR := drain_two N b u d bp g cap y l h0 hN hu hd hp
  have RE := resume_two N b u d bp g cap y l h0 hN hu hd hp
  clear hne hbs h1 h2 hB hT h0 hN hu hd hs hp
  unfold Two at CL GI TA DR RE
  unfold StepPost
  revert L1 CL GI TA DR RE
  generalize allS (N : Int) = a
  intro L1 CL GI TA DR RE
  have hkind : (x = 0 ∨ x = 1) ∨ x = 2 ∨ (x = 3 ∨ x = 4) ∨ x = 5 ∨ (x ≠ 0 ∧ x ≠ 1 ∧ x ≠ 2 ∧ x ≠ 3 ∧ x ≠ 4 ∧ x ≠ 5) := by omega
  rcases hkind with (rfl | rfl) | rfl | (rfl | rfl) | rfl | ⟨d0, d1, d2, d3, d4, d5⟩
  · obtain ⟨t, E, u', d', hX, hKS, hKP⟩ := TA
    have HX := Lib.hid hX
    have KS := Lib.hid hKS
    have KP := Lib.hid hKP
    clear hX hKS hKP
    clear CL
    clear GI
    clear DR
    clear RE
    go_enter Tryd.func45, Tryd.ntmps45
    go_upto_region 5 with fail
    have c0 := blk_new w (.cells #[.int .i64 0, .int .i64 y, .int .u64 (s : Int)] 48)
    have l1 := L1.out.alloc (.cells #[.int .i64 0, .int .i64 y, .int .u64 (s : Int)] 48)
    have l2 := L2.out.below (below_alloc (Below.refl _ _) (.cells #[.int .i64 0, .int .i64 y, .int .u64 (s : Int)] 48))
    have hb0 := below_alloc HB.out (.cells #[.int .i64 0, .int .i64 y, .int .u64 (s : Int)] 48)
    clear L1 L2 HB
    generalize w.alloc (.cells #[.int .i64 0, .int .i64 y, .int .u64 (s : Int)] 48) = W at c0 l1 l2 hb0 ⊢
    generalize w.heap.size = k at c0 G1 G2 ⊢
    have BK := Lib.hid c0
    have L1 := Lib.hid l1
    have L2 := Lib.hid l2
    have HB := Lib.hid hb0
    clear c0 l1 l2 hb0
    have q1 : W.cell? ⟨k, 1, none⟩ = some (.int .i64 y) := (blk_cell BK.out 1).trans rfl
    go_wp2_with (first | (go_at_call 39; refine (KS.out.one _ L1.out (HT.out.below HB.out HT.out.lt)).mono ?_; rintro e w3 ⟨rfl, hl, hu⟩; clear q1; have n0_ := Lib.hid ((hu.1.2 k (blk_lt BK.out) G1.out).trans BK.out); have n1_ := Lib.hid (L2.out.upd hu HNE.out.1.symm HNE.out.2.symm); have n2_ := Lib.hid (HB.out.trans (hu.2.mono HBS.out.1)); have n3_ := Lib.hid hl; clear BK L1 L2 HB hu hl; have BK := n0_; have L2 := n1_; have HB := n2_; have L1 := n3_; clear n0_ n1_ n2_ n3_; have q2 : w3.cell? ⟨k, 1, none⟩ = some (.int .i64 y) := (blk_cell BK.out 1).trans rfl) | (go_at_call 90; refine (KP.out.one _ L2.out).mono ?_; rintro e w4 ⟨rfl, l', hl, hpi, hu⟩; clear q2; have HPI := Lib.hid hpi; clear hpi; have n0_ := Lib.hid ((hu.1.2 k (blk_lt BK.out) G2.out).trans BK.out); have n1_ := Lib.hid (L1.out.upd hu HNE.out.2); have n2_ := Lib.hid (HB.out.trans (hu.2.mono HBS.out.2)); have n3_ := Lib.hid hl; clear BK L1 L2 HB hu hl; have BK := n0_; have L1 := n1_; have HB := n2_; have L2 := n3_; clear n0_ n1_ n2_ n3_))
    go_ret
    exact ⟨rfl, u', d', l', L1.out, L2.out, HPI.out, HX.out, HB.out⟩
  · obtain ⟨t, E, u', d', hX, hKS, hKP⟩ := TA
    have HX := Lib.hid hX
    have KS := Lib.hid hKS
    have KP := Lib.hid hKP
    clear hX hKS hKP
    clear CL
    clear GI
    clear DR
    clear RE
    go_enter Tryd.func45, Tryd.ntmps45
    go_upto_region 5 with fail
    have c0 := blk_new w (.cells #[.int .i64 1, .int .i64 y, .int .u64 (s : Int)] 48)
    have l1 := L1.out.alloc (.cells #[.int .i64 1, .int .i64 y, .int .u64 (s : Int)] 48)
    have l2 := L2.out.below (below_alloc (Below.refl _ _) (.cells #[.int .i64 1, .int .i64 y, .int .u64 (s : Int)] 48))
    have hb0 := below_alloc HB.out (.cells #[.int .i64 1, .int .i64 y, .int .u64 (s : Int)] 48)
    clear L1 L2 HB
    generalize w.alloc (.cells #[.int .i64 1, .int .i64 y, .int .u64 (s : Int)] 48) = W at c0 l1 l2 hb0 ⊢
    generalize w.heap.size = k at c0 G1 G2 ⊢
    have BK := Lib.hid c0
    have L1 := Lib.hid l1
    have L2 := Lib.hid l2
    have HB := Lib.hid hb0
    clear c0 l1 l2 hb0
    have q1 : W.cell? ⟨k, 1, none⟩ = some (.int .i64 y) := (blk_cell BK.out 1).trans rfl
    go_wp2_with (first | (go_at_call 39; refine (KS.out.one _ L1.out (HT.out.below HB.out HT.out.lt)).mono ?_; rintro e w3 ⟨rfl, hl, hu⟩; clear q1; have n0_ := Lib.hid ((hu.1.2 k (blk_lt BK.out) G1.out).trans BK.out); have n1_ := Lib.hid (L2.out.upd hu HNE.out.1.symm HNE.out.2.symm); have n2_ := Lib.hid (HB.out.trans (hu.2.mono HBS.out.1)); have n3_ := Lib.hid hl; clear BK L1 L2 HB hu hl; have BK := n0_; have L2 := n1_; have HB := n2_; have L1 := n3_; clear n0_ n1_ n2_ n3_; have q2 : w3.cell? ⟨k, 1, none⟩ = some (.int .i64 y) := (blk_cell BK.out 1).trans rfl) | (go_at_call 90; refine (KP.out.one _ L2.out).mono ?_; rintro e w4 ⟨rfl, l', hl, hpi, hu⟩; clear q2; have HPI := Lib.hid hpi; clear hpi; have n0_ := Lib.hid ((hu.1.2 k (blk_lt BK.out) G2.out).trans BK.out); have n1_ := Lib.hid (L1.out.upd hu HNE.out.2); have n2_ := Lib.hid (HB.out.trans (hu.2.mono HBS.out.2)); have n3_ := Lib.hid hl; clear BK L1 L2 HB hu hl; have BK := n0_; have L1 := n1_; have HB := n2_; have L2 := n3_; clear n0_ n1_ n2_ n3_))
    go_ret
    exact ⟨rfl, u', d', l', L1.out, L2.out, HPI.out, HX.out, HB.out⟩
  · obtain ⟨E, u', d', hX, hKS, hKP⟩ := CL
    have HX := Lib.hid hX
    have KS := Lib.hid hKS
    have KP := Lib.hid hKP
    clear hX hKS hKP
    clear GI
    clear TA
    clear DR
    clear RE
    go_enter Tryd.func45, Tryd.ntmps45
    go_upto_region 9 with fail
    have c0 := blk_new w (.cells #[.int .i64 2, .int .i64 y, .int .u64 (s : Int)] 48)
    have l1 := L1.out.alloc (.cells #[.int .i64 2, .int .i64 y, .int .u64 (s : Int)] 48)
    have l2 := L2.out.below (below_alloc (Below.refl _ _) (.cells #[.int .i64 2, .int .i64 y, .int .u64 (s : Int)] 48))
    have hb0 := below_alloc HB.out (.cells #[.int .i64 2, .int .i64 y, .int .u64 (s : Int)] 48)
    clear L1 L2 HB
    generalize w.alloc (.cells #[.int .i64 2, .int .i64 y, .int .u64 (s : Int)] 48) = W at c0 l1 l2 hb0 ⊢
    generalize w.heap.size = k at c0 G1 G2 ⊢
    have BK := Lib.hid (blk_drew c0)
    have L1 := Lib.hid l1.drew
    have L2 := Lib.hid l2.drew
    have HB := Lib.hid (below_drew1 hb0)
    clear c0 l1 l2 hb0
    refine start_ (n := 10) (S := fun w' => w'.cell? ⟨k, 2, none⟩ = some (.int .u64 (s : Int))) (ds := []) #[false, false, false, false, false, false, false, false, false, false] (by kernel_rfl) rfl rfl ((blk_cell BK.out 2).trans rfl) (fun hHeld => ?_)
    generalize W.drew = w5 at BK L1 L2 HB hHeld ⊢
    refine pure_ (i := 0) (N := some 53) (v := ?_) (a' := ?_) #[true, false, false, false, false, false, false, false, false, false] rfl rfl (by kernel_rfl) (fun _ _ _ h => h) (Or.inl ⟨by rfl, ?_⟩) ?_ ?_
    rotate_left
    · intro w'
      go_simp
      with_reducible rfl
    rotate_left
    · simp only [Act.put, List.setIfInBounds_toArray, List.set_cons_zero, List.set_cons_succ, i64_w, i32_w]
      rfl
    refine pure_ (i := 1) (N := some 54) (v := ?_) (a' := ?_) #[true, true, false, false, false, false, false, false, false, false] rfl rfl (by kernel_rfl) (fun _ _ _ h => h) (Or.inl ⟨by rfl, ?_⟩) ?_ ?_
    rotate_left
    · intro w'
      go_simp
      with_reducible rfl
    rotate_left
    · simp only [Act.put, List.setIfInBounds_toArray, List.set_cons_zero, List.set_cons_succ, i64_w, i32_w]
      rfl
    refine pure_ (i := 4) (N := some 57) (v := ?_) (a' := ?_) #[true, true, false, false, true, false, false, false, false, false] rfl rfl (by kernel_rfl) (fun _ _ _ h => h) (Or.inl ⟨by rfl, ?_⟩) ?_ ?_
    rotate_left
    · intro w'
      go_simp
      with_reducible rfl
    rotate_left
    · simp only [Act.put, List.setIfInBounds_toArray, List.set_cons_zero, List.set_cons_succ, i64_w, i32_w]
      rfl
    refine pure_ (i := 5) (N := some 58) (v := ?_) (a' := ?_) #[true, true, false, false, true, true, false, false, false, false] rfl rfl (by kernel_rfl) (fun _ _ _ h => h) (Or.inl ⟨by rfl, ?_⟩) ?_ ?_
    rotate_left
    · intro w'
      go_simp
      with_reducible rfl
    rotate_left
    · simp only [Act.put, List.setIfInBounds_toArray, List.set_cons_zero, List.set_cons_succ, i64_w, i32_w]
      rfl
    refine take_ (i := 2) (N := some 55) (v := ?_) (a' := ?_) #[true, true, true, false, true, true, false, false, false, false] rfl rfl (by kernel_rfl) (fun _ _ _ h => h) (Or.inl ⟨by rfl, ?_⟩) hHeld ?_ ?_
    rotate_left
    · intro w' s0
      go_simp
      with_reducible rfl
    rotate_left
    · simp only [Act.put, List.setIfInBounds_toArray, List.set_cons_zero, List.set_cons_succ, i64_w, i32_w]
      rfl
    refine take_ (i := 6) (N := some 59) (v := ?_) (a' := ?_) #[true, true, true, false, true, true, true, false, false, false] rfl rfl (by kernel_rfl) (fun _ _ _ h => h) (Or.inl ⟨by rfl, ?_⟩) hHeld ?_ ?_
    rotate_left
    · intro w' s0
      go_simp
      with_reducible rfl
    rotate_left
    · simp only [Act.put, List.setIfInBounds_toArray, List.set_cons_zero, List.set_cons_succ, i64_w, i32_w]
      rfl
    refine one_ (i := 3) (N := some 56) #[true, true, true, true, true, true, true, false, false, false] rfl rfl (by kernel_rfl) (by decide) (fun K hK => ?_)
    refine goes_ Tryd.func48 (by kernel_rfl) rfl #[.pointer (some ⟨b, 0, none⟩), .int .u64 (s : Int)] (by rfl) rfl rfl (by (try simp only [List.map_toArray, List.map_cons, List.map_nil]); first | done | rfl | (simp only [List.length_drop, List.length_take]; rfl)) ?_
    with_reducible refine (KS.out.one _ L1.out (HT.out.below HB.out HT.out.lt)).mono ?_
    rintro e w3 ⟨rfl, hl, hu⟩
    refine ⟨_, rfl, ?_⟩
    have n0_ := Lib.hid ((hu.1.2 k (blk_lt BK.out) G1.out).trans BK.out)
    have n1_ := Lib.hid (L2.out.upd hu HNE.out.1.symm HNE.out.2.symm)
    have n2_ := Lib.hid (HB.out.trans (hu.2.mono HBS.out.1))
    have n3_ := Lib.hid hl
    clear BK L1 L2 HB hu hl
    have BK := n0_
    have L2 := n1_
    have HB := n2_
    have L1 := n3_
    clear n0_ n1_ n2_ n3_
    refine hK.out _ _ ((blk_cell BK.out 2).trans rfl) (fun hHeld => ?_)
    clear hK K
    refine norm_ (a' := ?_) ?_ ?_
    rotate_left
    · show Act.put _ (some 56) _ = _
      simp only [Act.put, List.setIfInBounds_toArray, List.set_cons_zero, List.set_cons_succ, i64_w, i32_w]
      rfl
    refine one_ (i := 7) (N := some 60) #[true, true, true, true, true, true, true, true, false, false] rfl rfl (by kernel_rfl) (by decide) (fun K hK => ?_)
    refine goes_ Tryd.func91 (by kernel_rfl) rfl #[.pointer (some ⟨bp, 0, none⟩), .int .u64 (s : Int)] (by rfl) rfl rfl (by (try simp only [List.map_toArray, List.map_cons, List.map_nil]); first | done | rfl | (simp only [List.length_drop, List.length_take]; rfl)) ?_
    with_reducible refine (KP.out.one _ L2.out).mono ?_
    rintro e w3 ⟨rfl, l', hl, hpi, hu⟩
    refine ⟨_, rfl, ?_⟩
    have HPI := Lib.hid hpi
    clear hpi
    have n0_ := Lib.hid ((hu.1.2 k (blk_lt BK.out) G2.out).trans BK.out)
    have n1_ := Lib.hid (L1.out.upd hu HNE.out.2)
    have n2_ := Lib.hid (HB.out.trans (hu.2.mono HBS.out.2))
    have n3_ := Lib.hid hl
    clear BK L1 L2 HB hu hl
    have BK := n0_
    have L1 := n1_
    have HB := n2_
    have L2 := n3_
    clear n0_ n1_ n2_ n3_
    refine hK.out _ _ ((blk_cell BK.out 2).trans rfl) (fun hHeld => ?_)
    clear hK K
    refine norm_ (a' := ?_) ?_ ?_
    rotate_left
    · show Act.put _ (some 60) _ = _
      simp only [Act.put, List.setIfInBounds_toArray, List.set_cons_zero, List.set_cons_succ, i64_w, i32_w]
      rfl
    refine pure_ (i := 8) (N := some 61) (v := ?_) (a' := ?_) #[true, true, true, true, true, true, true, true, true, false] rfl rfl (by kernel_rfl) (fun _ _ _ h => h) (Or.inl ⟨by rfl, ?_⟩) ?_ ?_
    rotate_left
    · intro w'
      go_simp
      with_reducible rfl
    rotate_left
    · simp only [Act.put, List.setIfInBounds_toArray, List.set_cons_zero, List.set_cons_succ, i64_w, i32_w]
      rfl
    refine pure_ (i := 9) (N := some 6) (v := ?_) (a' := ?_) #[true, true, true, true, true, true, true, true, true, true] rfl rfl (by kernel_rfl) (fun _ _ _ h => h) (Or.inl ⟨by rfl, ?_⟩) ?_ ?_
    rotate_left
    · intro w'
      go_simp
      with_reducible rfl
    rotate_left
    · simp only [Act.put, List.setIfInBounds_toArray, List.set_cons_zero, List.set_cons_succ, i64_w, i32_w]
      rfl
    refine done_ (by kernel_rfl) ?_
    go_wp2
    go_ret
    exact ⟨rfl, u', d', l', L1.out, L2.out, HPI.out, HX.out, HB.out⟩
  · obtain ⟨t, E, u', d', hX, hKS, hKP⟩ := GI
    have HX := Lib.hid hX
    have KS := Lib.hid hKS
    have KP := Lib.hid hKP
    clear hX hKS hKP
    clear CL
    clear TA
    clear DR
    clear RE
    go_enter Tryd.func45, Tryd.ntmps45
    go_upto_region 12 with fail
    have c0 := blk_new w (.cells #[.int .i64 3, .int .i64 y, .int .u64 (s : Int)] 48)
    have l1 := L1.out.alloc (.cells #[.int .i64 3, .int .i64 y, .int .u64 (s : Int)] 48)
    have l2 := L2.out.below (below_alloc (Below.refl _ _) (.cells #[.int .i64 3, .int .i64 y, .int .u64 (s : Int)] 48))
    have hb0 := below_alloc HB.out (.cells #[.int .i64 3, .int .i64 y, .int .u64 (s : Int)] 48)
    clear L1 L2 HB
    generalize w.alloc (.cells #[.int .i64 3, .int .i64 y, .int .u64 (s : Int)] 48) = W at c0 l1 l2 hb0 ⊢
    generalize w.heap.size = k at c0 G1 G2 ⊢
    have BK := Lib.hid c0
    have L1 := Lib.hid l1
    have L2 := Lib.hid l2
    have HB := Lib.hid hb0
    clear c0 l1 l2 hb0
    have q1 : W.cell? ⟨k, 2, none⟩ = some (.int .u64 (s : Int)) := (blk_cell BK.out 2).trans rfl
    go_wp2_with (first | (go_at_call 43; refine (KS.out.one _ L1.out (HT.out.below HB.out HT.out.lt)).mono ?_; rintro e w3 ⟨rfl, hl, hu⟩; clear q1; have n0_ := Lib.hid ((hu.1.2 k (blk_lt BK.out) G1.out).trans BK.out); have n1_ := Lib.hid (L2.out.upd hu HNE.out.1.symm HNE.out.2.symm); have n2_ := Lib.hid (HB.out.trans (hu.2.mono HBS.out.1)); have n3_ := Lib.hid hl; clear BK L1 L2 HB hu hl; have BK := n0_; have L2 := n1_; have HB := n2_; have L1 := n3_; clear n0_ n1_ n2_ n3_; have q2 : w3.cell? ⟨k, 2, none⟩ = some (.int .u64 (s : Int)) := (blk_cell BK.out 2).trans rfl) | (go_at_call 92; refine (KP.out.one _ L2.out).mono ?_; rintro e w4 ⟨rfl, l', hl, hpi, hu⟩; clear q2; have HPI := Lib.hid hpi; clear hpi; have n0_ := Lib.hid ((hu.1.2 k (blk_lt BK.out) G2.out).trans BK.out); have n1_ := Lib.hid (L1.out.upd hu HNE.out.2); have n2_ := Lib.hid (HB.out.trans (hu.2.mono HBS.out.2)); have n3_ := Lib.hid hl; clear BK L1 L2 HB hu hl; have BK := n0_; have L1 := n1_; have HB := n2_; have L2 := n3_; clear n0_ n1_ n2_ n3_))
    go_ret
    exact ⟨rfl, u', d', l', L1.out, L2.out, HPI.out, HX.out, HB.out⟩
  · obtain ⟨t, E, u', d', hX, hKS, hKP⟩ := GI
    have HX := Lib.hid hX
    have KS := Lib.hid hKS
    have KP := Lib.hid hKP
    clear hX hKS hKP
    clear CL
    clear TA
    clear DR
    clear RE
    go_enter Tryd.func45, Tryd.ntmps45
    go_upto_region 12 with fail
    have c0 := blk_new w (.cells #[.int .i64 4, .int .i64 y, .int .u64 (s : Int)] 48)
    have l1 := L1.out.alloc (.cells #[.int .i64 4, .int .i64 y, .int .u64 (s : Int)] 48)
    have l2 := L2.out.below (below_alloc (Below.refl _ _) (.cells #[.int .i64 4, .int .i64 y, .int .u64 (s : Int)] 48))
    have hb0 := below_alloc HB.out (.cells #[.int .i64 4, .int .i64 y, .int .u64 (s : Int)] 48)
    clear L1 L2 HB
    generalize w.alloc (.cells #[.int .i64 4, .int .i64 y, .int .u64 (s : Int)] 48) = W at c0 l1 l2 hb0 ⊢
    generalize w.heap.size = k at c0 G1 G2 ⊢
    have BK := Lib.hid c0
    have L1 := Lib.hid l1
    have L2 := Lib.hid l2
    have HB := Lib.hid hb0
    clear c0 l1 l2 hb0
    have q1 : W.cell? ⟨k, 2, none⟩ = some (.int .u64 (s : Int)) := (blk_cell BK.out 2).trans rfl
    go_wp2_with (first | (go_at_call 43; refine (KS.out.one _ L1.out (HT.out.below HB.out HT.out.lt)).mono ?_; rintro e w3 ⟨rfl, hl, hu⟩; clear q1; have n0_ := Lib.hid ((hu.1.2 k (blk_lt BK.out) G1.out).trans BK.out); have n1_ := Lib.hid (L2.out.upd hu HNE.out.1.symm HNE.out.2.symm); have n2_ := Lib.hid (HB.out.trans (hu.2.mono HBS.out.1)); have n3_ := Lib.hid hl; clear BK L1 L2 HB hu hl; have BK := n0_; have L2 := n1_; have HB := n2_; have L1 := n3_; clear n0_ n1_ n2_ n3_; have q2 : w3.cell? ⟨k, 2, none⟩ = some (.int .u64 (s : Int)) := (blk_cell BK.out 2).trans rfl) | (go_at_call 92; refine (KP.out.one _ L2.out).mono ?_; rintro e w4 ⟨rfl, l', hl, hpi, hu⟩; clear q2; have HPI := Lib.hid hpi; clear hpi; have n0_ := Lib.hid ((hu.1.2 k (blk_lt BK.out) G2.out).trans BK.out); have n1_ := Lib.hid (L1.out.upd hu HNE.out.2); have n2_ := Lib.hid (HB.out.trans (hu.2.mono HBS.out.2)); have n3_ := Lib.hid hl; clear BK L1 L2 HB hu hl; have BK := n0_; have L1 := n1_; have HB := n2_; have L2 := n3_; clear n0_ n1_ n2_ n3_))
    go_ret
    exact ⟨rfl, u', d', l', L1.out, L2.out, HPI.out, HX.out, HB.out⟩
  · obtain ⟨E, u', d', hX, hKS, hKP⟩ := DR
    have HX := Lib.hid hX
    have KS := Lib.hid hKS
    have KP := Lib.hid hKP
    clear hX hKS hKP
    clear CL
    clear GI
    clear TA
    clear RE
    go_enter Tryd.func45, Tryd.ntmps45
    go_upto_region 16 with fail
    have c0 := blk_new w (.cells #[.int .i64 5, .int .i64 y, .int .u64 (s : Int)] 48)
    have l1 := L1.out.alloc (.cells #[.int .i64 5, .int .i64 y, .int .u64 (s : Int)] 48)
    have l2 := L2.out.below (below_alloc (Below.refl _ _) (.cells #[.int .i64 5, .int .i64 y, .int .u64 (s : Int)] 48))
    have hb0 := below_alloc HB.out (.cells #[.int .i64 5, .int .i64 y, .int .u64 (s : Int)] 48)
    clear L1 L2 HB
    generalize w.alloc (.cells #[.int .i64 5, .int .i64 y, .int .u64 (s : Int)] 48) = W at c0 l1 l2 hb0 ⊢
    generalize w.heap.size = k at c0 G1 G2 ⊢
    have BK := Lib.hid (blk_drew c0)
    have L1 := Lib.hid l1.drew
    have L2 := Lib.hid l2.drew
    have HB := Lib.hid (below_drew1 hb0)
    clear c0 l1 l2 hb0
    refine start_ (n := 10) (S := fun w' => w'.cell? ⟨k, 1, none⟩ = some (.int .i64 y)) (ds := []) #[false, false, false, false, false, false, false, false, false, false] (by kernel_rfl) rfl rfl ((blk_cell BK.out 1).trans rfl) (fun hHeld => ?_)
    generalize W.drew = w5 at BK L1 L2 HB hHeld ⊢
    refine pure_ (i := 0) (N := some 89) (v := ?_) (a' := ?_) #[true, false, false, false, false, false, false, false, false, false] rfl rfl (by kernel_rfl) (fun _ _ _ h => h) (Or.inl ⟨by rfl, ?_⟩) ?_ ?_
    rotate_left
    · intro w'
      go_simp
      with_reducible rfl
    rotate_left
    · simp only [Act.put, List.setIfInBounds_toArray, List.set_cons_zero, List.set_cons_succ, i64_w, i32_w]
      rfl
    refine pure_ (i := 1) (N := some 90) (v := ?_) (a' := ?_) #[true, true, false, false, false, false, false, false, false, false] rfl rfl (by kernel_rfl) (fun _ _ _ h => h) (Or.inl ⟨by rfl, ?_⟩) ?_ ?_
    rotate_left
    · intro w'
      go_simp
      with_reducible rfl
    rotate_left
    · simp only [Act.put, List.setIfInBounds_toArray, List.set_cons_zero, List.set_cons_succ, i64_w, i32_w]
      rfl
    refine pure_ (i := 4) (N := some 93) (v := ?_) (a' := ?_) #[true, true, false, false, true, false, false, false, false, false] rfl rfl (by kernel_rfl) (fun _ _ _ h => h) (Or.inl ⟨by rfl, ?_⟩) ?_ ?_
    rotate_left
    · intro w'
      go_simp
      with_reducible rfl
    rotate_left
    · simp only [Act.put, List.setIfInBounds_toArray, List.set_cons_zero, List.set_cons_succ, i64_w, i32_w]
      rfl
    refine pure_ (i := 5) (N := some 94) (v := ?_) (a' := ?_) #[true, true, false, false, true, true, false, false, false, false] rfl rfl (by kernel_rfl) (fun _ _ _ h => h) (Or.inl ⟨by rfl, ?_⟩) ?_ ?_
    rotate_left
    · intro w'
      go_simp
      with_reducible rfl
    rotate_left
    · simp only [Act.put, List.setIfInBounds_toArray, List.set_cons_zero, List.set_cons_succ, i64_w, i32_w]
      rfl
    refine take_ (i := 2) (N := some 91) (v := ?_) (a' := ?_) #[true, true, true, false, true, true, false, false, false, false] rfl rfl (by kernel_rfl) (fun _ _ _ h => h) (Or.inl ⟨by rfl, ?_⟩) hHeld ?_ ?_
    rotate_left
    · intro w' s0
      go_simp
      with_reducible rfl
    rotate_left
    · simp only [Act.put, List.setIfInBounds_toArray, List.set_cons_zero, List.set_cons_succ, i64_w, i32_w]
      rfl
    refine take_ (i := 6) (N := some 95) (v := ?_) (a' := ?_) #[true, true, true, false, true, true, true, false, false, false] rfl rfl (by kernel_rfl) (fun _ _ _ h => h) (Or.inl ⟨by rfl, ?_⟩) hHeld ?_ ?_
    rotate_left
    · intro w' s0
      go_simp
      with_reducible rfl
    rotate_left
    · simp only [Act.put, List.setIfInBounds_toArray, List.set_cons_zero, List.set_cons_succ, i64_w, i32_w]
      rfl
    refine one_ (i := 3) (N := some 92) #[true, true, true, true, true, true, true, false, false, false] rfl rfl (by kernel_rfl) (by decide) (fun K hK => ?_)
    refine goes_ Tryd.func37 (by kernel_rfl) rfl #[.pointer (some ⟨b, 0, none⟩), .int .i64 y] (by rfl) rfl rfl (by (try simp only [List.map_toArray, List.map_cons, List.map_nil]); first | done | rfl | (simp only [List.length_drop, List.length_take]; rfl)) ?_
    with_reducible refine (KS.out.one _ L1.out (HT.out.below HB.out HT.out.lt)).mono ?_
    rintro e w3 ⟨rfl, hl, hu⟩
    refine ⟨_, rfl, ?_⟩
    have n0_ := Lib.hid ((hu.1.2 k (blk_lt BK.out) G1.out).trans BK.out)
    have n1_ := Lib.hid (L2.out.upd hu HNE.out.1.symm HNE.out.2.symm)
    have n2_ := Lib.hid (HB.out.trans (hu.2.mono HBS.out.1))
    have n3_ := Lib.hid hl
    clear BK L1 L2 HB hu hl
    have BK := n0_
    have L2 := n1_
    have HB := n2_
    have L1 := n3_
    clear n0_ n1_ n2_ n3_
    refine hK.out _ _ ((blk_cell BK.out 1).trans rfl) (fun hHeld => ?_)
    clear hK K
    refine norm_ (a' := ?_) ?_ ?_
    rotate_left
    · show Act.put _ (some 92) _ = _
      simp only [Act.put, List.setIfInBounds_toArray, List.set_cons_zero, List.set_cons_succ, i64_w, i32_w]
      rfl
    refine one_ (i := 7) (N := some 96) #[true, true, true, true, true, true, true, true, false, false] rfl rfl (by kernel_rfl) (by decide) (fun K hK => ?_)
    refine goes_ Tryd.func93 (by kernel_rfl) rfl #[.pointer (some ⟨bp, 0, none⟩), .int .i64 y, .bool true] (by rfl) rfl rfl (by (try simp only [List.map_toArray, List.map_cons, List.map_nil]); first | done | rfl | (simp only [List.length_drop, List.length_take]; rfl)) ?_
    with_reducible refine (KP.out.two _ L2.out).mono ?_
    rintro e w3 ⟨rfl, l', hl, hpi, hu⟩
    refine ⟨_, rfl, ?_⟩
    have HPI := Lib.hid hpi
    clear hpi
    have n0_ := Lib.hid ((hu.1.2 k (blk_lt BK.out) G2.out).trans BK.out)
    have n1_ := Lib.hid (L1.out.upd hu HNE.out.2)
    have n2_ := Lib.hid (HB.out.trans (hu.2.mono HBS.out.2))
    have n3_ := Lib.hid hl
    clear BK L1 L2 HB hu hl
    have BK := n0_
    have L1 := n1_
    have HB := n2_
    have L2 := n3_
    clear n0_ n1_ n2_ n3_
    refine hK.out _ _ ((blk_cell BK.out 1).trans rfl) (fun hHeld => ?_)
    clear hK K
    refine norm_ (a' := ?_) ?_ ?_
    rotate_left
    · show Act.put _ (some 96) _ = _
      simp only [Act.put, List.setIfInBounds_toArray, List.set_cons_zero, List.set_cons_succ, i64_w, i32_w]
      rfl
    refine pure_ (i := 8) (N := some 97) (v := ?_) (a' := ?_) #[true, true, true, true, true, true, true, true, true, false] rfl rfl (by kernel_rfl) (fun _ _ _ h => h) (Or.inl ⟨by rfl, ?_⟩) ?_ ?_
    rotate_left
    · intro w'
      go_simp
      with_reducible rfl
    rotate_left
    · simp only [Act.put, List.setIfInBounds_toArray, List.set_cons_zero, List.set_cons_succ, i64_w, i32_w]
      rfl
    refine pure_ (i := 9) (N := some 6) (v := ?_) (a' := ?_) #[true, true, true, true, true, true, true, true, true, true] rfl rfl (by kernel_rfl) (fun _ _ _ h => h) (Or.inl ⟨by rfl, ?_⟩) ?_ ?_
    rotate_left
    · intro w'
      go_simp
      with_reducible rfl
    rotate_left
    · simp only [Act.put, List.setIfInBounds_toArray, List.set_cons_zero, List.set_cons_succ, i64_w, i32_w]
      rfl
    refine done_ (by kernel_rfl) ?_
    go_wp2
    go_ret
    exact ⟨rfl, u', d', l', L1.out, L2.out, HPI.out, HX.out, HB.out⟩
  · have e0 : (x == 0) = false := by simpa using d0
    have e1 : (x == 1) = false := by simpa using d1
    have e2 : (x == 2) = false := by simpa using d2
    have e3 : (x == 3) = false := by simpa using d3
    have e4 : (x == 4) = false := by simpa using d4
    have e5 : (x == 5) = false := by simpa using d5
    clear d0 d1 d2 d3 d4 d5
    obtain ⟨E, u', d', hX, hKS, hKP⟩ := RE
    have HX := Lib.hid hX
    have KS := Lib.hid hKS
    have KP := Lib.hid hKP
    clear hX hKS hKP
    clear CL
    clear GI
    clear TA
    clear DR
    go_enter Tryd.func45, Tryd.ntmps45
    go_upto_region 2 with fail
    have c0 := blk_new w (.cells #[.int .i64 x, .int .i64 y, .int .u64 (s : Int)] 48)
    have l1 := L1.out.alloc (.cells #[.int .i64 x, .int .i64 y, .int .u64 (s : Int)] 48)
    have l2 := L2.out.below (below_alloc (Below.refl _ _) (.cells #[.int .i64 x, .int .i64 y, .int .u64 (s : Int)] 48))
    have hb0 := below_alloc HB.out (.cells #[.int .i64 x, .int .i64 y, .int .u64 (s : Int)] 48)
    clear L1 L2 HB
    generalize w.alloc (.cells #[.int .i64 x, .int .i64 y, .int .u64 (s : Int)] 48) = W at c0 l1 l2 hb0 ⊢
    generalize w.heap.size = k at c0 G1 G2 ⊢
    have BK := Lib.hid (blk_drew c0)
    have L1 := Lib.hid l1.drew
    have L2 := Lib.hid l2.drew
    have HB := Lib.hid (below_drew1 hb0)
    clear c0 l1 l2 hb0
    refine start_ (n := 10) (S := fun w' => w'.cell? ⟨k, 1, none⟩ = some (.int .i64 y)) (ds := []) #[false, false, false, false, false, false, false, false, false, false] (by kernel_rfl) rfl rfl ((blk_cell BK.out 1).trans rfl) (fun hHeld => ?_)
    generalize W.drew = w5 at BK L1 L2 HB hHeld ⊢
    refine pure_ (i := 0) (N := some 17) (v := ?_) (a' := ?_) #[true, false, false, false, false, false, false, false, false, false] rfl rfl (by kernel_rfl) (fun _ _ _ h => h) (Or.inl ⟨by rfl, ?_⟩) ?_ ?_
    rotate_left
    · intro w'
      go_simp
      with_reducible rfl
    rotate_left
    · simp only [Act.put, List.setIfInBounds_toArray, List.set_cons_zero, List.set_cons_succ, i64_w, i32_w]
      rfl
    refine pure_ (i := 1) (N := some 18) (v := ?_) (a' := ?_) #[true, true, false, false, false, false, false, false, false, false] rfl rfl (by kernel_rfl) (fun _ _ _ h => h) (Or.inl ⟨by rfl, ?_⟩) ?_ ?_
    rotate_left
    · intro w'
      go_simp
      with_reducible rfl
    rotate_left
    · simp only [Act.put, List.setIfInBounds_toArray, List.set_cons_zero, List.set_cons_succ, i64_w, i32_w]
      rfl
    refine pure_ (i := 4) (N := some 21) (v := ?_) (a' := ?_) #[true, true, false, false, true, false, false, false, false, false] rfl rfl (by kernel_rfl) (fun _ _ _ h => h) (Or.inl ⟨by rfl, ?_⟩) ?_ ?_
    rotate_left
    · intro w'
      go_simp
      with_reducible rfl
    rotate_left
    · simp only [Act.put, List.setIfInBounds_toArray, List.set_cons_zero, List.set_cons_succ, i64_w, i32_w]
      rfl
    refine pure_ (i := 5) (N := some 22) (v := ?_) (a' := ?_) #[true, true, false, false, true, true, false, false, false, false] rfl rfl (by kernel_rfl) (fun _ _ _ h => h) (Or.inl ⟨by rfl, ?_⟩) ?_ ?_
    rotate_left
    · intro w'
      go_simp
      with_reducible rfl
    rotate_left
    · simp only [Act.put, List.setIfInBounds_toArray, List.set_cons_zero, List.set_cons_succ, i64_w, i32_w]
      rfl
    refine take_ (i := 2) (N := some 19) (v := ?_) (a' := ?_) #[true, true, true, false, true, true, false, false, false, false] rfl rfl (by kernel_rfl) (fun _ _ _ h => h) (Or.inl ⟨by rfl, ?_⟩) hHeld ?_ ?_
    rotate_left
    · intro w' s0
      go_simp
      with_reducible rfl
    rotate_left
    · simp only [Act.put, List.setIfInBounds_toArray, List.set_cons_zero, List.set_cons_succ, i64_w, i32_w]
      rfl
    refine take_ (i := 6) (N := some 23) (v := ?_) (a' := ?_) #[true, true, true, false, true, true, true, false, false, false] rfl rfl (by kernel_rfl) (fun _ _ _ h => h) (Or.inl ⟨by rfl, ?_⟩) hHeld ?_ ?_
    rotate_left
    · intro w' s0
      go_simp
      with_reducible rfl
    rotate_left
    · simp only [Act.put, List.setIfInBounds_toArray, List.set_cons_zero, List.set_cons_succ, i64_w, i32_w]
      rfl
    refine one_ (i := 3) (N := some 20) #[true, true, true, true, true, true, true, false, false, false] rfl rfl (by kernel_rfl) (by decide) (fun K hK => ?_)
    refine goes_ Tryd.func38 (by kernel_rfl) rfl #[.pointer (some ⟨b, 0, none⟩), .int .i64 y] (by rfl) rfl rfl (by (try simp only [List.map_toArray, List.map_cons, List.map_nil]); first | done | rfl | (simp only [List.length_drop, List.length_take]; rfl)) ?_
    with_reducible refine (KS.out.one _ L1.out (HT.out.below HB.out HT.out.lt)).mono ?_
    rintro e w3 ⟨rfl, hl, hu⟩
    refine ⟨_, rfl, ?_⟩
    have n0_ := Lib.hid ((hu.1.2 k (blk_lt BK.out) G1.out).trans BK.out)
    have n1_ := Lib.hid (L2.out.upd hu HNE.out.1.symm HNE.out.2.symm)
    have n2_ := Lib.hid (HB.out.trans (hu.2.mono HBS.out.1))
    have n3_ := Lib.hid hl
    clear BK L1 L2 HB hu hl
    have BK := n0_
    have L2 := n1_
    have HB := n2_
    have L1 := n3_
    clear n0_ n1_ n2_ n3_
    refine hK.out _ _ ((blk_cell BK.out 1).trans rfl) (fun hHeld => ?_)
    clear hK K
    refine norm_ (a' := ?_) ?_ ?_
    rotate_left
    · show Act.put _ (some 20) _ = _
      simp only [Act.put, List.setIfInBounds_toArray, List.set_cons_zero, List.set_cons_succ, i64_w, i32_w]
      rfl
    refine one_ (i := 7) (N := some 24) #[true, true, true, true, true, true, true, true, false, false] rfl rfl (by kernel_rfl) (by decide) (fun K hK => ?_)
    refine goes_ Tryd.func93 (by kernel_rfl) rfl #[.pointer (some ⟨bp, 0, none⟩), .int .i64 y, .bool false] (by rfl) rfl rfl (by (try simp only [List.map_toArray, List.map_cons, List.map_nil]); first | done | rfl | (simp only [List.length_drop, List.length_take]; rfl)) ?_
    with_reducible refine (KP.out.two _ L2.out).mono ?_
    rintro e w3 ⟨rfl, l', hl, hpi, hu⟩
    refine ⟨_, rfl, ?_⟩
    have HPI := Lib.hid hpi
    clear hpi
    have n0_ := Lib.hid ((hu.1.2 k (blk_lt BK.out) G2.out).trans BK.out)
    have n1_ := Lib.hid (L1.out.upd hu HNE.out.2)
    have n2_ := Lib.hid (HB.out.trans (hu.2.mono HBS.out.2))
    have n3_ := Lib.hid hl
    clear BK L1 L2 HB hu hl
    have BK := n0_
    have L1 := n1_
    have HB := n2_
    have L2 := n3_
    clear n0_ n1_ n2_ n3_
    refine hK.out _ _ ((blk_cell BK.out 1).trans rfl) (fun hHeld => ?_)
    clear hK K
    refine norm_ (a' := ?_) ?_ ?_
    rotate_left
    · show Act.put _ (some 24) _ = _
      simp only [Act.put, List.setIfInBounds_toArray, List.set_cons_zero, List.set_cons_succ, i64_w, i32_w]
      rfl
    refine pure_ (i := 8) (N := some 25) (v := ?_) (a' := ?_) #[true, true, true, true, true, true, true, true, true, false] rfl rfl (by kernel_rfl) (fun _ _ _ h => h) (Or.inl ⟨by rfl, ?_⟩) ?_ ?_
    rotate_left
    · intro w'
      go_simp
      with_reducible rfl
    rotate_left
    · simp only [Act.put, List.setIfInBounds_toArray, List.set_cons_zero, List.set_cons_succ, i64_w, i32_w]
      rfl
    refine pure_ (i := 9) (N := some 6) (v := ?_) (a' := ?_) #[true, true, true, true, true, true, true, true, true, true] rfl rfl (by kernel_rfl) (fun _ _ _ h => h) (Or.inl ⟨by rfl, ?_⟩) ?_ ?_
    rotate_left
    · intro w'
      go_simp
      with_reducible rfl
    rotate_left
    · simp only [Act.put, List.setIfInBounds_toArray, List.set_cons_zero, List.set_cons_succ, i64_w, i32_w]
      rfl
    refine done_ (by kernel_rfl) ?_
    go_wp2
    go_ret
    exact ⟨rfl, u', d', l', L1.out, L2.out, HPI.out, HX.out, HB.out⟩
end Go.Proofs.YtmjkgnlmdcmdbaaDoor.Node
