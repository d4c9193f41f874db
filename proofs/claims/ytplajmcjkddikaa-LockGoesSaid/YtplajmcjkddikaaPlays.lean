/- LockPlays: a step upon the set and upon the plain locks. -/
import Derived.Test.YtplajmcjkddikaaPlain16
import Derived.RegionTactic
import Derived.Deep.RegionWith
import Derived.Deep.DeepCutAuto
import Derived.Deep.CutBlock
import Derived.OpenShut
import Derived.StillTailTactics
import Derived.Handy
import Derived.Deep.RegionHeld3
namespace Go.Proofs.Ytplajmcjkddikaa.Lock
open Go.RowKit Go.Proofs.YtplajmcjkddikaaW.PrintWords Go.Proofs.YtplajmcjkddikaaW.PrintLast Go.Proofs.YtplajmcjkddikaaW.PrintMore Go.Proofs.Ytplajmcjkddikaa.Rule
set_option linter.unusedVariables false
set_option linter.unusedSimpArgs false
def Does (f : FuncId) (vs : Array Value) (x y z t E X Y Z T : Int) : Prop := ∀ (b : Nat) (w : World), LS w b x y z t → Calls Try.prog f (#[.pointer (some ⟨b, 0, none⟩)] ++ vs) w fun e w' => e = .returned (.int .i64 E) ∧ LS w' b X Y Z T ∧ Upd b w w'
theorem Does.two {f : FuncId} {a c : Value} {x y z t E X Y Z T : Int} (h : Does f #[a, c] x y z t E X Y Z T) (b : Nat) (w : World) (hl : LS w b x y z t) : Calls Try.prog f #[.pointer (some ⟨b, 0, none⟩), a, c] w fun e w' => e = .returned (.int .i64 E) ∧ LS w' b X Y Z T ∧ Upd b w w' := h b w hl
theorem Does.one {f : FuncId} {a : Value} {x y z t E X Y Z T : Int} (h : Does f #[a] x y z t E X Y Z T) (b : Nat) (w : World) (hl : LS w b x y z t) : Calls Try.prog f #[.pointer (some ⟨b, 0, none⟩), a] w fun e w' => e = .returned (.int .i64 E) ∧ LS w' b X Y Z T ∧ Upd b w w' := h b w hl
theorem try_two (x y z t k who : Int) (ht : 0 ≤ t ∧ t < 1000) : ∃ E X Y Z T, (0 ≤ T ∧ T ≤ t + 1) ∧ Does 66 #[.int .i64 k, .int .i64 who] x y z t E X Y Z T ∧ Does 103 #[.int .i64 k, .int .i64 who] x y z t E X Y Z T := by
  by_cases h : tryE x y z k who = 0
  · refine ⟨0, (put3 x y z k who).1, (put3 x y z k who).2.1, (put3 x y z k who).2.2, t + 1, by omega, fun b w hl => (try_any b x y z t k who w hl (by omega)).mono ?_, fun b w hl => (ptry_any b x y z t k who w hl (by omega)).mono ?_⟩ <;>
    · rintro e w' ⟨rfl, h1, h2, h3⟩
      exact ⟨by rw [h], h1 h, h3⟩
  · refine ⟨tryE x y z k who, x, y, z, t, by omega, fun b w hl => (try_any b x y z t k who w hl (by omega)).mono ?_, fun b w hl => (ptry_any b x y z t k who w hl (by omega)).mono ?_⟩ <;>
    · rintro e w' ⟨rfl, h1, h2, h3⟩
      exact ⟨rfl, h2 h, h3⟩
theorem free_two (x y z t k who : Int) : ∃ E X Y Z, Does 73 #[.int .i64 k, .int .i64 who] x y z t E X Y Z t ∧ Does 104 #[.int .i64 k, .int .i64 who] x y z t E X Y Z t :=
  ⟨_, _, _, _, fun b w hl => free_any b x y z t k who w hl, fun b w hl => pfree_any b x y z t k who w hl⟩
theorem all_two (x y z t who : Int) : ∃ E X Y Z, Does 74 #[.int .i64 who] x y z t E X Y Z t ∧ Does 105 #[.int .i64 who] x y z t E X Y Z t :=
  ⟨_, _, _, _, fun b w hl => all_any b x y z t who w hl, fun b w hl => pall_any b x y z t who w hl⟩
set_option maxRecDepth 100000 in
set_option maxHeartbeats 2000000 in
theorem step_any (bs bp : Nat) (x y z t kind k who : Int) (w0 w : World) (hne : bs ≠ bp) (h1 : LS w bs x y z t) (h2 : LS w bp x y z t) (hB : Below w0.heap.size w0 w) (hbs : w0.heap.size ≤ bs) (hbp : w0.heap.size ≤ bp) (ht : 0 ≤ t ∧ t < 1000) :
    Calls Try.prog 69 #[.pointer (some ⟨bs, 0, none⟩), .pointer (some ⟨bp, 0, none⟩), .agg #[.int .i64 kind, .int .i64 k, .int .i64 who]] w fun e w' => e = .returned (.bool true) ∧ ∃ X Y Z T, LS w' bs X Y Z T ∧ LS w' bp X Y Z T ∧ (0 ≤ T ∧ T ≤ t + 1) ∧ Below w0.heap.size w0 w' := by
  have HNE := Lib.hid hne
  have HBS := Lib.hid hbs
  have HBP := Lib.hid hbp
  have HT := Lib.hid ht
  have L1 := Lib.hid h1
  have L2 := Lib.hid h2
  have HB := Lib.hid hB
  have G1 := Lib.hid (Nat.ne_of_gt h1.lt : w.heap.size ≠ bs)
  have G2 := Lib.hid (Nat.ne_of_gt h2.lt : w.heap.size ≠ bp)
  have GE := Lib.hid hB.size
  clear hne hbs hbp ht h1 h2 hB
  have hkind : (kind = 0 ∨ kind = 1) ∨ kind = 2 ∨ (kind ≠ 0 ∧ kind ≠ 1 ∧ kind ≠ 2) := by omega
  rcases hkind with (rfl | rfl) | rfl | ⟨d0, d1, d2⟩
  · obtain ⟨E, X, Y, Z, T, hX, hKS, hKP⟩ := try_two x y z t k who HT.out
    have HX := Lib.hid hX
    have KS := Lib.hid hKS
    have KP := Lib.hid hKP
    clear hX hKS hKP
    go_enter Try.func69, Try.ntmps69
    go_upto_region 5 with fail
    have c0 := blk_new w (.cells #[.int .i64 0, .int .i64 k, .int .i64 who] 81)
    have l1 := L1.out.alloc (.cells #[.int .i64 0, .int .i64 k, .int .i64 who] 81)
    have l2 := L2.out.alloc (.cells #[.int .i64 0, .int .i64 k, .int .i64 who] 81)
    have hb0 := below_alloc HB.out (.cells #[.int .i64 0, .int .i64 k, .int .i64 who] 81)
    clear L1 L2 HB
    generalize w.alloc (.cells #[.int .i64 0, .int .i64 k, .int .i64 who] 81) = W at c0 l1 l2 hb0 ⊢
    generalize w.heap.size = g at c0 G1 G2 ⊢
    have BK := Lib.hid (blk_drew c0)
    have L1 := Lib.hid (l1.below (below_drew (Below.refl _ _)) l1.lt)
    have L2 := Lib.hid (l2.below (below_drew (Below.refl _ _)) l2.lt)
    have HB := Lib.hid (below_drew1 hb0)
    clear c0 l1 l2 hb0
    refine start_ (n := 14) (S := fun w' => w'.cell? ⟨g, 1, none⟩ = some (.int .i64 k) ∧ w'.cell? ⟨g, 2, none⟩ = some (.int .i64 who)) (ds := []) #[false, false, false, false, false, false, false, false, false, false, false, false, false, false] (by kernel_rfl) rfl rfl ⟨(blk_cell BK.out 1).trans rfl, (blk_cell BK.out 2).trans rfl⟩ (fun hHeld => ?_)
    generalize W.drew = w5 at BK L1 L2 HB hHeld ⊢
    refine pure_ (i := 0) (N := some 21) (v := ?_) (a' := ?_) #[true, false, false, false, false, false, false, false, false, false, false, false, false, false] rfl rfl (by kernel_rfl) (fun _ _ _ h => h) (Or.inl ⟨by rfl, ?_⟩) ?_ ?_
    rotate_left
    · intro w'
      go_simp
      with_reducible rfl
    rotate_left
    · simp only [Act.put, List.setIfInBounds_toArray, List.set_cons_zero, List.set_cons_succ, i64_w, i32_w]
      rfl
    refine pure_ (i := 1) (N := some 22) (v := ?_) (a' := ?_) #[true, true, false, false, false, false, false, false, false, false, false, false, false, false] rfl rfl (by kernel_rfl) (fun _ _ _ h => h) (Or.inl ⟨by rfl, ?_⟩) ?_ ?_
    rotate_left
    · intro w'
      go_simp
      with_reducible rfl
    rotate_left
    · simp only [Act.put, List.setIfInBounds_toArray, List.set_cons_zero, List.set_cons_succ, i64_w, i32_w]
      rfl
    refine pure_ (i := 3) (N := some 24) (v := ?_) (a' := ?_) #[true, true, false, true, false, false, false, false, false, false, false, false, false, false] rfl rfl (by kernel_rfl) (fun _ _ _ h => h) (Or.inl ⟨by rfl, ?_⟩) ?_ ?_
    rotate_left
    · intro w'
      go_simp
      with_reducible rfl
    rotate_left
    · simp only [Act.put, List.setIfInBounds_toArray, List.set_cons_zero, List.set_cons_succ, i64_w, i32_w]
      rfl
    refine pure_ (i := 6) (N := some 27) (v := ?_) (a' := ?_) #[true, true, false, true, false, false, true, false, false, false, false, false, false, false] rfl rfl (by kernel_rfl) (fun _ _ _ h => h) (Or.inl ⟨by rfl, ?_⟩) ?_ ?_
    rotate_left
    · intro w'
      go_simp
      with_reducible rfl
    rotate_left
    · simp only [Act.put, List.setIfInBounds_toArray, List.set_cons_zero, List.set_cons_succ, i64_w, i32_w]
      rfl
    refine pure_ (i := 7) (N := some 28) (v := ?_) (a' := ?_) #[true, true, false, true, false, false, true, true, false, false, false, false, false, false] rfl rfl (by kernel_rfl) (fun _ _ _ h => h) (Or.inl ⟨by rfl, ?_⟩) ?_ ?_
    rotate_left
    · intro w'
      go_simp
      with_reducible rfl
    rotate_left
    · simp only [Act.put, List.setIfInBounds_toArray, List.set_cons_zero, List.set_cons_succ, i64_w, i32_w]
      rfl
    refine pure_ (i := 9) (N := some 30) (v := ?_) (a' := ?_) #[true, true, false, true, false, false, true, true, false, true, false, false, false, false] rfl rfl (by kernel_rfl) (fun _ _ _ h => h) (Or.inl ⟨by rfl, ?_⟩) ?_ ?_
    rotate_left
    · intro w'
      go_simp
      with_reducible rfl
    rotate_left
    · simp only [Act.put, List.setIfInBounds_toArray, List.set_cons_zero, List.set_cons_succ, i64_w, i32_w]
      rfl
    refine take_ (i := 2) (N := some 23) (v := ?_) (a' := ?_) #[true, true, true, true, false, false, true, true, false, true, false, false, false, false] rfl rfl (by kernel_rfl) (fun _ _ _ h => h) (Or.inl ⟨by rfl, ?_⟩) hHeld ?_ ?_
    rotate_left
    · rintro w' ⟨s0, s1⟩
      go_simp
      with_reducible rfl
    rotate_left
    · simp only [Act.put, List.setIfInBounds_toArray, List.set_cons_zero, List.set_cons_succ, i64_w, i32_w]
      rfl
    refine take_ (i := 4) (N := some 25) (v := ?_) (a' := ?_) #[true, true, true, true, true, false, true, true, false, true, false, false, false, false] rfl rfl (by kernel_rfl) (fun _ _ _ h => h) (Or.inl ⟨by rfl, ?_⟩) hHeld ?_ ?_
    rotate_left
    · rintro w' ⟨s0, s1⟩
      go_simp
      with_reducible rfl
    rotate_left
    · simp only [Act.put, List.setIfInBounds_toArray, List.set_cons_zero, List.set_cons_succ, i64_w, i32_w]
      rfl
    refine take_ (i := 8) (N := some 29) (v := ?_) (a' := ?_) #[true, true, true, true, true, false, true, true, true, true, false, false, false, false] rfl rfl (by kernel_rfl) (fun _ _ _ h => h) (Or.inl ⟨by rfl, ?_⟩) hHeld ?_ ?_
    rotate_left
    · rintro w' ⟨s0, s1⟩
      go_simp
      with_reducible rfl
    rotate_left
    · simp only [Act.put, List.setIfInBounds_toArray, List.set_cons_zero, List.set_cons_succ, i64_w, i32_w]
      rfl
    refine take_ (i := 10) (N := some 31) (v := ?_) (a' := ?_) #[true, true, true, true, true, false, true, true, true, true, true, false, false, false] rfl rfl (by kernel_rfl) (fun _ _ _ h => h) (Or.inl ⟨by rfl, ?_⟩) hHeld ?_ ?_
    rotate_left
    · rintro w' ⟨s0, s1⟩
      go_simp
      with_reducible rfl
    rotate_left
    · simp only [Act.put, List.setIfInBounds_toArray, List.set_cons_zero, List.set_cons_succ, i64_w, i32_w]
      rfl
    refine one_ (i := 5) (N := some 26) #[true, true, true, true, true, true, true, true, true, true, true, false, false, false] rfl rfl (by kernel_rfl) (by decide) (fun K hK => ?_)
    refine goes_ Try.func66 (by kernel_rfl) rfl #[.pointer (some ⟨bs, 0, none⟩), .int .i64 k, .int .i64 who] (by rfl) rfl rfl (by (try simp only [List.map_toArray, List.map_cons, List.map_nil]); first | done | rfl | (simp only [List.length_drop, List.length_take]; rfl)) ?_
    with_reducible refine (Does.two KS.out bs _ L1.out).mono ?_
    rintro e w3 ⟨rfl, hl, hu⟩
    refine ⟨_, rfl, ?_⟩
    have n0_ := Lib.hid ((hu.1.2 g (blk_lt BK.out) G1.out).trans BK.out)
    have n1_ := Lib.hid (LS.kept L2.out hu.1 (fun h => HNE.out h.symm))
    have n2_ := Lib.hid (HB.out.trans (hu.2.mono HBS.out))
    have n3_ := Lib.hid hl
    clear BK L1 L2 HB hu hl
    have BK := n0_
    have L2 := n1_
    have HB := n2_
    have L1 := n3_
    clear n0_ n1_ n2_ n3_
    refine hK.out _ _ ⟨(blk_cell BK.out 1).trans rfl, (blk_cell BK.out 2).trans rfl⟩ (fun hHeld => ?_)
    clear hK K
    refine norm_ (a' := ?_) ?_ ?_
    rotate_left
    · show Act.put _ (some 26) _ = _
      simp only [Act.put, List.setIfInBounds_toArray, List.set_cons_zero, List.set_cons_succ, i64_w, i32_w]
      rfl
    refine one_ (i := 11) (N := some 32) #[true, true, true, true, true, true, true, true, true, true, true, true, false, false] rfl rfl (by kernel_rfl) (by decide) (fun K hK => ?_)
    refine goes_ Try.func103 (by kernel_rfl) rfl #[.pointer (some ⟨bp, 0, none⟩), .int .i64 k, .int .i64 who] (by rfl) rfl rfl (by (try simp only [List.map_toArray, List.map_cons, List.map_nil]); first | done | rfl | (simp only [List.length_drop, List.length_take]; rfl)) ?_
    with_reducible refine (Does.two KP.out bp _ L2.out).mono ?_
    rintro e w3 ⟨rfl, hl, hu⟩
    refine ⟨_, rfl, ?_⟩
    have n0_ := Lib.hid ((hu.1.2 g (blk_lt BK.out) G2.out).trans BK.out)
    have n1_ := Lib.hid (LS.kept L1.out hu.1 (fun h => HNE.out h))
    have n2_ := Lib.hid (HB.out.trans (hu.2.mono HBP.out))
    have n3_ := Lib.hid hl
    clear BK L1 L2 HB hu hl
    have BK := n0_
    have L1 := n1_
    have HB := n2_
    have L2 := n3_
    clear n0_ n1_ n2_ n3_
    refine hK.out _ _ ⟨(blk_cell BK.out 1).trans rfl, (blk_cell BK.out 2).trans rfl⟩ (fun hHeld => ?_)
    clear hK K
    refine norm_ (a' := ?_) ?_ ?_
    rotate_left
    · show Act.put _ (some 32) _ = _
      simp only [Act.put, List.setIfInBounds_toArray, List.set_cons_zero, List.set_cons_succ, i64_w, i32_w]
      rfl
    refine pure_ (i := 12) (N := some 33) (v := ?_) (a' := ?_) #[true, true, true, true, true, true, true, true, true, true, true, true, true, false] rfl rfl (by kernel_rfl) (fun _ _ _ h => h) (Or.inl ⟨by rfl, ?_⟩) ?_ ?_
    rotate_left
    · intro w'
      go_simp
      with_reducible rfl
    rotate_left
    · simp only [Act.put, List.setIfInBounds_toArray, List.set_cons_zero, List.set_cons_succ, i64_w, i32_w]
      rfl
    refine pure_ (i := 13) (N := some 6) (v := ?_) (a' := ?_) #[true, true, true, true, true, true, true, true, true, true, true, true, true, true] rfl rfl (by kernel_rfl) (fun _ _ _ h => h) (Or.inl ⟨by rfl, ?_⟩) ?_ ?_
    rotate_left
    · intro w'
      go_simp
      with_reducible rfl
    rotate_left
    · simp only [Act.put, List.setIfInBounds_toArray, List.set_cons_zero, List.set_cons_succ, i64_w, i32_w]
      rfl
    refine done_ (by kernel_rfl) ?_
    go_wp2
    go_ret
    exact ⟨rfl, X, Y, Z, T, L1.out, L2.out, HX.out, HB.out⟩
  · obtain ⟨E, X, Y, Z, T, hX, hKS, hKP⟩ := try_two x y z t k who HT.out
    have HX := Lib.hid hX
    have KS := Lib.hid hKS
    have KP := Lib.hid hKP
    clear hX hKS hKP
    go_enter Try.func69, Try.ntmps69
    go_upto_region 5 with fail
    have c0 := blk_new w (.cells #[.int .i64 1, .int .i64 k, .int .i64 who] 81)
    have l1 := L1.out.alloc (.cells #[.int .i64 1, .int .i64 k, .int .i64 who] 81)
    have l2 := L2.out.alloc (.cells #[.int .i64 1, .int .i64 k, .int .i64 who] 81)
    have hb0 := below_alloc HB.out (.cells #[.int .i64 1, .int .i64 k, .int .i64 who] 81)
    clear L1 L2 HB
    generalize w.alloc (.cells #[.int .i64 1, .int .i64 k, .int .i64 who] 81) = W at c0 l1 l2 hb0 ⊢
    generalize w.heap.size = g at c0 G1 G2 ⊢
    have BK := Lib.hid (blk_drew c0)
    have L1 := Lib.hid (l1.below (below_drew (Below.refl _ _)) l1.lt)
    have L2 := Lib.hid (l2.below (below_drew (Below.refl _ _)) l2.lt)
    have HB := Lib.hid (below_drew1 hb0)
    clear c0 l1 l2 hb0
    refine start_ (n := 14) (S := fun w' => w'.cell? ⟨g, 1, none⟩ = some (.int .i64 k) ∧ w'.cell? ⟨g, 2, none⟩ = some (.int .i64 who)) (ds := []) #[false, false, false, false, false, false, false, false, false, false, false, false, false, false] (by kernel_rfl) rfl rfl ⟨(blk_cell BK.out 1).trans rfl, (blk_cell BK.out 2).trans rfl⟩ (fun hHeld => ?_)
    generalize W.drew = w5 at BK L1 L2 HB hHeld ⊢
    refine pure_ (i := 0) (N := some 21) (v := ?_) (a' := ?_) #[true, false, false, false, false, false, false, false, false, false, false, false, false, false] rfl rfl (by kernel_rfl) (fun _ _ _ h => h) (Or.inl ⟨by rfl, ?_⟩) ?_ ?_
    rotate_left
    · intro w'
      go_simp
      with_reducible rfl
    rotate_left
    · simp only [Act.put, List.setIfInBounds_toArray, List.set_cons_zero, List.set_cons_succ, i64_w, i32_w]
      rfl
    refine pure_ (i := 1) (N := some 22) (v := ?_) (a' := ?_) #[true, true, false, false, false, false, false, false, false, false, false, false, false, false] rfl rfl (by kernel_rfl) (fun _ _ _ h => h) (Or.inl ⟨by rfl, ?_⟩) ?_ ?_
    rotate_left
    · intro w'
      go_simp
      with_reducible rfl
    rotate_left
    · simp only [Act.put, List.setIfInBounds_toArray, List.set_cons_zero, List.set_cons_succ, i64_w, i32_w]
      rfl
    refine pure_ (i := 3) (N := some 24) (v := ?_) (a' := ?_) #[true, true, false, true, false, false, false, false, false, false, false, false, false, false] rfl rfl (by kernel_rfl) (fun _ _ _ h => h) (Or.inl ⟨by rfl, ?_⟩) ?_ ?_
    rotate_left
    · intro w'
      go_simp
      with_reducible rfl
    rotate_left
    · simp only [Act.put, List.setIfInBounds_toArray, List.set_cons_zero, List.set_cons_succ, i64_w, i32_w]
      rfl
    refine pure_ (i := 6) (N := some 27) (v := ?_) (a' := ?_) #[true, true, false, true, false, false, true, false, false, false, false, false, false, false] rfl rfl (by kernel_rfl) (fun _ _ _ h => h) (Or.inl ⟨by rfl, ?_⟩) ?_ ?_
    rotate_left
    · intro w'
      go_simp
      with_reducible rfl
    rotate_left
    · simp only [Act.put, List.setIfInBounds_toArray, List.set_cons_zero, List.set_cons_succ, i64_w, i32_w]
      rfl
    refine pure_ (i := 7) (N := some 28) (v := ?_) (a' := ?_) #[true, true, false, true, false, false, true, true, false, false, false, false, false, false] rfl rfl (by kernel_rfl) (fun _ _ _ h => h) (Or.inl ⟨by rfl, ?_⟩) ?_ ?_
    rotate_left
    · intro w'
      go_simp
      with_reducible rfl
    rotate_left
    · simp only [Act.put, List.setIfInBounds_toArray, List.set_cons_zero, List.set_cons_succ, i64_w, i32_w]
      rfl
    refine pure_ (i := 9) (N := some 30) (v := ?_) (a' := ?_) #[true, true, false, true, false, false, true, true, false, true, false, false, false, false] rfl rfl (by kernel_rfl) (fun _ _ _ h => h) (Or.inl ⟨by rfl, ?_⟩) ?_ ?_
    rotate_left
    · intro w'
      go_simp
      with_reducible rfl
    rotate_left
    · simp only [Act.put, List.setIfInBounds_toArray, List.set_cons_zero, List.set_cons_succ, i64_w, i32_w]
      rfl
    refine take_ (i := 2) (N := some 23) (v := ?_) (a' := ?_) #[true, true, true, true, false, false, true, true, false, true, false, false, false, false] rfl rfl (by kernel_rfl) (fun _ _ _ h => h) (Or.inl ⟨by rfl, ?_⟩) hHeld ?_ ?_
    rotate_left
    · rintro w' ⟨s0, s1⟩
      go_simp
      with_reducible rfl
    rotate_left
    · simp only [Act.put, List.setIfInBounds_toArray, List.set_cons_zero, List.set_cons_succ, i64_w, i32_w]
      rfl
    refine take_ (i := 4) (N := some 25) (v := ?_) (a' := ?_) #[true, true, true, true, true, false, true, true, false, true, false, false, false, false] rfl rfl (by kernel_rfl) (fun _ _ _ h => h) (Or.inl ⟨by rfl, ?_⟩) hHeld ?_ ?_
    rotate_left
    · rintro w' ⟨s0, s1⟩
      go_simp
      with_reducible rfl
    rotate_left
    · simp only [Act.put, List.setIfInBounds_toArray, List.set_cons_zero, List.set_cons_succ, i64_w, i32_w]
      rfl
    refine take_ (i := 8) (N := some 29) (v := ?_) (a' := ?_) #[true, true, true, true, true, false, true, true, true, true, false, false, false, false] rfl rfl (by kernel_rfl) (fun _ _ _ h => h) (Or.inl ⟨by rfl, ?_⟩) hHeld ?_ ?_
    rotate_left
    · rintro w' ⟨s0, s1⟩
      go_simp
      with_reducible rfl
    rotate_left
    · simp only [Act.put, List.setIfInBounds_toArray, List.set_cons_zero, List.set_cons_succ, i64_w, i32_w]
      rfl
    refine take_ (i := 10) (N := some 31) (v := ?_) (a' := ?_) #[true, true, true, true, true, false, true, true, true, true, true, false, false, false] rfl rfl (by kernel_rfl) (fun _ _ _ h => h) (Or.inl ⟨by rfl, ?_⟩) hHeld ?_ ?_
    rotate_left
    · rintro w' ⟨s0, s1⟩
      go_simp
      with_reducible rfl
    rotate_left
    · simp only [Act.put, List.setIfInBounds_toArray, List.set_cons_zero, List.set_cons_succ, i64_w, i32_w]
      rfl
    refine one_ (i := 5) (N := some 26) #[true, true, true, true, true, true, true, true, true, true, true, false, false, false] rfl rfl (by kernel_rfl) (by decide) (fun K hK => ?_)
    refine goes_ Try.func66 (by kernel_rfl) rfl #[.pointer (some ⟨bs, 0, none⟩), .int .i64 k, .int .i64 who] (by rfl) rfl rfl (by (try simp only [List.map_toArray, List.map_cons, List.map_nil]); first | done | rfl | (simp only [List.length_drop, List.length_take]; rfl)) ?_
    with_reducible refine (Does.two KS.out bs _ L1.out).mono ?_
    rintro e w3 ⟨rfl, hl, hu⟩
    refine ⟨_, rfl, ?_⟩
    have n0_ := Lib.hid ((hu.1.2 g (blk_lt BK.out) G1.out).trans BK.out)
    have n1_ := Lib.hid (LS.kept L2.out hu.1 (fun h => HNE.out h.symm))
    have n2_ := Lib.hid (HB.out.trans (hu.2.mono HBS.out))
    have n3_ := Lib.hid hl
    clear BK L1 L2 HB hu hl
    have BK := n0_
    have L2 := n1_
    have HB := n2_
    have L1 := n3_
    clear n0_ n1_ n2_ n3_
    refine hK.out _ _ ⟨(blk_cell BK.out 1).trans rfl, (blk_cell BK.out 2).trans rfl⟩ (fun hHeld => ?_)
    clear hK K
    refine norm_ (a' := ?_) ?_ ?_
    rotate_left
    · show Act.put _ (some 26) _ = _
      simp only [Act.put, List.setIfInBounds_toArray, List.set_cons_zero, List.set_cons_succ, i64_w, i32_w]
      rfl
    refine one_ (i := 11) (N := some 32) #[true, true, true, true, true, true, true, true, true, true, true, true, false, false] rfl rfl (by kernel_rfl) (by decide) (fun K hK => ?_)
    refine goes_ Try.func103 (by kernel_rfl) rfl #[.pointer (some ⟨bp, 0, none⟩), .int .i64 k, .int .i64 who] (by rfl) rfl rfl (by (try simp only [List.map_toArray, List.map_cons, List.map_nil]); first | done | rfl | (simp only [List.length_drop, List.length_take]; rfl)) ?_
    with_reducible refine (Does.two KP.out bp _ L2.out).mono ?_
    rintro e w3 ⟨rfl, hl, hu⟩
    refine ⟨_, rfl, ?_⟩
    have n0_ := Lib.hid ((hu.1.2 g (blk_lt BK.out) G2.out).trans BK.out)
    have n1_ := Lib.hid (LS.kept L1.out hu.1 (fun h => HNE.out h))
    have n2_ := Lib.hid (HB.out.trans (hu.2.mono HBP.out))
    have n3_ := Lib.hid hl
    clear BK L1 L2 HB hu hl
    have BK := n0_
    have L1 := n1_
    have HB := n2_
    have L2 := n3_
    clear n0_ n1_ n2_ n3_
    refine hK.out _ _ ⟨(blk_cell BK.out 1).trans rfl, (blk_cell BK.out 2).trans rfl⟩ (fun hHeld => ?_)
    clear hK K
    refine norm_ (a' := ?_) ?_ ?_
    rotate_left
    · show Act.put _ (some 32) _ = _
      simp only [Act.put, List.setIfInBounds_toArray, List.set_cons_zero, List.set_cons_succ, i64_w, i32_w]
      rfl
    refine pure_ (i := 12) (N := some 33) (v := ?_) (a' := ?_) #[true, true, true, true, true, true, true, true, true, true, true, true, true, false] rfl rfl (by kernel_rfl) (fun _ _ _ h => h) (Or.inl ⟨by rfl, ?_⟩) ?_ ?_
    rotate_left
    · intro w'
      go_simp
      with_reducible rfl
    rotate_left
    · simp only [Act.put, List.setIfInBounds_toArray, List.set_cons_zero, List.set_cons_succ, i64_w, i32_w]
      rfl
    refine pure_ (i := 13) (N := some 6) (v := ?_) (a' := ?_) #[true, true, true, true, true, true, true, true, true, true, true, true, true, true] rfl rfl (by kernel_rfl) (fun _ _ _ h => h) (Or.inl ⟨by rfl, ?_⟩) ?_ ?_
    rotate_left
    · intro w'
      go_simp
      with_reducible rfl
    rotate_left
    · simp only [Act.put, List.setIfInBounds_toArray, List.set_cons_zero, List.set_cons_succ, i64_w, i32_w]
      rfl
    refine done_ (by kernel_rfl) ?_
    go_wp2
    go_ret
    exact ⟨rfl, X, Y, Z, T, L1.out, L2.out, HX.out, HB.out⟩
  · have hX : True := trivial
    obtain ⟨E, X, Y, Z, hKS, hKP⟩ := free_two x y z t k who
    have HX := Lib.hid hX
    have KS := Lib.hid hKS
    have KP := Lib.hid hKP
    clear hX hKS hKP
    go_enter Try.func69, Try.ntmps69
    go_upto_region 7 with fail
    have c0 := blk_new w (.cells #[.int .i64 2, .int .i64 k, .int .i64 who] 81)
    have l1 := L1.out.alloc (.cells #[.int .i64 2, .int .i64 k, .int .i64 who] 81)
    have l2 := L2.out.alloc (.cells #[.int .i64 2, .int .i64 k, .int .i64 who] 81)
    have hb0 := below_alloc HB.out (.cells #[.int .i64 2, .int .i64 k, .int .i64 who] 81)
    clear L1 L2 HB
    generalize w.alloc (.cells #[.int .i64 2, .int .i64 k, .int .i64 who] 81) = W at c0 l1 l2 hb0 ⊢
    generalize w.heap.size = g at c0 G1 G2 ⊢
    have BK := Lib.hid (blk_drew c0)
    have L1 := Lib.hid (l1.below (below_drew (Below.refl _ _)) l1.lt)
    have L2 := Lib.hid (l2.below (below_drew (Below.refl _ _)) l2.lt)
    have HB := Lib.hid (below_drew1 hb0)
    clear c0 l1 l2 hb0
    refine start_ (n := 14) (S := fun w' => w'.cell? ⟨g, 1, none⟩ = some (.int .i64 k) ∧ w'.cell? ⟨g, 2, none⟩ = some (.int .i64 who)) (ds := []) #[false, false, false, false, false, false, false, false, false, false, false, false, false, false] (by kernel_rfl) rfl rfl ⟨(blk_cell BK.out 1).trans rfl, (blk_cell BK.out 2).trans rfl⟩ (fun hHeld => ?_)
    generalize W.drew = w5 at BK L1 L2 HB hHeld ⊢
    refine pure_ (i := 0) (N := some 36) (v := ?_) (a' := ?_) #[true, false, false, false, false, false, false, false, false, false, false, false, false, false] rfl rfl (by kernel_rfl) (fun _ _ _ h => h) (Or.inl ⟨by rfl, ?_⟩) ?_ ?_
    rotate_left
    · intro w'
      go_simp
      with_reducible rfl
    rotate_left
    · simp only [Act.put, List.setIfInBounds_toArray, List.set_cons_zero, List.set_cons_succ, i64_w, i32_w]
      rfl
    refine pure_ (i := 1) (N := some 37) (v := ?_) (a' := ?_) #[true, true, false, false, false, false, false, false, false, false, false, false, false, false] rfl rfl (by kernel_rfl) (fun _ _ _ h => h) (Or.inl ⟨by rfl, ?_⟩) ?_ ?_
    rotate_left
    · intro w'
      go_simp
      with_reducible rfl
    rotate_left
    · simp only [Act.put, List.setIfInBounds_toArray, List.set_cons_zero, List.set_cons_succ, i64_w, i32_w]
      rfl
    refine pure_ (i := 3) (N := some 39) (v := ?_) (a' := ?_) #[true, true, false, true, false, false, false, false, false, false, false, false, false, false] rfl rfl (by kernel_rfl) (fun _ _ _ h => h) (Or.inl ⟨by rfl, ?_⟩) ?_ ?_
    rotate_left
    · intro w'
      go_simp
      with_reducible rfl
    rotate_left
    · simp only [Act.put, List.setIfInBounds_toArray, List.set_cons_zero, List.set_cons_succ, i64_w, i32_w]
      rfl
    refine pure_ (i := 6) (N := some 42) (v := ?_) (a' := ?_) #[true, true, false, true, false, false, true, false, false, false, false, false, false, false] rfl rfl (by kernel_rfl) (fun _ _ _ h => h) (Or.inl ⟨by rfl, ?_⟩) ?_ ?_
    rotate_left
    · intro w'
      go_simp
      with_reducible rfl
    rotate_left
    · simp only [Act.put, List.setIfInBounds_toArray, List.set_cons_zero, List.set_cons_succ, i64_w, i32_w]
      rfl
    refine pure_ (i := 7) (N := some 43) (v := ?_) (a' := ?_) #[true, true, false, true, false, false, true, true, false, false, false, false, false, false] rfl rfl (by kernel_rfl) (fun _ _ _ h => h) (Or.inl ⟨by rfl, ?_⟩) ?_ ?_
    rotate_left
    · intro w'
      go_simp
      with_reducible rfl
    rotate_left
    · simp only [Act.put, List.setIfInBounds_toArray, List.set_cons_zero, List.set_cons_succ, i64_w, i32_w]
      rfl
    refine pure_ (i := 9) (N := some 45) (v := ?_) (a' := ?_) #[true, true, false, true, false, false, true, true, false, true, false, false, false, false] rfl rfl (by kernel_rfl) (fun _ _ _ h => h) (Or.inl ⟨by rfl, ?_⟩) ?_ ?_
    rotate_left
    · intro w'
      go_simp
      with_reducible rfl
    rotate_left
    · simp only [Act.put, List.setIfInBounds_toArray, List.set_cons_zero, List.set_cons_succ, i64_w, i32_w]
      rfl
    refine take_ (i := 2) (N := some 38) (v := ?_) (a' := ?_) #[true, true, true, true, false, false, true, true, false, true, false, false, false, false] rfl rfl (by kernel_rfl) (fun _ _ _ h => h) (Or.inl ⟨by rfl, ?_⟩) hHeld ?_ ?_
    rotate_left
    · rintro w' ⟨s0, s1⟩
      go_simp
      with_reducible rfl
    rotate_left
    · simp only [Act.put, List.setIfInBounds_toArray, List.set_cons_zero, List.set_cons_succ, i64_w, i32_w]
      rfl
    refine take_ (i := 4) (N := some 40) (v := ?_) (a' := ?_) #[true, true, true, true, true, false, true, true, false, true, false, false, false, false] rfl rfl (by kernel_rfl) (fun _ _ _ h => h) (Or.inl ⟨by rfl, ?_⟩) hHeld ?_ ?_
    rotate_left
    · rintro w' ⟨s0, s1⟩
      go_simp
      with_reducible rfl
    rotate_left
    · simp only [Act.put, List.setIfInBounds_toArray, List.set_cons_zero, List.set_cons_succ, i64_w, i32_w]
      rfl
    refine take_ (i := 8) (N := some 44) (v := ?_) (a' := ?_) #[true, true, true, true, true, false, true, true, true, true, false, false, false, false] rfl rfl (by kernel_rfl) (fun _ _ _ h => h) (Or.inl ⟨by rfl, ?_⟩) hHeld ?_ ?_
    rotate_left
    · rintro w' ⟨s0, s1⟩
      go_simp
      with_reducible rfl
    rotate_left
    · simp only [Act.put, List.setIfInBounds_toArray, List.set_cons_zero, List.set_cons_succ, i64_w, i32_w]
      rfl
    refine take_ (i := 10) (N := some 46) (v := ?_) (a' := ?_) #[true, true, true, true, true, false, true, true, true, true, true, false, false, false] rfl rfl (by kernel_rfl) (fun _ _ _ h => h) (Or.inl ⟨by rfl, ?_⟩) hHeld ?_ ?_
    rotate_left
    · rintro w' ⟨s0, s1⟩
      go_simp
      with_reducible rfl
    rotate_left
    · simp only [Act.put, List.setIfInBounds_toArray, List.set_cons_zero, List.set_cons_succ, i64_w, i32_w]
      rfl
    refine one_ (i := 5) (N := some 41) #[true, true, true, true, true, true, true, true, true, true, true, false, false, false] rfl rfl (by kernel_rfl) (by decide) (fun K hK => ?_)
    refine goes_ Try.func73 (by kernel_rfl) rfl #[.pointer (some ⟨bs, 0, none⟩), .int .i64 k, .int .i64 who] (by rfl) rfl rfl (by (try simp only [List.map_toArray, List.map_cons, List.map_nil]); first | done | rfl | (simp only [List.length_drop, List.length_take]; rfl)) ?_
    with_reducible refine (Does.two KS.out bs _ L1.out).mono ?_
    rintro e w3 ⟨rfl, hl, hu⟩
    refine ⟨_, rfl, ?_⟩
    have n0_ := Lib.hid ((hu.1.2 g (blk_lt BK.out) G1.out).trans BK.out)
    have n1_ := Lib.hid (LS.kept L2.out hu.1 (fun h => HNE.out h.symm))
    have n2_ := Lib.hid (HB.out.trans (hu.2.mono HBS.out))
    have n3_ := Lib.hid hl
    clear BK L1 L2 HB hu hl
    have BK := n0_
    have L2 := n1_
    have HB := n2_
    have L1 := n3_
    clear n0_ n1_ n2_ n3_
    refine hK.out _ _ ⟨(blk_cell BK.out 1).trans rfl, (blk_cell BK.out 2).trans rfl⟩ (fun hHeld => ?_)
    clear hK K
    refine norm_ (a' := ?_) ?_ ?_
    rotate_left
    · show Act.put _ (some 41) _ = _
      simp only [Act.put, List.setIfInBounds_toArray, List.set_cons_zero, List.set_cons_succ, i64_w, i32_w]
      rfl
    refine one_ (i := 11) (N := some 47) #[true, true, true, true, true, true, true, true, true, true, true, true, false, false] rfl rfl (by kernel_rfl) (by decide) (fun K hK => ?_)
    refine goes_ Try.func104 (by kernel_rfl) rfl #[.pointer (some ⟨bp, 0, none⟩), .int .i64 k, .int .i64 who] (by rfl) rfl rfl (by (try simp only [List.map_toArray, List.map_cons, List.map_nil]); first | done | rfl | (simp only [List.length_drop, List.length_take]; rfl)) ?_
    with_reducible refine (Does.two KP.out bp _ L2.out).mono ?_
    rintro e w3 ⟨rfl, hl, hu⟩
    refine ⟨_, rfl, ?_⟩
    have n0_ := Lib.hid ((hu.1.2 g (blk_lt BK.out) G2.out).trans BK.out)
    have n1_ := Lib.hid (LS.kept L1.out hu.1 (fun h => HNE.out h))
    have n2_ := Lib.hid (HB.out.trans (hu.2.mono HBP.out))
    have n3_ := Lib.hid hl
    clear BK L1 L2 HB hu hl
    have BK := n0_
    have L1 := n1_
    have HB := n2_
    have L2 := n3_
    clear n0_ n1_ n2_ n3_
    refine hK.out _ _ ⟨(blk_cell BK.out 1).trans rfl, (blk_cell BK.out 2).trans rfl⟩ (fun hHeld => ?_)
    clear hK K
    refine norm_ (a' := ?_) ?_ ?_
    rotate_left
    · show Act.put _ (some 47) _ = _
      simp only [Act.put, List.setIfInBounds_toArray, List.set_cons_zero, List.set_cons_succ, i64_w, i32_w]
      rfl
    refine pure_ (i := 12) (N := some 48) (v := ?_) (a' := ?_) #[true, true, true, true, true, true, true, true, true, true, true, true, true, false] rfl rfl (by kernel_rfl) (fun _ _ _ h => h) (Or.inl ⟨by rfl, ?_⟩) ?_ ?_
    rotate_left
    · intro w'
      go_simp
      with_reducible rfl
    rotate_left
    · simp only [Act.put, List.setIfInBounds_toArray, List.set_cons_zero, List.set_cons_succ, i64_w, i32_w]
      rfl
    refine pure_ (i := 13) (N := some 6) (v := ?_) (a' := ?_) #[true, true, true, true, true, true, true, true, true, true, true, true, true, true] rfl rfl (by kernel_rfl) (fun _ _ _ h => h) (Or.inl ⟨by rfl, ?_⟩) ?_ ?_
    rotate_left
    · intro w'
      go_simp
      with_reducible rfl
    rotate_left
    · simp only [Act.put, List.setIfInBounds_toArray, List.set_cons_zero, List.set_cons_succ, i64_w, i32_w]
      rfl
    refine done_ (by kernel_rfl) ?_
    go_wp2
    go_ret
    exact ⟨rfl, X, Y, Z, t, L1.out, L2.out, ⟨HT.out.1, by omega⟩, HB.out⟩
  · have hX : True := trivial
    have e0 : (kind == 0) = false := by simpa using d0
    have e1 : (kind == 1) = false := by simpa using d1
    have e2 : (kind == 2) = false := by simpa using d2
    clear d0 d1 d2
    obtain ⟨E, X, Y, Z, hKS, hKP⟩ := all_two x y z t who
    have HX := Lib.hid hX
    have KS := Lib.hid hKS
    have KP := Lib.hid hKP
    clear hX hKS hKP
    go_enter Try.func69, Try.ntmps69
    go_upto_region 2 with fail
    have c0 := blk_new w (.cells #[.int .i64 kind, .int .i64 k, .int .i64 who] 81)
    have l1 := L1.out.alloc (.cells #[.int .i64 kind, .int .i64 k, .int .i64 who] 81)
    have l2 := L2.out.alloc (.cells #[.int .i64 kind, .int .i64 k, .int .i64 who] 81)
    have hb0 := below_alloc HB.out (.cells #[.int .i64 kind, .int .i64 k, .int .i64 who] 81)
    clear L1 L2 HB
    generalize w.alloc (.cells #[.int .i64 kind, .int .i64 k, .int .i64 who] 81) = W at c0 l1 l2 hb0 ⊢
    generalize w.heap.size = g at c0 G1 G2 ⊢
    have BK := Lib.hid (blk_drew c0)
    have L1 := Lib.hid (l1.below (below_drew (Below.refl _ _)) l1.lt)
    have L2 := Lib.hid (l2.below (below_drew (Below.refl _ _)) l2.lt)
    have HB := Lib.hid (below_drew1 hb0)
    clear c0 l1 l2 hb0
    refine start_ (n := 10) (S := fun w' => w'.cell? ⟨g, 1, none⟩ = some (.int .i64 k) ∧ w'.cell? ⟨g, 2, none⟩ = some (.int .i64 who)) (ds := []) #[false, false, false, false, false, false, false, false, false, false] (by kernel_rfl) rfl rfl ⟨(blk_cell BK.out 1).trans rfl, (blk_cell BK.out 2).trans rfl⟩ (fun hHeld => ?_)
    generalize W.drew = w5 at BK L1 L2 HB hHeld ⊢
    refine pure_ (i := 0) (N := some 9) (v := ?_) (a' := ?_) #[true, false, false, false, false, false, false, false, false, false] rfl rfl (by kernel_rfl) (fun _ _ _ h => h) (Or.inl ⟨by rfl, ?_⟩) ?_ ?_
    rotate_left
    · intro w'
      go_simp
      with_reducible rfl
    rotate_left
    · simp only [Act.put, List.setIfInBounds_toArray, List.set_cons_zero, List.set_cons_succ, i64_w, i32_w]
      rfl
    refine pure_ (i := 1) (N := some 10) (v := ?_) (a' := ?_) #[true, true, false, false, false, false, false, false, false, false] rfl rfl (by kernel_rfl) (fun _ _ _ h => h) (Or.inl ⟨by rfl, ?_⟩) ?_ ?_
    rotate_left
    · intro w'
      go_simp
      with_reducible rfl
    rotate_left
    · simp only [Act.put, List.setIfInBounds_toArray, List.set_cons_zero, List.set_cons_succ, i64_w, i32_w]
      rfl
    refine pure_ (i := 4) (N := some 13) (v := ?_) (a' := ?_) #[true, true, false, false, true, false, false, false, false, false] rfl rfl (by kernel_rfl) (fun _ _ _ h => h) (Or.inl ⟨by rfl, ?_⟩) ?_ ?_
    rotate_left
    · intro w'
      go_simp
      with_reducible rfl
    rotate_left
    · simp only [Act.put, List.setIfInBounds_toArray, List.set_cons_zero, List.set_cons_succ, i64_w, i32_w]
      rfl
    refine pure_ (i := 5) (N := some 14) (v := ?_) (a' := ?_) #[true, true, false, false, true, true, false, false, false, false] rfl rfl (by kernel_rfl) (fun _ _ _ h => h) (Or.inl ⟨by rfl, ?_⟩) ?_ ?_
    rotate_left
    · intro w'
      go_simp
      with_reducible rfl
    rotate_left
    · simp only [Act.put, List.setIfInBounds_toArray, List.set_cons_zero, List.set_cons_succ, i64_w, i32_w]
      rfl
    refine take_ (i := 2) (N := some 11) (v := ?_) (a' := ?_) #[true, true, true, false, true, true, false, false, false, false] rfl rfl (by kernel_rfl) (fun _ _ _ h => h) (Or.inl ⟨by rfl, ?_⟩) hHeld ?_ ?_
    rotate_left
    · rintro w' ⟨s0, s1⟩
      go_simp
      with_reducible rfl
    rotate_left
    · simp only [Act.put, List.setIfInBounds_toArray, List.set_cons_zero, List.set_cons_succ, i64_w, i32_w]
      rfl
    refine take_ (i := 6) (N := some 15) (v := ?_) (a' := ?_) #[true, true, true, false, true, true, true, false, false, false] rfl rfl (by kernel_rfl) (fun _ _ _ h => h) (Or.inl ⟨by rfl, ?_⟩) hHeld ?_ ?_
    rotate_left
    · rintro w' ⟨s0, s1⟩
      go_simp
      with_reducible rfl
    rotate_left
    · simp only [Act.put, List.setIfInBounds_toArray, List.set_cons_zero, List.set_cons_succ, i64_w, i32_w]
      rfl
    refine one_ (i := 3) (N := some 12) #[true, true, true, true, true, true, true, false, false, false] rfl rfl (by kernel_rfl) (by decide) (fun K hK => ?_)
    refine goes_ Try.func74 (by kernel_rfl) rfl #[.pointer (some ⟨bs, 0, none⟩), .int .i64 who] (by rfl) rfl rfl (by (try simp only [List.map_toArray, List.map_cons, List.map_nil]); first | done | rfl | (simp only [List.length_drop, List.length_take]; rfl)) ?_
    with_reducible refine (Does.one KS.out bs _ L1.out).mono ?_
    rintro e w3 ⟨rfl, hl, hu⟩
    refine ⟨_, rfl, ?_⟩
    have n0_ := Lib.hid ((hu.1.2 g (blk_lt BK.out) G1.out).trans BK.out)
    have n1_ := Lib.hid (LS.kept L2.out hu.1 (fun h => HNE.out h.symm))
    have n2_ := Lib.hid (HB.out.trans (hu.2.mono HBS.out))
    have n3_ := Lib.hid hl
    clear BK L1 L2 HB hu hl
    have BK := n0_
    have L2 := n1_
    have HB := n2_
    have L1 := n3_
    clear n0_ n1_ n2_ n3_
    refine hK.out _ _ ⟨(blk_cell BK.out 1).trans rfl, (blk_cell BK.out 2).trans rfl⟩ (fun hHeld => ?_)
    clear hK K
    refine norm_ (a' := ?_) ?_ ?_
    rotate_left
    · show Act.put _ (some 12) _ = _
      simp only [Act.put, List.setIfInBounds_toArray, List.set_cons_zero, List.set_cons_succ, i64_w, i32_w]
      rfl
    refine one_ (i := 7) (N := some 16) #[true, true, true, true, true, true, true, true, false, false] rfl rfl (by kernel_rfl) (by decide) (fun K hK => ?_)
    refine goes_ Try.func105 (by kernel_rfl) rfl #[.pointer (some ⟨bp, 0, none⟩), .int .i64 who] (by rfl) rfl rfl (by (try simp only [List.map_toArray, List.map_cons, List.map_nil]); first | done | rfl | (simp only [List.length_drop, List.length_take]; rfl)) ?_
    with_reducible refine (Does.one KP.out bp _ L2.out).mono ?_
    rintro e w3 ⟨rfl, hl, hu⟩
    refine ⟨_, rfl, ?_⟩
    have n0_ := Lib.hid ((hu.1.2 g (blk_lt BK.out) G2.out).trans BK.out)
    have n1_ := Lib.hid (LS.kept L1.out hu.1 (fun h => HNE.out h))
    have n2_ := Lib.hid (HB.out.trans (hu.2.mono HBP.out))
    have n3_ := Lib.hid hl
    clear BK L1 L2 HB hu hl
    have BK := n0_
    have L1 := n1_
    have HB := n2_
    have L2 := n3_
    clear n0_ n1_ n2_ n3_
    refine hK.out _ _ ⟨(blk_cell BK.out 1).trans rfl, (blk_cell BK.out 2).trans rfl⟩ (fun hHeld => ?_)
    clear hK K
    refine norm_ (a' := ?_) ?_ ?_
    rotate_left
    · show Act.put _ (some 16) _ = _
      simp only [Act.put, List.setIfInBounds_toArray, List.set_cons_zero, List.set_cons_succ, i64_w, i32_w]
      rfl
    refine pure_ (i := 8) (N := some 17) (v := ?_) (a' := ?_) #[true, true, true, true, true, true, true, true, true, false] rfl rfl (by kernel_rfl) (fun _ _ _ h => h) (Or.inl ⟨by rfl, ?_⟩) ?_ ?_
    rotate_left
    · intro w'
      go_simp
      with_reducible rfl
    rotate_left
    · simp only [Act.put, List.setIfInBounds_toArray, List.set_cons_zero, List.set_cons_succ, i64_w, i32_w]
      rfl
    refine pure_ (i := 9) (N := some 6) (v := ?_) (a' := ?_) #[true, true, true, true, true, true, true, true, true, true] rfl rfl (by kernel_rfl) (fun _ _ _ h => h) (Or.inl ⟨by rfl, ?_⟩) ?_ ?_
    rotate_left
    · intro w'
      go_simp
      with_reducible rfl
    rotate_left
    · simp only [Act.put, List.setIfInBounds_toArray, List.set_cons_zero, List.set_cons_succ, i64_w, i32_w]
      rfl
    refine done_ (by kernel_rfl) ?_
    go_wp2
    go_ret
    exact ⟨rfl, X, Y, Z, t, L1.out, L2.out, ⟨HT.out.1, by omega⟩, HB.out⟩
end Go.Proofs.Ytplajmcjkddikaa.Lock
