/- Law 42: a step of the plant and of the plain plant. -/
import Derived.Test.YtmjkgnlmdcmdbaaDoorPl3
import Derived.Test.YtmjkgnlmdcmdbaaDoorPl4
import Derived.Test.YtmjkgnlmdcmdbaaDoorPl5
namespace Go.Proofs.YtmjkgnlmdcmdbaaDoor.Power
open Go.RowKit Go.Proofs.YtmjkgnlmdcmdbaaDoorW.PrintWords Go.Proofs.YtmjkgnlmdcmdbaaDoorW.PrintLast Go.Proofs.YtmjkgnlmdcmdbaaDoorW.PrintMore Go.Proofs.YtmjkgnlmdcmdbaaDoor.Row Go.Proofs.YtmjkgnlmdcmdbaaDoor.Sets Go.Proofs.YtmjkgnlmdcmdbaaDoor.Node Go.Proofs.YtmjkgnlmdcmdbaaDoor.Each
set_option linter.unusedVariables false
set_option linter.unusedSimpArgs false
set_option maxRecDepth 100000
/-- a plain plant just like it -/
def PU (w : World) (b : Nat) (p : Pl) : Prop := PQ w b p (fun k => p.u.testBit k)
theorem PU.below {w w' : World} {b : Nat} {p : Pl} (h : PU w b p) (hb : Below w.heap.size w w') : PU w' b p := PQ.below h hb
theorem PU.drew {w : World} {b : Nat} {p : Pl} (h : PU w b p) : PU w.drew b p := PQ.drew h
theorem PU.upd {w w' : World} {b g : Nat} {p : Pl} (h : PU w b p) (hu : Upd g w w') (hne : b ≠ g) : PU w' b p := PQ.upd h hu hne
def DoX (f : FuncId) (x : Value) (p : Pl) (v : Value) (p2 : Pl) : Prop := ∀ (b : Nat) (W : World), QT W b p → Tab W → Calls Tryd.prog f #[.pointer (some ⟨b, 0, none⟩), x] W fun e w' => e = .returned v ∧ QT w' b p2 ∧ Upd b W w'
def DoY (f : FuncId) (x : Value) (p : Pl) (v : Value) (p2 : Pl) : Prop := ∀ (b : Nat) (W : World), PU W b p → Calls Tryd.prog f #[.pointer (some ⟨b, 0, none⟩), x] W fun e w' => e = .returned v ∧ PU w' b p2 ∧ Upd b W w'
theorem DoX.one {f : FuncId} {x : Value} {p : Pl} {v : Value} {p2 : Pl} (h : DoX f x p v p2) (b : Nat) (W : World) (hq : QT W b p) (hT : Tab W) : Calls Tryd.prog f #[.pointer (some ⟨b, 0, none⟩), x] W fun e w' => e = .returned v ∧ QT w' b p2 ∧ Upd b W w' := h b W hq hT
theorem DoY.one {f : FuncId} {x : Value} {p : Pl} {v : Value} {p2 : Pl} (h : DoY f x p v p2) (b : Nat) (W : World) (hq : PU W b p) : Calls Tryd.prog f #[.pointer (some ⟨b, 0, none⟩), x] W fun e w' => e = .returned v ∧ PU w' b p2 ∧ Upd b W w' := h b W hq
def Fine (p p2 : Pl) : Prop := PlOk p2 ∧ InN p2 ∧ p2.N = p.N
theorem same_y {f : FuncId} {x v : Value} {p : Pl} (h : ∀ (b : Nat) (W : World), PU W b p → Calls Tryd.prog f #[.pointer (some ⟨b, 0, none⟩), x] W fun e w' => e = .returned v ∧ W = w') : DoY f x p v p := fun b W hW => (h b W hW).mono fun e w' ⟨h1, h2⟩ => ⟨h1, by rw [← h2]; exact hW, by rw [← h2]; exact Upd.refl _ _⟩
theorem useP_in (p : Pl) (s : Nat) (ho : PlOk p) (hi : InN p) : InN (useP p s) := fun i hlt h => by
  have h : (useAt p s (lenS s)).1.s.testBit i = true := h
  rw [useAt_bit p s ho i hlt (lenS s) (Nat.le_refl _), Bool.and_eq_true] at h
  have h2 := hi i hlt h.1
  show i < (useAt p s (lenS s)).1.N
  rw [(useAt_same p s (lenS s)).2.2.2.1]
  exact h2
theorem use_two (p : Pl) (s : Nat) (ho : PlOk p) (hi : InN p) (hs : s < 18446744073709551616) :
    ∃ (v0 v1 : Int) (p2 : Pl), Fine p p2 ∧ DoX 52 (.int .u64 (s : Int)) p (.tuple #[.int .i64 v0, .int .i64 v1]) p2 ∧ DoY 100 (.int .u64 (s : Int)) p (.tuple #[.int .i64 v0, .int .i64 v1]) p2 := by
  by_cases cb : s = 0 ∨ minus s (allS p.N) ≠ 0
  · exact ⟨0, 1, p, ⟨ho, hi, rfl⟩, fun b W h _ => Use_bad b s p W h ho hs cb, same_y fun b W h => use_bad_pl b s p _ W h ho hs cb⟩
  · have hs0 : s ≠ 0 := fun h => cb (.inl h)
    have hm0 : minus s (allS p.N) = 0 := Decidable.byContradiction fun h => cb (.inr h)
    by_cases ct : s &&& p.u = 0
    · exact ⟨_, 0, useP p s, ⟨(useP_ok p s ho hs).1, useP_in p s ho hi, (useAt_same p s (lenS s)).2.2.2.1⟩, fun b W h hT => Use_yes b s p W h ho hs hs0 hm0 ct hT, fun b W h => use_yes_pl b s p W h ho hs hs0 hm0 ct⟩
    · exact ⟨0, 13, p, ⟨ho, hi, rfl⟩, fun b W h _ => Use_twice b s p W h ho hs hs0 hm0 ct, same_y fun b W h => use_twice_pl b s p W h ho hs hs0 hm0 ct⟩
theorem leave_two (p : Pl) (s : Nat) (ho : PlOk p) (hi : InN p) (hs : s < 18446744073709551616) :
    ∃ (v : Int) (p2 : Pl), Fine p p2 ∧ DoX 53 (.int .u64 (s : Int)) p (.int .i64 v) p2 ∧ DoY 101 (.int .u64 (s : Int)) p (.int .i64 v) p2 := by
  by_cases cm : minus s p.u = 0
  · exact ⟨0, leaveP p s, ⟨(leaveP_ok p s ho).1, hi, rfl⟩, fun b W h hT => Leave_yes b s p W h ho hs cm hT, fun b W h => leave_yes_pl b s p W h ho hs cm⟩
  · exact ⟨7, p, ⟨ho, hi, rfl⟩, fun b W h _ => Leave_no b s p W h ho hs cm, same_y fun b W h => leave_no_pl b s p W h ho hs cm⟩
theorem goP_in (p : Pl) (now : Int) (ho : PlOk p) (hi : InN p) : InN (goP p now) := fun i hlt h => by
  have h : (p.s ||| goO p now).testBit i = true := h
  show i < p.N
  rw [Nat.testBit_or] at h
  cases hb : p.s.testBit i
  · rw [hb, Bool.false_or] at h
    have h2 := (goO_in p now ho).2.1 i hlt h
    rw [goI_is p now ho i hlt, Bool.and_eq_true, decide_eq_true_eq] at h2
    exact h2.1
  · exact hi i hlt hb
theorem go_two (p : Pl) (tt : Int) (ho : PlOk p) (hi : InN p) :
    ∃ (v0 : Nat) (v1 : Int) (p2 : Pl), Fine p p2 ∧ DoX 54 (.int .i64 tt) p (.tuple #[.int .u64 (v0 : Int), .int .i64 v1]) p2 ∧ DoY 102 (.int .i64 tt) p (.tuple #[.int .u64 (v0 : Int), .int .i64 v1]) p2 := by
  by_cases cg : tt < p.t ∨ 1099511627776 < tt
  · exact ⟨0, 10, p, ⟨ho, hi, rfl⟩, fun b W h _ => (Go_bad b p tt W h ho cg).mono fun e w' ⟨h1, h2⟩ => ⟨h1, by rw [← h2]; exact h, by rw [← h2]; exact Upd.refl _ _⟩, same_y fun b W h => goes_bad_pl b p _ tt W h ho cg⟩
  · exact ⟨goO p tt, 0, goP p tt, ⟨(goP_ok p tt ho (by omega) (by omega)).1, goP_in p tt ho hi, rfl⟩, fun b W h _ => Go_yes b p tt W h ho (by omega) (by omega), fun b W h => goes_yes_pl b p tt W h ho hi (by omega) (by omega)⟩
/-- both plants -/
structure SP (w0 w : World) (b bp : Nat) (p : Pl) : Prop where
  q : QT w b p
  u : PU w bp p
  ok : PlOk p
  inn : InN p
  be : Below w0.heap.size w0 w
  ne : b ≠ bp
  hb : w0.heap.size ≤ b ∧ w0.heap.size ≤ bp
section
variable {w0 w w' : World} {b bp : Nat} {p : Pl}
theorem SP.below (h : SP w0 w b bp p) (hb : Below w.heap.size w w') : SP w0 w' b bp p := ⟨h.q.below hb, PQ.below h.u hb, h.ok, h.inn, below_step h.be hb, h.ne, h.hb⟩
end
def StepPost (w0 : World) (N b bp : Nat) (e : Ending) (w' : World) : Prop := e = .returned (.bool true) ∧ ∃ p2, SP w0 w' b bp p2 ∧ p2.N = N
set_option maxHeartbeats 2000000 in
theorem step42_any (b bp s : Nat) (kd tt : Int) (p : Pl) (w0 w : World) (h : SP w0 w b bp p) (hs : s < 18446744073709551616) (hT : Tab w0) :
    Calls Tryd.prog 61 #[.pointer (some ⟨b, 0, none⟩), .pointer (some ⟨bp, 0, none⟩), .agg #[.int .i64 kd, .int .u64 (s : Int), .int .i64 tt]] w (StepPost w0 p.N b bp) := by
  have HT := Lib.hid hT
  have H := Lib.hid h
  have U := use_two p s h.ok h.inn hs
  have L := leave_two p s h.ok h.inn hs
  have G := go_two p tt h.ok h.inn
  have G1 := Lib.hid (Nat.ne_of_gt h.q.lt : w.heap.size ≠ b)
  have G2 := Lib.hid (Nat.ne_of_gt (PQ.lt h.u) : w.heap.size ≠ bp)
  unfold StepPost
  obtain ⟨N, hN⟩ : ∃ n, p.N = n := ⟨_, rfl⟩
  rw [hN]
  have HNE := Lib.hid hN
  clear h hs hT hN
  by_cases k0 : kd = 0
  · subst k0
    clear L G
    obtain ⟨v0, v1, p2, hF, hX, hY⟩ := U
    have HF := Lib.hid hF
    have KX := Lib.hid hX
    have KY := Lib.hid hY
    clear hF hX hY
    go_enter Tryd.func61, Tryd.ntmps61
    go_upto_region 1 with fail
    have BK := Lib.hid (blk_new w (.cells #[.int .i64 0, .int .u64 (s : Int), .int .i64 tt] 77))
    have Q := Lib.hid (H.out.q.below (below_alloc (Below.refl _ _) (.cells #[.int .i64 0, .int .u64 (s : Int), .int .i64 tt] 77)))
    have Y := Lib.hid (PU.below H.out.u (below_alloc (Below.refl _ _) (.cells #[.int .i64 0, .int .u64 (s : Int), .int .i64 tt] 77)))
    have HB := Lib.hid (below_alloc H.out.be (.cells #[.int .i64 0, .int .u64 (s : Int), .int .i64 tt] 77))
    have NE := Lib.hid H.out.ne
    have HBS := Lib.hid H.out.hb
    clear H
    generalize w.alloc (.cells #[.int .i64 0, .int .u64 (s : Int), .int .i64 tt] 77) = W at BK Q Y HB ⊢
    generalize w.heap.size = k at BK G1 G2 ⊢
    have b0 := (blk_cell BK.out 0).trans rfl
    have b1 := (blk_cell BK.out 1).trans rfl
    go_wp2_with (first | (go_at_call 52; refine (KX.out b _ Q.out (Tab.below HT.out HB.out (Tab.lt HT.out))).mono ?_; rintro e w3 ⟨rfl, hq, hu⟩; have n0_ := Lib.hid ((hu.1.2 k (blk_lt BK.out) G1.out).trans BK.out); have n1_ := Lib.hid (PU.upd Y.out hu NE.out.symm); have n2_ := Lib.hid (HB.out.trans (hu.2.mono HBS.out.1)); have n3_ := Lib.hid hq; clear BK Q Y HB hu hq b0 b1; have BK := n0_; have Y := n1_; have HB := n2_; have Q := n3_; clear n0_ n1_ n2_ n3_; have b0 := (blk_cell BK.out 0).trans rfl; have b1 := (blk_cell BK.out 1).trans rfl) | (go_at_call 100; refine (KY.out bp _ Y.out).mono ?_; rintro e w4 ⟨rfl, hy, hu⟩; have n1_ := Lib.hid (QT.upd Q.out hu NE.out); have n2_ := Lib.hid (HB.out.trans (hu.2.mono HBS.out.2)); have n3_ := Lib.hid hy; clear Q Y HB hu hy b0 b1; have Q := n1_; have HB := n2_; have Y := n3_; clear n1_ n2_ n3_))
    go_ret
    exact ⟨rfl, p2, ⟨Q.out, Y.out, HF.out.1, HF.out.2.1, HB.out, NE.out, HBS.out⟩, HF.out.2.2.trans HNE.out⟩
  · by_cases k1 : kd = 1
    · subst k1
      clear U G
      obtain ⟨v, p2, hF, hX, hY⟩ := L
      have HF := Lib.hid hF
      have KX := Lib.hid hX
      have KY := Lib.hid hY
      clear hF hX hY
      go_enter Tryd.func61, Tryd.ntmps61
      go_upto_region 1 with fail
      have BK := Lib.hid (blk_new w (.cells #[.int .i64 1, .int .u64 (s : Int), .int .i64 tt] 77))
      have Q := Lib.hid (H.out.q.below (below_alloc (Below.refl _ _) (.cells #[.int .i64 1, .int .u64 (s : Int), .int .i64 tt] 77)))
      have Y := Lib.hid (PU.below H.out.u (below_alloc (Below.refl _ _) (.cells #[.int .i64 1, .int .u64 (s : Int), .int .i64 tt] 77)))
      have HB := Lib.hid (below_alloc H.out.be (.cells #[.int .i64 1, .int .u64 (s : Int), .int .i64 tt] 77))
      have NE := Lib.hid H.out.ne
      have HBS := Lib.hid H.out.hb
      clear H
      generalize w.alloc (.cells #[.int .i64 1, .int .u64 (s : Int), .int .i64 tt] 77) = W at BK Q Y HB ⊢
      generalize w.heap.size = k at BK G1 G2 ⊢
      have b0 := (blk_cell BK.out 0).trans rfl
      go_upto_region 10 with fail
      clear b0
      refine start_ (n := 10) (S := fun w' => w'.cell? ⟨k, 1, none⟩ = some (.int .u64 (s : Int))) (ds := []) #[false, false, false, false, false, false, false, false, false, false] (by kernel_rfl) rfl rfl (((blk_cell BK.out 1).trans rfl)) (fun hHeld => ?_)
      have n0_ := Lib.hid (blk_drew BK.out)
      have n1_ := Lib.hid (QT.drew Q.out)
      have n2_ := Lib.hid (PU.drew Y.out)
      have n3_ := Lib.hid (below_drew1 HB.out)
      clear BK Q Y HB
      have BK := n0_
      have Q := n1_
      have Y := n2_
      have HB := n3_
      clear n0_ n1_ n2_ n3_
      generalize W.drew = w5 at BK Q Y HB hHeld ⊢
      refine pure_ (i := 0) (N := some 65) (v := ?_) (a' := ?_) #[true, false, false, false, false, false, false, false, false, false] rfl rfl (by kernel_rfl) (fun _ _ _ h => h) (Or.inl ⟨by rfl, ?_⟩) ?_ ?_
      rotate_left
      · intro w'
        go_simp
        with_reducible rfl
      rotate_left
      · simp only [Act.put, List.setIfInBounds_toArray, List.set_cons_zero, List.set_cons_succ, i64_w, i32_w]
        rfl
      refine pure_ (i := 1) (N := some 66) (v := ?_) (a' := ?_) #[true, true, false, false, false, false, false, false, false, false] rfl rfl (by kernel_rfl) (fun _ _ _ h => h) (Or.inl ⟨by rfl, ?_⟩) ?_ ?_
      rotate_left
      · intro w'
        go_simp
        with_reducible rfl
      rotate_left
      · simp only [Act.put, List.setIfInBounds_toArray, List.set_cons_zero, List.set_cons_succ, i64_w, i32_w]
        rfl
      refine pure_ (i := 4) (N := some 69) (v := ?_) (a' := ?_) #[true, true, false, false, true, false, false, false, false, false] rfl rfl (by kernel_rfl) (fun _ _ _ h => h) (Or.inl ⟨by rfl, ?_⟩) ?_ ?_
      rotate_left
      · intro w'
        go_simp
        with_reducible rfl
      rotate_left
      · simp only [Act.put, List.setIfInBounds_toArray, List.set_cons_zero, List.set_cons_succ, i64_w, i32_w]
        rfl
      refine pure_ (i := 5) (N := some 70) (v := ?_) (a' := ?_) #[true, true, false, false, true, true, false, false, false, false] rfl rfl (by kernel_rfl) (fun _ _ _ h => h) (Or.inl ⟨by rfl, ?_⟩) ?_ ?_
      rotate_left
      · intro w'
        go_simp
        with_reducible rfl
      rotate_left
      · simp only [Act.put, List.setIfInBounds_toArray, List.set_cons_zero, List.set_cons_succ, i64_w, i32_w]
        rfl
      refine take_ (i := 2) (N := some 67) (v := ?_) (a' := ?_) #[true, true, true, false, true, true, false, false, false, false] rfl rfl (by kernel_rfl) (fun _ _ _ h => h) (Or.inl ⟨by rfl, ?_⟩) hHeld ?_ ?_
      rotate_left
      · intro w' s0
        go_simp
        with_reducible rfl
      rotate_left
      · simp only [Act.put, List.setIfInBounds_toArray, List.set_cons_zero, List.set_cons_succ, i64_w, i32_w]
        rfl
      refine take_ (i := 6) (N := some 71) (v := ?_) (a' := ?_) #[true, true, true, false, true, true, true, false, false, false] rfl rfl (by kernel_rfl) (fun _ _ _ h => h) (Or.inl ⟨by rfl, ?_⟩) hHeld ?_ ?_
      rotate_left
      · intro w' s0
        go_simp
        with_reducible rfl
      rotate_left
      · simp only [Act.put, List.setIfInBounds_toArray, List.set_cons_zero, List.set_cons_succ, i64_w, i32_w]
        rfl
      refine one_ (i := 3) (N := some 68) #[true, true, true, true, true, true, true, false, false, false] rfl rfl (by kernel_rfl) (by decide) (fun K hK => ?_)
      refine goes_ Tryd.func53 (by kernel_rfl) rfl #[.pointer (some ⟨b, 0, none⟩), .int .u64 (s : Int)] (by rfl) rfl rfl (by (try simp only [List.map_toArray, List.map_cons, List.map_nil]); first | done | rfl | (simp only [List.length_drop, List.length_take]; rfl)) ?_
      with_reducible refine (KX.out.one b _ Q.out (Tab.below HT.out HB.out (Tab.lt HT.out))).mono ?_
      rintro e w3 ⟨rfl, hq, hu⟩
      refine ⟨_, rfl, ?_⟩
      have n0_ := Lib.hid ((hu.1.2 k (blk_lt BK.out) G1.out).trans BK.out)
      have n1_ := Lib.hid (PU.upd Y.out hu NE.out.symm)
      have n2_ := Lib.hid (HB.out.trans (hu.2.mono HBS.out.1))
      have n3_ := Lib.hid hq
      clear BK Q Y HB hu hq 
      have BK := n0_
      have Y := n1_
      have HB := n2_
      have Q := n3_
      clear n0_ n1_ n2_ n3_
      refine hK.out _ _ (((blk_cell BK.out 1).trans rfl)) (fun hHeld => ?_)
      clear hK K
      refine norm_ (a' := ?_) ?_ ?_
      rotate_left
      · show Act.put _ (some 68) _ = _
        simp only [Act.put, List.setIfInBounds_toArray, List.set_cons_zero, List.set_cons_succ, i64_w, i32_w]
        rfl
      refine one_ (i := 7) (N := some 72) #[true, true, true, true, true, true, true, true, false, false] rfl rfl (by kernel_rfl) (by decide) (fun K hK => ?_)
      refine goes_ Tryd.func101 (by kernel_rfl) rfl #[.pointer (some ⟨bp, 0, none⟩), .int .u64 (s : Int)] (by rfl) rfl rfl (by (try simp only [List.map_toArray, List.map_cons, List.map_nil]); first | done | rfl | (simp only [List.length_drop, List.length_take]; rfl)) ?_
      with_reducible refine (KY.out.one bp _ Y.out).mono ?_
      rintro e w4 ⟨rfl, hy, hu⟩
      refine ⟨_, rfl, ?_⟩
      have n0_ := Lib.hid ((hu.1.2 k (blk_lt BK.out) G2.out).trans BK.out)
      have n1_ := Lib.hid (QT.upd Q.out hu NE.out)
      have n2_ := Lib.hid (HB.out.trans (hu.2.mono HBS.out.2))
      have n3_ := Lib.hid hy
      clear Q Y HB hu hy 
      have Q := n1_
      have HB := n2_
      have Y := n3_
      clear n1_ n2_ n3_
      clear BK
      have BK := n0_
      clear n0_
      refine hK.out _ _ (((blk_cell BK.out 1).trans rfl)) (fun hHeld => ?_)
      clear hK K
      refine norm_ (a' := ?_) ?_ ?_
      rotate_left
      · show Act.put _ (some 72) _ = _
        simp only [Act.put, List.setIfInBounds_toArray, List.set_cons_zero, List.set_cons_succ, i64_w, i32_w]
        rfl
      refine pure_ (i := 8) (N := some 73) (v := ?_) (a' := ?_) #[true, true, true, true, true, true, true, true, true, false] rfl rfl (by kernel_rfl) (fun _ _ _ h => h) (Or.inl ⟨by rfl, ?_⟩) ?_ ?_
      rotate_left
      · intro w'
        go_simp
        with_reducible rfl
      rotate_left
      · simp only [Act.put, List.setIfInBounds_toArray, List.set_cons_zero, List.set_cons_succ, i64_w, i32_w]
        rfl
      refine pure_ (i := 9) (N := some 6) (v := ?_) (a' := ?_) #[true, true, true, true, true, true, true, true, true, true] rfl rfl (by kernel_rfl) (fun _ _ _ h => h) (Or.inl ⟨by rfl, ?_⟩) ?_ ?_
      rotate_left
      · intro w'
        go_simp
        with_reducible rfl
      rotate_left
      · simp only [Act.put, List.setIfInBounds_toArray, List.set_cons_zero, List.set_cons_succ, i64_w, i32_w]
        rfl
      refine done_ (by kernel_rfl) ?_
      go_wp2
      go_ret
      exact ⟨rfl, p2, ⟨Q.out, Y.out, HF.out.1, HF.out.2.1, HB.out, NE.out, HBS.out⟩, HF.out.2.2.trans HNE.out⟩
    · have e0 : (kd == 0) = false := beq_false_of_ne k0
      have e1 : (kd == 1) = false := beq_false_of_ne k1
      clear k0 k1
      clear U L
      obtain ⟨v0, v1, p2, hF, hX, hY⟩ := G
      have HF := Lib.hid hF
      have KX := Lib.hid hX
      have KY := Lib.hid hY
      clear hF hX hY
      go_enter Tryd.func61, Tryd.ntmps61
      go_upto_region 1 with fail
      have BK := Lib.hid (blk_new w (.cells #[.int .i64 kd, .int .u64 (s : Int), .int .i64 tt] 77))
      have Q := Lib.hid (H.out.q.below (below_alloc (Below.refl _ _) (.cells #[.int .i64 kd, .int .u64 (s : Int), .int .i64 tt] 77)))
      have Y := Lib.hid (PU.below H.out.u (below_alloc (Below.refl _ _) (.cells #[.int .i64 kd, .int .u64 (s : Int), .int .i64 tt] 77)))
      have HB := Lib.hid (below_alloc H.out.be (.cells #[.int .i64 kd, .int .u64 (s : Int), .int .i64 tt] 77))
      have NE := Lib.hid H.out.ne
      have HBS := Lib.hid H.out.hb
      clear H
      generalize w.alloc (.cells #[.int .i64 kd, .int .u64 (s : Int), .int .i64 tt] 77) = W at BK Q Y HB ⊢
      generalize w.heap.size = k at BK G1 G2 ⊢
      have b0 := (blk_cell BK.out 0).trans rfl
      have b1 := (blk_cell BK.out 2).trans rfl
      go_wp2_with (first | (go_at_call 54; refine (KX.out b _ Q.out (Tab.below HT.out HB.out (Tab.lt HT.out))).mono ?_; rintro e w3 ⟨rfl, hq, hu⟩; have n0_ := Lib.hid ((hu.1.2 k (blk_lt BK.out) G1.out).trans BK.out); have n1_ := Lib.hid (PU.upd Y.out hu NE.out.symm); have n2_ := Lib.hid (HB.out.trans (hu.2.mono HBS.out.1)); have n3_ := Lib.hid hq; clear BK Q Y HB hu hq b0 b1; have BK := n0_; have Y := n1_; have HB := n2_; have Q := n3_; clear n0_ n1_ n2_ n3_; have b0 := (blk_cell BK.out 0).trans rfl; have b1 := (blk_cell BK.out 2).trans rfl) | (go_at_call 102; refine (KY.out bp _ Y.out).mono ?_; rintro e w4 ⟨rfl, hy, hu⟩; have n1_ := Lib.hid (QT.upd Q.out hu NE.out); have n2_ := Lib.hid (HB.out.trans (hu.2.mono HBS.out.2)); have n3_ := Lib.hid hy; clear Q Y HB hu hy b0 b1; have Q := n1_; have HB := n2_; have Y := n3_; clear n1_ n2_ n3_))
      go_ret
      exact ⟨rfl, p2, ⟨Q.out, Y.out, HF.out.1, HF.out.2.1, HB.out, NE.out, HBS.out⟩, HF.out.2.2.trans HNE.out⟩
theorem Now_q (b : Nat) (p : Pl) (w : World) (h : QT w b p) (ho : PlOk p) : Calls Tryd.prog 57 #[.pointer (some ⟨b, 0, none⟩)] w fun e w' => e = .returned (.int .i64 p.t) ∧ w = w' := by
  have K := Lib.hid (none_q b p w h ho)
  have c := h.ct
  clear h ho
  go_enter Tryd.func57, Tryd.ntmps57
  go_wp2_with (go_at_call 94; refine K.out.mono ?_; rintro e w2 ⟨rfl, rfl⟩)
  go_ret
  exact ⟨rfl, rfl⟩
theorem Saved_q (b : Nat) (p : Pl) (w : World) (h : QT w b p) (ho : PlOk p) : Calls Tryd.prog 58 #[.pointer (some ⟨b, 0, none⟩)] w fun e w' => e = .returned (.int .i64 p.ar) ∧ w = w' := by
  have K := Lib.hid (none_q b p w h ho)
  have c := h.ca
  clear h ho
  go_enter Tryd.func58, Tryd.ntmps58
  go_wp2_with (go_at_call 94; refine K.out.mono ?_; rintro e w2 ⟨rfl, rfl⟩)
  go_ret
  exact ⟨rfl, rfl⟩
theorem right42_any (I W Sp : Int) (w : World) : Calls Tryd.prog 60 #[.agg #[.int .i64 I, .int .i64 W, .int .i64 Sp]] w fun e w' => e = .returned (.bool (rightB I W Sp)) ∧ Below w.heap.size w w' := by
  by_cases h0 : 0 ≤ I
  · have d0 : decide (0 ≤ I) = true := decide_eq_true h0
    by_cases h1 : I ≤ 1099511627776
    · have d1 : decide (I ≤ 1099511627776) = true := decide_eq_true h1
      by_cases h2 : 0 ≤ W
      · have d2 : decide (0 ≤ W) = true := decide_eq_true h2
        by_cases h3 : W ≤ 1099511627776
        · have d3 : decide (W ≤ 1099511627776) = true := decide_eq_true h3
          by_cases h4 : 0 ≤ Sp
          · have d4 : decide (0 ≤ Sp) = true := decide_eq_true h4
            by_cases h5 : Sp ≤ 64
            · have d5 : decide (Sp ≤ 64) = true := decide_eq_true h5
              rw [show rightB I W Sp = true by unfold rightB; exact decide_eq_true ⟨h0, h1, h2, h3, h4, h5⟩]
              go_enter Tryd.func60, Tryd.ntmps60
              go_wp2; go_ret; exact ⟨rfl, below_alloc (Below.refl _ _) _⟩
            · have d5 : decide (Sp ≤ 64) = false := decide_eq_false h5
              rw [show rightB I W Sp = false by unfold rightB; exact decide_eq_false (fun h => h5 (by omega))]
              go_enter Tryd.func60, Tryd.ntmps60
              go_wp2; go_ret; exact ⟨rfl, below_alloc (Below.refl _ _) _⟩
          · have d4 : decide (0 ≤ Sp) = false := decide_eq_false h4
            rw [show rightB I W Sp = false by unfold rightB; exact decide_eq_false (fun h => h4 (by omega))]
            go_enter Tryd.func60, Tryd.ntmps60
            go_wp2; go_ret; exact ⟨rfl, below_alloc (Below.refl _ _) _⟩
        · have d3 : decide (W ≤ 1099511627776) = false := decide_eq_false h3
          rw [show rightB I W Sp = false by unfold rightB; exact decide_eq_false (fun h => h3 (by omega))]
          go_enter Tryd.func60, Tryd.ntmps60
          go_wp2; go_ret; exact ⟨rfl, below_alloc (Below.refl _ _) _⟩
      · have d2 : decide (0 ≤ W) = false := decide_eq_false h2
        rw [show rightB I W Sp = false by unfold rightB; exact decide_eq_false (fun h => h2 (by omega))]
        go_enter Tryd.func60, Tryd.ntmps60
        go_wp2; go_ret; exact ⟨rfl, below_alloc (Below.refl _ _) _⟩
    · have d1 : decide (I ≤ 1099511627776) = false := decide_eq_false h1
      rw [show rightB I W Sp = false by unfold rightB; exact decide_eq_false (fun h => h1 (by omega))]
      go_enter Tryd.func60, Tryd.ntmps60
      go_wp2; go_ret; exact ⟨rfl, below_alloc (Below.refl _ _) _⟩
  · have d0 : decide (0 ≤ I) = false := decide_eq_false h0
    rw [show rightB I W Sp = false by unfold rightB; exact decide_eq_false (fun h => h0 (by omega))]
    go_enter Tryd.func60, Tryd.ntmps60
    go_wp2; go_ret; exact ⟨rfl, below_alloc (Below.refl _ _) _⟩
end Go.Proofs.YtmjkgnlmdcmdbaaDoor.Power
