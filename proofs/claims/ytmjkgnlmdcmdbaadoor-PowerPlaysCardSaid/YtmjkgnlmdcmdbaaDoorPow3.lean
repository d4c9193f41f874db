/- Law 42: Leave. -/
import Derived.Test.YtmjkgnlmdcmdbaaDoorPow2
import Derived.Test.YtmjkgnlmdcmdbaaDoorApart38
namespace Go.Proofs.YtmjkgnlmdcmdbaaDoor.Power
open Go.RowKit Go.Shelf Go.Proofs.YtmjkgnlmdcmdbaaDoorW.PrintWords Go.Proofs.YtmjkgnlmdcmdbaaDoorW.PrintLast Go.Proofs.YtmjkgnlmdcmdbaaDoorW.PrintMore Go.Proofs.YtmjkgnlmdcmdbaaDoor.Row Go.Proofs.YtmjkgnlmdcmdbaaDoor.Sets Go.Proofs.YtmjkgnlmdcmdbaaDoor.Node Go.Proofs.YtmjkgnlmdcmdbaaDoor.Each
set_option linter.unusedVariables false
set_option linter.unusedSimpArgs false
set_option maxRecDepth 100000
attribute [local go_sem] Oper.semAt_some
theorem Tab.upd {w w' : World} {b : Nat} {p : Pl} (hT : Tab w) (h : QT w b p) (hu : Upd b w w') : Tab w' := fun j hj => by
  have hg := hT 0 (by omega)
  have hne : 0 ≠ b := fun e => by
    have h2 := h.cI
    rw [← e, hg] at h2
    injection h2 with h2
    injection h2 with hk
    cases hk
  have hlt := World.block_lt_of_cell? w _ hg
  exact (World.cell?_of_block (a := ⟨0, j, none⟩) (hu.1.2 _ hlt hne)).trans (hT j hj)
theorem QT.upd {w w' : World} {b g : Nat} {p : Pl} (h : QT w b p) (hu : Upd g w w') (hne : b ≠ g) : QT w' b p := h.of_heap (hu.1.2 b h.lt hne)
theorem Upd.putObj {w W : World} {b : Nat} (h : Upd b w W) (l : Nat) (o : Obj) (hl : w.heap.size ≤ l) (hb : b ≤ w.heap.size) : Upd b w (W.putObj l o) :=
  ⟨⟨by rw [World.putObj_size]; exact h.1.1, fun k hk hne => (World.putObj_heap_other (by omega)).trans (h.1.2 k hk hne)⟩, h.2.grown (grownBy_putObj' W l o) (Nat.le_trans hb h.1.1) (fun k e => by cases e; omega)⟩
theorem Upd.new {w W : World} {b : Nat} (h : Upd b w W) (g o : Nat) (v : Value) (hg : w.heap.size ≤ g) (hb : b ≤ g) : Upd b w (W.setCell ⟨g, o, none⟩ v) := ⟨h.1.setCell (p := ⟨g, o, none⟩) (.inr hg) v, h.2.setCell hb v⟩
theorem Upd.alloc {w W : World} {b : Nat} (h : Upd b w W) (x : Obj) (hb : b ≤ W.heap.size) : Upd b w (W.alloc x) := h.trans (Upd.of_below (below_alloc (Below.refl W.heap.size W) x) hb)
/-- since when nodes are idle, behind k rounds -/
def snS (p : Pl) (s : Nat) : Nat → Nat → Int
  | 0 => p.sn
  | k + 1 => Power.upd (snS p s k) ((nodes s).getD k 0) p.t
def leaveP (p : Pl) (s : Nat) : Pl := { p with u := minus p.u s, sn := snS p s (lenS s) }
/-- Leave's box, and the plant, after k rounds -/
structure LI (w W : World) (bp b : Nat) (p : Pl) : Prop where
  cb : W.cell? ⟨bp, 0, none⟩ = some (.pointer (some ⟨b, 0, none⟩))
  q : QT W b p
  up : Upd b w W
  ap : w.heap.size ≤ bp ∧ b < w.heap.size
theorem LI.lt {w W : World} {bp b : Nat} {p : Pl} (h : LI w W bp b p) : bp < W.heap.size := World.block_lt_of_cell? W _ h.cb
theorem LI.putObj {w W : World} {bp b : Nat} {p : Pl} (h : LI w W bp b p) (l : Nat) (o : Obj) (h1 : bp < l) : LI w (W.putObj l o) bp b p := by
  have := h.ap
  exact ⟨(World.cell?_of_block (World.putObj_heap_other (by show bp ≠ l; omega))).trans h.cb, h.q.putObj l o (by omega), Power.Upd.putObj h.up l o (by omega) (by omega), h.ap⟩
theorem LI.below {w W W' : World} {bp b : Nat} {p : Pl} (h : LI w W bp b p) (hb : Below W.heap.size W W') : LI w W' bp b p := by
  have := h.ap
  exact ⟨(World.cell?_of_block (a := ⟨bp, 0, none⟩) (hb.block bp h.lt)).trans h.cb, h.q.below hb, h.up.trans (Upd.of_below hb (Nat.le_trans (by omega) h.up.1.1)), h.ap⟩
theorem LI.drew {w W : World} {bp b : Nat} {p : Pl} (h : LI w W bp b p) : LI w W.drew bp b p := h.below (below_drew (Below.refl _ _))
theorem LI.setE {w W : World} {bp b : Nat} {p : Pl} (h : LI w W bp b p) (j : Nat) (hj : j < 64) (x : Int) : LI w (W.setCell ⟨b, 71 + j, none⟩ (.int .i64 x)) bp b { p with sn := Power.upd p.sn j x } := by
  have := h.ap
  exact ⟨(World.cell?_of_block (Below.heap_setCell W ⟨b, 71 + j, none⟩ _ bp (by show bp ≠ b; omega))).trans h.cb, h.q.setE j hj x, h.up.setCell _ _, h.ap⟩
theorem LI.setU {w W : World} {bp b : Nat} {p : Pl} (h : LI w W bp b p) (x : Nat) : LI w (W.setCell ⟨b, 5, none⟩ (.int .u64 (x : Int))) bp b { p with u := x } := by
  have := h.ap
  exact ⟨(World.cell?_of_block (Below.heap_setCell W ⟨b, 5, none⟩ _ bp (by show bp ≠ b; omega))).trans h.cb, h.q.setU x, h.up.setCell _ _, h.ap⟩
theorem LI.new (w : World) (b : Nat) (p : Pl) (h : QT w b p) : LI w (w.alloc (.cells #[.pointer (some ⟨b, 0, none⟩)] 73)) w.heap.size b p :=
  ⟨(blk_cell (blk_new w _) 0).trans rfl, h.below (below_alloc (Below.refl _ _) _), Power.Upd.alloc (Upd.refl b w) _ (Nat.le_of_lt h.lt), ⟨Nat.le_refl _, h.lt⟩⟩
theorem Leave_no (b s : Nat) (p : Pl) (w : World) (h : QT w b p) (ho : PlOk p) (hs : s < 18446744073709551616) (hm : minus s p.u ≠ 0) :
    Calls Tryd.prog 53 #[.pointer (some ⟨b, 0, none⟩), .int .u64 (s : Int)] w fun e w' => e = .returned (.int .i64 7) ∧ QT w' b p ∧ Upd b w w' := by
  have H0 := Lib.hid (LI.new w b p h)
  have KN := Lib.hid (fun W (h : QT W b p) => none_q b p W h ho)
  have hv := minus_val s p.u hs ho.hu
  obtain ⟨u, hu⟩ : ∃ u, p.u = u := ⟨_, rfl⟩
  have HU := Lib.hid hu
  rw [hu] at hm hv
  obtain ⟨m, hm2⟩ : ∃ m, minus s u = m := ⟨_, rfl⟩
  rw [hm2] at hm hv
  have e1 := (neq_b m hm).1
  clear h ho hu hm hm2 hs
  go_enter Tryd.func53, Tryd.ntmps53
  have c5 := H0.out.q.cu
  rw [HU.out] at c5
  go_wp2_with (go_at_call 94; refine (KN.out _ H0.out.q).mono ?_; rintro e w2 ⟨rfl, rfl⟩)
  go_ret
  exact ⟨rfl, H0.out.q, H0.out.up⟩
set_option maxHeartbeats 2000000 in
theorem Leave_yes (b s : Nat) (p : Pl) (w : World) (h : QT w b p) (ho : PlOk p) (hs : s < 18446744073709551616) (hm : minus s p.u = 0) (hT : Tab w) :
    Calls Tryd.prog 53 #[.pointer (some ⟨b, 0, none⟩), .int .u64 (s : Int)] w fun e w' => e = .returned (.int .i64 0) ∧ QT w' b (leaveP p s) ∧ Upd b w w' := by
  have H0 := Lib.hid (LI.new w b p h)
  have KN := Lib.hid (fun W (h : QT W b p) => none_q b p W h ho)
  have hv := minus_val s p.u hs ho.hu
  have hv2 := minus_val p.u s ho.hu hs
  obtain ⟨u, hu⟩ : ∃ u, p.u = u := ⟨_, rfl⟩
  have HU := Lib.hid hu
  rw [hu] at hm hv hv2
  rw [hm] at hv
  obtain ⟨m2, hm2⟩ : ∃ m, minus u s = m := ⟨_, rfl⟩
  rw [hm2] at hv2
  have HM2 := Lib.hid hm2
  have HTA := Lib.hid (fun W (hu : Upd b w W) => Tab.upd hT h hu)
  clear ho hu hm hm2 hT h
  refine (callsIn_wide (n := 5)).1 ?_
  refine callsIn_of_wp_marks Tryd.func53 rfl trivial ?_ rfl
  have hmf : ∀ (fn : Fn) (first cap : Array Value) (w : World), (Instr.makeFunc fn first cap).run Tryd.prog w = .ok (.func fn first cap) w := fun _ _ _ _ => rfl
  refine wpIn_wide.2 ?_
  simp only [Tryd.ntmps53, List.size_toArray, List.length_cons, List.length_nil, Nat.reduceAdd, Nat.reduceSub, Array.replicate_succ, Array.replicate_zero, List.push_toArray, List.append_toArray, List.nil_append, List.cons_append]
  have c5 := H0.out.q.cu
  have f5 := H0.out.q.fz 5
  rw [HU.out] at c5
  go_wp2_with (go_at_call 94; refine (KN.out _ H0.out.q).mono ?_; rintro e w2 ⟨rfl, rfl⟩)
  clear c5 f5 KN
  have H1 := Lib.hid (H0.out.setU m2)
  obtain ⟨bp, hbp⟩ : ∃ b, w.heap.size = b := ⟨_, rfl⟩
  have HBP := Lib.hid hbp
  rw [hbp] at H1 ⊢
  clear H0 hbp
  generalize (w.alloc (.cells #[.pointer (some ⟨b, 0, none⟩)] 73)).setCell ⟨b, 5, none⟩ (.int .u64 (m2 : Int)) = W0 at H1 ⊢
  refine (wpIn_wide (n := 5)).1 ?_
  refine loop_first rfl (enters_of Tryd.func95 (by kernel_rfl) rfl) (each_hands s (5 - 1) hs (by decide)) (fun k W => LI w W bp b { p with u := m2, sn := snS p s k }) ?hI ?h0 ?hT ?a1 ?assign ?body ?done
  case assign =>
    intro l v W K hK
    gi_wp2
    exact hK
  case hT => exact fun k W h => HTA.out W h.up
  case hI =>
    intro k W l o hl h
    exact h.putObj l o (by have := H1.out.lt; omega)
  case h0 => exact fun o1 o2 => H1.out.below (below_alloc (below_alloc (Below.refl _ _) _) _)
  case body =>
    intro l k v W hv hA
    obtain ⟨x, rfl, hx, hx64, hk⟩ := Pick.vals_at s k v hv
    have hst : snS p s (k + 1) = Power.upd (snS p s k) x p.t := by rw [← hx]; rfl
    have HST := Lib.hid hst
    have x0 : ((x : Int) < 64) = True := eq_true (by omega)
    have xt : ((x : Int)).toNat = x := by omega
    have H := Lib.hid hA
    clear hst hv hx hk hA
    refine wpIn_block ?_
    refine startIn_ (n := 10) (S := fun w' => w'.cell? ⟨bp, 0, none⟩ = some (.pointer (some ⟨b, 0, none⟩)) ∧ w'.cell? ⟨b, 4, none⟩ = some (.int .i64 p.t)) (ds := [9]) #[false, false, false, false, false, false, false, false, false, false] (by kernel_rfl) rfl rfl ⟨H.out.cb, H.out.q.ct⟩ (fun hHeld => ?_)
    have n_ := Lib.hid H.out.drew
    clear H
    have H := n_
    clear n_
    generalize hW5 : W.drew = w5 at H hHeld ⊢
    have q1 := H.out.q.ce x hx64
    have q2 := H.out.q.fz (71 + x)
    refine pure_ (i := 1) (N := some 29) (v := ?_) (a' := ?_) #[false, true, false, false, false, false, false, false, false, false] rfl rfl (by kernel_rfl) (fun _ _ _ h => h) (Or.inl ⟨by rfl, ?_⟩) ?_ ?_
    rotate_left
    · intro w'
      go_simp
      with_reducible rfl
    rotate_left
    · simp only [Act.put, List.setIfInBounds_toArray, List.set_cons_zero, List.set_cons_succ, i64_w, i32_w]
      rfl
    refine take_ (i := 0) (N := some 28) (v := ?_) (a' := ?_) #[true, true, false, false, false, false, false, false, false, false] rfl rfl (by kernel_rfl) (fun _ _ _ h => h) (Or.inl ⟨by rfl, ?_⟩) hHeld ?_ ?_
    rotate_left
    · rintro w' ⟨s0, s1⟩
      go_simp
      with_reducible rfl
    rotate_left
    · simp only [Act.put, List.setIfInBounds_toArray, List.set_cons_zero, List.set_cons_succ, i64_w, i32_w]
      rfl
    refine pure_ (i := 6) (N := some 34) (v := ?_) (a' := ?_) #[true, true, false, false, false, false, true, false, false, false] rfl rfl (by kernel_rfl) (fun _ _ _ h => h) (Or.inl ⟨by rfl, ?_⟩) ?_ ?_
    rotate_left
    · intro w'
      go_simp
      with_reducible rfl
    rotate_left
    · simp only [Act.put, List.setIfInBounds_toArray, List.set_cons_zero, List.set_cons_succ, i64_w, i32_w]
      rfl
    refine pure_ (i := 7) (N := some 35) (v := ?_) (a' := ?_) #[true, true, false, false, false, false, true, true, false, false] rfl rfl (by kernel_rfl) (fun _ _ _ h => h) (Or.inl ⟨by rfl, ?_⟩) ?_ ?_
    rotate_left
    · intro w'
      go_simp
      with_reducible rfl
    rotate_left
    · simp only [Act.put, List.setIfInBounds_toArray, List.set_cons_zero, List.set_cons_succ, i64_w, i32_w]
      rfl
    refine take_ (i := 2) (N := some 30) (v := ?_) (a' := ?_) #[true, true, true, false, false, false, true, true, false, false] rfl rfl (by kernel_rfl) (fun _ _ _ h => h) (Or.inl ⟨by rfl, ?_⟩) hHeld ?_ ?_
    rotate_left
    · rintro w' ⟨s0, s1⟩
      go_simp
      with_reducible rfl
    rotate_left
    · simp only [Act.put, List.setIfInBounds_toArray, List.set_cons_zero, List.set_cons_succ, i64_w, i32_w]
      rfl
    refine pure_ (i := 3) (N := some 31) (v := ?_) (a' := ?_) #[true, true, true, true, false, false, true, true, false, false] rfl rfl (by kernel_rfl) (fun _ _ _ h => h) (Or.inl ⟨by rfl, ?_⟩) ?_ ?_
    rotate_left
    · intro w'
      go_simp
      with_reducible rfl
    rotate_left
    · simp only [Act.put, List.setIfInBounds_toArray, List.set_cons_zero, List.set_cons_succ, i64_w, i32_w]
      rfl
    refine pure_ (i := 4) (N := some 32) (v := ?_) (a' := ?_) #[true, true, true, true, true, false, true, true, false, false] rfl rfl (by kernel_rfl) (fun _ _ _ h => h) (Or.inl ⟨by rfl, ?_⟩) ?_ ?_
    rotate_left
    · intro w'
      go_simp
      with_reducible rfl
    rotate_left
    · simp only [Act.put, List.setIfInBounds_toArray, List.set_cons_zero, List.set_cons_succ, i64_w, i32_w]
      rfl
    refine take_ (i := 5) (N := some 33) (v := ?_) (a' := ?_) #[true, true, true, true, true, true, true, true, false, false] rfl rfl (by kernel_rfl) (fun _ _ _ h => h) (Or.inl ⟨by rfl, ?_⟩) hHeld ?_ ?_
    rotate_left
    · rintro w' ⟨s0, s1⟩
      go_simp
      with_reducible rfl
    rotate_left
    · simp only [Act.put, List.setIfInBounds_toArray, List.set_cons_zero, List.set_cons_succ, i64_w, i32_w]
      rfl
    refine pure_ (i := 8) (N := some 36) (v := ?_) (a' := ?_) #[true, true, true, true, true, true, true, true, true, false] rfl rfl (by kernel_rfl) (fun _ _ _ h => h) (Or.inl ⟨by rfl, ?_⟩) ?_ ?_
    rotate_left
    · intro w'
      go_simp
      with_reducible rfl
    rotate_left
    · simp only [Act.put, List.setIfInBounds_toArray, List.set_cons_zero, List.set_cons_succ, i64_w, i32_w]
      rfl
    refine last_ (i := 9) (N := none) #[true, true, true, true, true, true, true, true, true, true] rfl rfl (by kernel_rfl) (by decide) (fun K hK => ?_)
    refine skip_ (w1 := ?_) (by rfl) rfl ?_ ?_
    rotate_left
    · go_simp
      rfl
    refine hK.out _ _ ?_
    clear hK K
    refine done_ (by kernel_rfl) ?_
    clear hHeld q1 q2
    refine ⟨?_, ?_⟩
    · rw [← hW5]; exact (KeepsOthers.drew _).trans (KeepsOthers.setCell _ _ _)
    · show LI w _ bp b { p with u := m2, sn := snS p s (k + 1) }
      rw [HST.out]
      exact H.out.setE x hx64 p.t
  case done =>
    intro D W hD hA hK
    rw [vals_len] at hA
    have hDb : bp < D := by have := H1.out.lt; omega
    have HF := Lib.hid (hA.putObj D (.deferred none) hDb)
    have hlp : leaveP p s = { p with u := m2, sn := snS p s (lenS s) } := by unfold leaveP; rw [HU.out, HM2.out]
    have HLP := Lib.hid hlp
    clear hA H1 hlp
    gi_wp2
    go_wp2
    refine ⟨by simp, .inl ⟨_, _, rfl, run_takeDeferred hK, ?_⟩⟩
    exact ⟨_, results_tmp rfl _ _ _, rfl, by rw [HLP.out]; exact HF.out.q, HF.out.up⟩
end Go.Proofs.YtmjkgnlmdcmdbaaDoor.Power
