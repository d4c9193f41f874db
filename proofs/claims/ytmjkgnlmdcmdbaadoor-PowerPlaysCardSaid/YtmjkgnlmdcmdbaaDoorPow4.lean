/- Law 42: Use. -/
import Derived.Test.YtmjkgnlmdcmdbaaDoorPow3
namespace Go.Proofs.YtmjkgnlmdcmdbaaDoor.Power
open Go.RowKit Go.Shelf Go.Proofs.YtmjkgnlmdcmdbaaDoorW.PrintWords Go.Proofs.YtmjkgnlmdcmdbaaDoorW.PrintLast Go.Proofs.YtmjkgnlmdcmdbaaDoorW.PrintMore Go.Proofs.YtmjkgnlmdcmdbaaDoor.Row Go.Proofs.YtmjkgnlmdcmdbaaDoor.Sets Go.Proofs.YtmjkgnlmdcmdbaaDoor.Node Go.Proofs.YtmjkgnlmdcmdbaaDoor.Each
set_option linter.unusedVariables false
set_option linter.unusedSimpArgs false
set_option maxRecDepth 100000
attribute [local go_sem] Oper.semAt_some
def useStep (p : Pl) (k : Nat) : Pl := if p.s.testBit k = true then { p with s := withoutS p.s (k : Int), wk := Power.upd p.wk k (addS p.t p.W) } else p
def later (a b : Int) : Int := if a < b then b else a
def useAt (p : Pl) (s : Nat) : Nat → Pl × Int
  | 0 => (p, p.t)
  | i + 1 => (useStep (useAt p s i).1 ((nodes s).getD i 0), later (useAt p s i).2 ((useStep (useAt p s i).1 ((nodes s).getD i 0)).wk ((nodes s).getD i 0)))
def useP (p : Pl) (s : Nat) : Pl := { (useAt p s (lenS s)).1 with u := p.u ||| s }
theorem useStep_same (p : Pl) (k : Nat) : (useStep p k).I = p.I ∧ (useStep p k).W = p.W ∧ (useStep p k).Sp = p.Sp ∧ (useStep p k).N = p.N ∧ (useStep p k).t = p.t ∧ (useStep p k).u = p.u ∧ (useStep p k).sn = p.sn ∧ (useStep p k).ar = p.ar := by
  unfold useStep
  split <;> exact ⟨rfl, rfl, rfl, rfl, rfl, rfl, rfl, rfl⟩
theorem useAt_same (p : Pl) (s : Nat) : ∀ i, (useAt p s i).1.I = p.I ∧ (useAt p s i).1.W = p.W ∧ (useAt p s i).1.Sp = p.Sp ∧ (useAt p s i).1.N = p.N ∧ (useAt p s i).1.t = p.t ∧ (useAt p s i).1.u = p.u ∧ (useAt p s i).1.sn = p.sn ∧ (useAt p s i).1.ar = p.ar
  | 0 => ⟨rfl, rfl, rfl, rfl, rfl, rfl, rfl, rfl⟩
  | i + 1 => by
    obtain ⟨a1, a2, a3, a4, a5, a6, a7, a8⟩ := useAt_same p s i
    obtain ⟨b1, b2, b3, b4, b5, b6, b7, b8⟩ := useStep_same (useAt p s i).1 ((nodes s).getD i 0)
    unfold useAt
    exact ⟨b1.trans a1, b2.trans a2, b3.trans a3, b4.trans a4, b5.trans a5, b6.trans a6, b7.trans a7, b8.trans a8⟩
theorem useStep_in (p : Pl) (k : Nat) (ho : PlOk p) : (useStep p k).s < 18446744073709551616 ∧ (∀ j, 0 ≤ (useStep p k).wk j ∧ (useStep p k).wk j ≤ 2199023255552) := by
  unfold useStep
  have h1 := ho.ht
  have h2 := ho.hW
  have h3 := addS_in p.t p.W h1.1 h2.1
  split
  · refine ⟨withoutS_lt _ _ ho.hs, fun j => ?_⟩
    show 0 ≤ Power.upd p.wk k (addS p.t p.W) j ∧ Power.upd p.wk k (addS p.t p.W) j ≤ 2199023255552
    unfold Power.upd
    split
    · omega
    · exact ho.hwk j
  · exact ⟨ho.hs, ho.hwk⟩
theorem useAt_ok (p : Pl) (s : Nat) (ho : PlOk p) : ∀ i, PlOk (useAt p s i).1
  | 0 => ho
  | i + 1 => by
    have ih := useAt_ok p s ho i
    have h1 := useStep_in (useAt p s i).1 ((nodes s).getD i 0) ih
    obtain ⟨b1, b2, b3, b4, b5, b6, b7, b8⟩ := useStep_same (useAt p s i).1 ((nodes s).getD i 0)
    unfold useAt
    exact ⟨by show 0 ≤ (useStep _ _).I ∧ _; rw [b1]; exact ih.hI, by rw [b2]; exact ih.hW, by rw [b3]; exact ih.hSp, by rw [b4]; exact ih.hN, by rw [b5]; exact ih.ht, by rw [b6]; exact ih.hu, h1.1, h1.2, by rw [b7]; exact ih.hsn, by rw [b8]; exact ih.har⟩
/-- Use's boxes, and the plant -/
structure UI (w W : World) (bp b : Nat) (p : Pl) (tm : Int) : Prop where
  li : LI w W bp b p
  ct : W.cell? ⟨bp + 1, 0, none⟩ = some (.int .i64 tm)
  ft : W.frozen? ⟨bp + 1, 0, none⟩ = false
section
variable {w W W' : World} {bp b : Nat} {p : Pl} {tm : Int}
theorem UI.lt (h : UI w W bp b p tm) : bp + 1 < W.heap.size := World.block_lt_of_cell? W _ h.ct
theorem UI.putObj (h : UI w W bp b p tm) (l : Nat) (o : Obj) (h1 : bp + 1 < l) : UI w (W.putObj l o) bp b p tm :=
  ⟨h.li.putObj l o (by omega), (World.cell?_of_block (World.putObj_heap_other (by show bp + 1 ≠ l; omega))).trans h.ct, (World.frozen?_of_block (World.putObj_heap_other (by show bp + 1 ≠ l; omega))).trans h.ft⟩
theorem UI.below (h : UI w W bp b p tm) (hb : Below W.heap.size W W') : UI w W' bp b p tm :=
  ⟨h.li.below hb, (World.cell?_of_block (a := ⟨bp + 1, 0, none⟩) (hb.block _ h.lt)).trans h.ct, (World.frozen?_of_block (a := ⟨bp + 1, 0, none⟩) (hb.block _ h.lt)).trans h.ft⟩
theorem UI.drew (h : UI w W bp b p tm) : UI w W.drew bp b p tm := h.below (below_drew (Below.refl _ _))
theorem UI.atB (h : UI w W bp b p tm) (o : Nat) (v : Value) (q : Pl) (hq : QT (W.setCell ⟨b, o, none⟩ v) b q) : UI w (W.setCell ⟨b, o, none⟩ v) bp b q tm := by
  have := h.li.ap
  have h1 := Below.heap_setCell W ⟨b, o, none⟩ v bp (by show bp ≠ b; omega)
  have h2 := Below.heap_setCell W ⟨b, o, none⟩ v (bp + 1) (by show bp + 1 ≠ b; omega)
  exact ⟨⟨(World.cell?_of_block h1).trans h.li.cb, hq, h.li.up.setCell _ _, h.li.ap⟩, (World.cell?_of_block (a := ⟨bp + 1, 0, none⟩) h2).trans h.ct, (World.frozen?_of_block (a := ⟨bp + 1, 0, none⟩) h2).trans h.ft⟩
theorem UI.setS (h : UI w W bp b p tm) (x : Nat) : UI w (W.setCell ⟨b, 6, none⟩ (.int .u64 (x : Int))) bp b { p with s := x } tm := h.atB _ _ _ (h.li.q.setS x)
theorem UI.setU (h : UI w W bp b p tm) (x : Nat) : UI w (W.setCell ⟨b, 5, none⟩ (.int .u64 (x : Int))) bp b { p with u := x } tm := h.atB _ _ _ (h.li.q.setU x)
theorem UI.setW (h : UI w W bp b p tm) (j : Nat) (hj : j < 64) (x : Int) : UI w (W.setCell ⟨b, 7 + j, none⟩ (.int .i64 x)) bp b { p with wk := Power.upd p.wk j x } tm := h.atB _ _ _ (h.li.q.setW j hj x)
theorem UI.setT (h : UI w W bp b p tm) (x : Int) : UI w (W.setCell ⟨bp + 1, 0, none⟩ (.int .i64 x)) bp b p x := by
  have := h.li.ap
  have h1 := Below.heap_setCell W ⟨bp + 1, 0, none⟩ (.int .i64 x) bp (by show bp ≠ bp + 1; omega)
  refine ⟨⟨(World.cell?_of_block h1).trans h.li.cb, h.li.q.far _ (by show b ≠ bp + 1; omega) _, Power.Upd.new h.li.up _ _ _ (by omega) (by omega), h.li.ap⟩, ?_, ?_⟩
  · have := h.ct; go_cell
  · have := h.ft; simp [go_sem, this]
end
theorem UI.new (w : World) (b : Nat) (p : Pl) (tm : Int) (h : QT w b p) : UI w ((w.alloc (.cells #[.pointer (some ⟨b, 0, none⟩)] 73)).alloc (.cells #[.int .i64 tm] 2)) w.heap.size b p tm := by
  have h1 := blk_new (w.alloc (.cells #[.pointer (some ⟨b, 0, none⟩)] 73)) (.cells #[.int .i64 tm] 2)
  rw [World.size_alloc] at h1
  exact ⟨(LI.new w b p h).below (below_alloc (Below.refl _ _) _), (blk_cell h1 0).trans rfl, blk_frozen h1 0⟩
theorem Use_bad (b s : Nat) (p : Pl) (w : World) (h : QT w b p) (ho : PlOk p) (hs : s < 18446744073709551616) (hm : s = 0 ∨ minus s (allS p.N) ≠ 0) :
    Calls Tryd.prog 52 #[.pointer (some ⟨b, 0, none⟩), .int .u64 (s : Int)] w fun e w' => e = .returned (.tuple #[.int .i64 0, .int .i64 1]) ∧ QT w' b p ∧ Upd b w w' := by
  have H0 := Lib.hid (LI.new w b p h)
  have KN := Lib.hid (fun W (h : QT W b p) => none_q b p W h ho)
  rcases hm with rfl | hm
  · clear h ho
    go_enter Tryd.func52, Tryd.ntmps52
    go_wp2_with (go_at_call 94; refine (KN.out _ H0.out.q).mono ?_; rintro e w2 ⟨rfl, rfl⟩)
    go_ret2
    exact ⟨rfl, H0.out.q, H0.out.up⟩
  · have hs0 : s ≠ 0 := fun e => hm (by rw [e]; unfold minus; simp)
    have e0 : ((s : Int) == 0) = false := (neq_b s hs0).2
    have KA := Lib.hid (fun W => all_any (p.N : Int) W)
    have hv := minus_val s (allS p.N) hs (allS_lt _)
    obtain ⟨a, ha⟩ : ∃ a, allS p.N = a := ⟨_, rfl⟩
    rw [ha] at hm hv KA
    obtain ⟨m, hm2⟩ : ∃ m, minus s a = m := ⟨_, rfl⟩
    rw [hm2] at hm hv
    have e1 := (neq_b m hm).1
    have c3 := H0.out.q.cn
    clear h ho ha hm hm2 hs hs0
    go_enter Tryd.func52, Tryd.ntmps52
    go_wp2_with (first
      | (go_at_call 94; refine (KN.out _ H0.out.q).mono ?_; rintro e w2 ⟨rfl, rfl⟩)
      | (go_at_call 26; refine (KA.out _).mono ?_; rintro e w2 ⟨rfl, rfl⟩))
    go_ret2
    exact ⟨rfl, H0.out.q, H0.out.up⟩
theorem Use_twice (b s : Nat) (p : Pl) (w : World) (h : QT w b p) (ho : PlOk p) (hs : s < 18446744073709551616) (hs0 : s ≠ 0) (hm0 : minus s (allS p.N) = 0) (hm : s &&& p.u ≠ 0) :
    Calls Tryd.prog 52 #[.pointer (some ⟨b, 0, none⟩), .int .u64 (s : Int)] w fun e w' => e = .returned (.tuple #[.int .i64 0, .int .i64 13]) ∧ QT w' b p ∧ Upd b w w' := by
  have H0 := Lib.hid (LI.new w b p h)
  have KN := Lib.hid (fun W (h : QT W b p) => none_q b p W h ho)
  have e0 : ((s : Int) == 0) = false := (neq_b s hs0).2
  have KA := Lib.hid (fun W => all_any (p.N : Int) W)
  have hv := minus_val s (allS p.N) hs (allS_lt _)
  rw [hm0] at hv
  obtain ⟨a, ha⟩ : ∃ a, allS p.N = a := ⟨_, rfl⟩
  rw [ha] at hv KA
  have band := bits_and_u64_nat s p.u hs ho.hu
  obtain ⟨u, hu⟩ : ∃ u, p.u = u := ⟨_, rfl⟩
  have HU := Lib.hid hu
  rw [hu] at hm band
  obtain ⟨m, hm2⟩ : ∃ m, s &&& u = m := ⟨_, rfl⟩
  rw [hm2] at hm band
  have e1 := (neq_b m hm).1
  have c3 := H0.out.q.cn
  have c5 := H0.out.q.cu
  rw [HU.out] at c5
  clear h ho ha hm hm2 hs hs0 hm0 hu
  go_enter Tryd.func52, Tryd.ntmps52
  go_wp2_with (first
    | (go_at_call 94; refine (KN.out _ H0.out.q).mono ?_; rintro e w2 ⟨rfl, rfl⟩)
    | (go_at_call 26; refine (KA.out _).mono ?_; rintro e w2 ⟨rfl, rfl⟩))
  go_ret2
  exact ⟨rfl, H0.out.q, H0.out.up⟩
set_option maxHeartbeats 4000000 in
theorem Use_yes (b s : Nat) (p : Pl) (w : World) (h : QT w b p) (ho : PlOk p) (hs : s < 18446744073709551616) (hs0 : s ≠ 0) (hm0 : minus s (allS p.N) = 0) (hm : s &&& p.u = 0) (hT : Tab w) :
    Calls Tryd.prog 52 #[.pointer (some ⟨b, 0, none⟩), .int .u64 (s : Int)] w fun e w' => e = .returned (.tuple #[.int .i64 (useAt p s (lenS s)).2, .int .i64 0]) ∧ QT w' b (useP p s) ∧ Upd b w w' := by
  have H0 := Lib.hid (LI.new w b p h)
  have H1 := Lib.hid (UI.new w b p p.t h)
  have KN := Lib.hid (fun W (h : QT W b p) => none_q b p W h ho)
  have e0 : ((s : Int) == 0) = false := (neq_b s hs0).2
  have KA := Lib.hid (fun W => all_any (p.N : Int) W)
  have hv := minus_val s (allS p.N) hs (allS_lt _)
  rw [hm0] at hv
  obtain ⟨a, ha⟩ : ∃ a, allS p.N = a := ⟨_, rfl⟩
  rw [ha] at hv KA
  have band := bits_and_u64_nat s p.u hs ho.hu
  have bor := bits_or_u64_nat p.u s ho.hu hs
  rw [hm] at band
  obtain ⟨u, hu⟩ : ∃ u, p.u = u := ⟨_, rfl⟩
  have HU := Lib.hid hu
  rw [hu] at band bor
  obtain ⟨us, hus⟩ : ∃ m, u ||| s = m := ⟨_, rfl⟩
  rw [hus] at bor
  have HUS := Lib.hid hus
  have HTA := Lib.hid (fun W (hu : Upd b w W) => Tab.upd hT h hu)
  have HOK := Lib.hid (useAt_ok p s ho)
  have c3 := H0.out.q.cn
  have c4 := H0.out.q.ct
  have c5 := H0.out.q.cu
  rw [HU.out] at c5
  clear h ho ha hs0 hm0 hm hu hus hT
  refine (callsIn_wide (n := 5)).1 ?_
  refine callsIn_of_wp_marks Tryd.func52 rfl trivial ?_ rfl
  have hmf : ∀ (fn : Fn) (first cap : Array Value) (w : World), (Instr.makeFunc fn first cap).run Tryd.prog w = .ok (.func fn first cap) w := fun _ _ _ _ => rfl
  refine wpIn_wide.2 ?_
  simp only [Tryd.ntmps52, List.size_toArray, List.length_cons, List.length_nil, Nat.reduceAdd, Nat.reduceSub, Array.replicate_succ, Array.replicate_zero, List.push_toArray, List.append_toArray, List.nil_append, List.cons_append]
  go_wp2_with (first
    | (go_at_call 94; refine (KN.out _ H0.out.q).mono ?_; rintro e w2 ⟨rfl, rfl⟩)
    | (go_at_call 26; refine (KA.out _).mono ?_; rintro e w2 ⟨rfl, rfl⟩))
  clear c3 c4 c5 KN KA H0
  obtain ⟨bp, hbp⟩ : ∃ b, w.heap.size = b := ⟨_, rfl⟩
  have HBP := Lib.hid hbp
  rw [hbp] at H1 ⊢
  clear hbp
  generalize (w.alloc (.cells #[.pointer (some ⟨b, 0, none⟩)] 73)).alloc (.cells #[.int .i64 p.t] 2) = W0 at H1 ⊢
  refine (wpIn_wide (n := 5)).1 ?_
  refine loop_first rfl (enters_of Tryd.func95 (by kernel_rfl) rfl) (each_hands s (5 - 1) hs (by decide)) (fun k W => UI w W bp b (useAt p s k).1 (useAt p s k).2) ?hI ?h0 ?hT ?a1 ?assign ?body ?done
  case assign =>
    intro l v W K hK
    gi_wp2
    exact hK
  case hT => exact fun k W h => HTA.out W h.li.up
  case hI =>
    intro k W l o hl h
    exact h.putObj l o (by have := H1.out.lt; omega)
  case h0 => exact fun o1 o2 => H1.out.below (below_alloc (below_alloc (Below.refl _ _) _) _)
  case body =>
    intro l k v W hv2 hA
    obtain ⟨x, rfl, hx, hx64, hk⟩ := Pick.vals_at s k v hv2
    have hok := HOK.out k
    have hst : useAt p s (k + 1) = (useStep (useAt p s k).1 x, later (useAt p s k).2 ((useStep (useAt p s k).1 x).wk x)) := by rw [← hx]; rfl
    obtain ⟨q, hq⟩ : ∃ q, (useAt p s k).1 = q := ⟨_, rfl⟩
    obtain ⟨tm, htm⟩ : ∃ q, (useAt p s k).2 = q := ⟨_, rfl⟩
    rw [hq, htm] at hst hA
    rw [hq] at hok
    have H := Lib.hid hA
    have KH := Lib.hid (fun W => has_any q.s (x : Int) W hok.hs)
    have KO := Lib.hid (fun W => without_any q.s (x : Int) W hok.hs)
    have hhb := hasS_at q.s x hx64
    have KAd : Hid (∀ (g : Nat) (W : World), W.cell? ⟨g, 0, none⟩ = some (.int .i64 q.t) → W.cell? ⟨g, 1, none⟩ = some (.int .i64 q.W) → Calls Tryd.prog 96 #[.slice (some ⟨g, 0, none⟩) 2 2] W fun e w' => e = .returned (.int .i64 (addS q.t q.W)) ∧ W = w') := Lib.hid (fun g W h0 h1 => Add2_any g q.t q.W W hok.ht.1 (by have := hok.ht; omega) hok.hW.1 (by have := hok.hW; omega) h0 h1)
    have hwkb := (useStep_in q x hok).2 x
    have HST := Lib.hid hst
    have x0 : ((x : Int) < 64) = True := eq_true (by omega)
    have xt : ((x : Int)).toNat = x := by omega
    have hmf2 := hmf
    clear hst hv2 hx hk hA hq htm hok band bor hv e0
    refine wpIn_block ?_
    by_cases hb : q.s.testBit x = true
    · rw [hb] at hhb
      have KH1 := KH.out
      rw [hhb] at KH1
      have KH2 := Lib.hid KH1
      have hus : useStep q x = { q with s := withoutS q.s (x : Int), wk := Power.upd q.wk x (addS q.t q.W) } := by unfold useStep; rw [if_pos hb]
      have HUSt := Lib.hid hus
      obtain ⟨s2, hs2⟩ : ∃ s2, withoutS q.s (x : Int) = s2 := ⟨_, rfl⟩
      rw [hs2] at KO HUSt
      obtain ⟨ad, had⟩ : ∃ ad, addS q.t q.W = ad := ⟨_, rfl⟩
      rw [had] at KAd HUSt
      have hadx : (useStep q x).wk x = ad := by rw [HUSt.out]; show Power.upd q.wk x ad x = ad; unfold Power.upd; rw [if_pos rfl]
      have HADX := Lib.hid hadx
      have hmax : max tm ad = later tm ad := by unfold later; split <;> omega
      obtain ⟨tn, htn⟩ : ∃ tn, later tm ad = tn := ⟨_, rfl⟩
      rw [htn] at hmax
      have HTN := Lib.hid htn
      clear KH KH1 hhb hb hus hs2 had hadx hwkb htn
      have cb := H.out.li.cb
      have cs := H.out.li.q.cs
      gi_wp2_with (refine ⟨trivial, ?_⟩; gi_at_call 29; refine (CallsIn.inRound l (callsIn_wide.2 (KH2.out _))).mono ?_; rintro e w' ⟨rfl, rfl⟩)
      clear cb cs KH2
      refine startIn_ (n := 10) (S := fun w' => w'.cell? ⟨bp, 0, none⟩ = some (.pointer (some ⟨b, 0, none⟩)) ∧ w'.cell? ⟨b, 6, none⟩ = some (.int .u64 (q.s : Int))) (ds := [9]) #[false, false, false, false, false, false, false, false, false, false] (by kernel_rfl) rfl rfl ⟨H.out.li.cb, H.out.li.q.cs⟩ (fun hHeld => ?_)
      have n_ := Lib.hid H.out.drew
      clear H
      have H := n_
      clear n_
      generalize hW5 : W.drew = w5 at H hHeld ⊢
      have q2 := H.out.li.q.fz 6
      have q1 := H.out.li.q.cs
      refine pure_ (i := 5) (N := some 50) (v := ?_) (a' := ?_) #[false, false, false, false, false, true, false, false, false, false] rfl rfl (by kernel_rfl) (fun _ _ _ h => h) (Or.inl ⟨by rfl, ?_⟩) ?_ ?_
      rotate_left
      · intro w'
        go_simp
        with_reducible rfl
      rotate_left
      · simp only [Act.put, List.setIfInBounds_toArray, List.set_cons_zero, List.set_cons_succ, i64_w, i32_w]
        rfl
      refine take_ (i := 0) (N := some 45) (v := ?_) (a' := ?_) #[true, false, false, false, false, true, false, false, false, false] rfl rfl (by kernel_rfl) (fun _ _ _ h => h) (Or.inl ⟨by rfl, ?_⟩) hHeld ?_ ?_
      rotate_left
      · rintro w' ⟨s0, s1⟩
        go_simp
        with_reducible rfl
      rotate_left
      · simp only [Act.put, List.setIfInBounds_toArray, List.set_cons_zero, List.set_cons_succ, i64_w, i32_w]
        rfl
      refine take_ (i := 1) (N := some 46) (v := ?_) (a' := ?_) #[true, true, false, false, false, true, false, false, false, false] rfl rfl (by kernel_rfl) (fun _ _ _ h => h) (Or.inl ⟨by rfl, ?_⟩) hHeld ?_ ?_
      rotate_left
      · rintro w' ⟨s0, s1⟩
        go_simp
        with_reducible rfl
      rotate_left
      · simp only [Act.put, List.setIfInBounds_toArray, List.set_cons_zero, List.set_cons_succ, i64_w, i32_w]
        rfl
      refine pure_ (i := 2) (N := some 47) (v := ?_) (a' := ?_) #[true, true, true, false, false, true, false, false, false, false] rfl rfl (by kernel_rfl) (fun _ _ _ h => h) (Or.inl ⟨by rfl, ?_⟩) ?_ ?_
      rotate_left
      · intro w'
        go_simp
        with_reducible rfl
      rotate_left
      · simp only [Act.put, List.setIfInBounds_toArray, List.set_cons_zero, List.set_cons_succ, i64_w, i32_w]
        rfl
      refine pure_ (i := 3) (N := some 48) (v := ?_) (a' := ?_) #[true, true, true, true, false, true, false, false, false, false] rfl rfl (by kernel_rfl) (fun _ _ _ h => h) (Or.inl ⟨by rfl, ?_⟩) ?_ ?_
      rotate_left
      · intro w'
        go_simp
        with_reducible rfl
      rotate_left
      · simp only [Act.put, List.setIfInBounds_toArray, List.set_cons_zero, List.set_cons_succ, i64_w, i32_w]
        rfl
      refine take_ (i := 4) (N := some 49) (v := ?_) (a' := ?_) #[true, true, true, true, true, true, false, false, false, false] rfl rfl (by kernel_rfl) (fun _ _ _ h => h) (Or.inl ⟨by rfl, ?_⟩) hHeld ?_ ?_
      rotate_left
      · rintro w' ⟨s0, s1⟩
        go_simp
        with_reducible rfl
      rotate_left
      · simp only [Act.put, List.setIfInBounds_toArray, List.set_cons_zero, List.set_cons_succ, i64_w, i32_w]
        rfl
      refine one_ (i := 6) (N := some 51) #[true, true, true, true, true, true, true, false, false, false] rfl rfl (by kernel_rfl) (by decide) (fun K hK => ?_)
      refine goes_ Tryd.func31 (by kernel_rfl) rfl #[.int .u64 (q.s : Int), .int .i64 (x : Int)] (by rfl) rfl rfl (by (try simp only [List.map_toArray, List.map_cons, List.map_nil]); first | done | rfl | (simp only [List.length_drop, List.length_take]; rfl)) ?_
      with_reducible refine (KO.out _).mono ?_
      rintro e w6 ⟨rfl, rfl⟩
      refine ⟨_, rfl, ?_⟩
      refine hK.out _ _ ⟨H.out.li.cb, H.out.li.q.cs⟩ (fun hHeld => ?_)
      clear hK K
      refine norm_ (a' := ?_) ?_ ?_
      rotate_left
      · show Act.put _ (some 51) _ = _
        simp only [Act.put, List.setIfInBounds_toArray, List.set_cons_zero, List.set_cons_succ, i64_w, i32_w]
        rfl
      refine pure_ (i := 7) (N := some 52) (v := ?_) (a' := ?_) #[true, true, true, true, true, true, true, true, false, false] rfl rfl (by kernel_rfl) (fun _ _ _ h => h) (Or.inl ⟨by rfl, ?_⟩) ?_ ?_
      rotate_left
      · intro w'
        go_simp
        with_reducible rfl
      rotate_left
      · simp only [Act.put, List.setIfInBounds_toArray, List.set_cons_zero, List.set_cons_succ, i64_w, i32_w]
        rfl
      refine pure_ (i := 8) (N := some 53) (v := ?_) (a' := ?_) #[true, true, true, true, true, true, true, true, true, false] rfl rfl (by kernel_rfl) (fun _ _ _ h => h) (Or.inl ⟨by rfl, ?_⟩) ?_ ?_
      rotate_left
      · intro w'
        go_simp
        with_reducible rfl
      rotate_left
      · simp only [Act.put, List.setIfInBounds_toArray, List.set_cons_zero, List.set_cons_succ, i64_w, i32_w]
        rfl
      refine last_ (i := 9) (N := none) #[true, true, true, true, true, true, true, true, true, true] rfl rfl (by kernel_rfl) (by decide) (fun K hK => ?_)
      refine skip_ (w1 := ?_) (by rfl) rfl ?_ ?_
      rotate_left
      · go_simp
        rfl
      refine hK.out _ _ ?_
      clear hK K
      refine done_ (by kernel_rfl) ?_
      have HKO := Lib.hid (show KeepsOthers W w5 by rw [← hW5]; exact KeepsOthers.drew _)
      clear hW5
      have HK := Lib.hid (HKO.out.trans (KeepsOthers.setCell _ ⟨b, 6, none⟩ (.int .u64 (s2 : Int))))
      have n_ := Lib.hid (H.out.setS s2)
      clear H HKO hHeld q1 q2
      have H := n_
      have HKO := HK
      clear n_ HK
      generalize w5.setCell ⟨b, 6, none⟩ (.int .u64 (s2 : Int)) = w6 at H HKO ⊢
      gi_wp2
      refine startIn_ (n := 17) (S := fun w' => w'.cell? ⟨bp, 0, none⟩ = some (.pointer (some ⟨b, 0, none⟩)) ∧ w'.cell? ⟨b, 4, none⟩ = some (.int .i64 q.t) ∧ w'.cell? ⟨b, 1, none⟩ = some (.int .i64 q.W)) (ds := [16]) #[false, false, false, false, false, false, false, false, false, false, false, false, false, false, false, false, false] (by kernel_rfl) rfl rfl ⟨H.out.li.cb, H.out.li.q.ct, H.out.li.q.cW⟩ (fun hHeld => ?_)
      have n_ := Lib.hid H.out.drew
      have n2_ := Lib.hid (HKO.out.trans (KeepsOthers.drew _))
      clear H HKO
      have H := n_
      have HKO := n2_
      clear n_ n2_
      generalize w6.drew = w7 at H HKO hHeld ⊢
      have q2 := H.out.li.q.fz (7 + x)
      have q1 := H.out.li.q.cw x hx64
      refine pure_ (i := 1) (N := some 55) (v := ?_) (a' := ?_) #[false, true, false, false, false, false, false, false, false, false, false, false, false, false, false, false, false] rfl rfl (by kernel_rfl) (fun _ _ _ h => h) (Or.inl ⟨by rfl, ?_⟩) ?_ ?_
      rotate_left
      · intro w'
        go_simp
        with_reducible rfl
      rotate_left
      · simp only [Act.put, List.setIfInBounds_toArray, List.set_cons_zero, List.set_cons_succ, i64_w, i32_w]
        rfl
      refine take_ (i := 0) (N := some 54) (v := ?_) (a' := ?_) #[true, true, false, false, false, false, false, false, false, false, false, false, false, false, false, false, false] rfl rfl (by kernel_rfl) (fun _ _ _ h => h) (Or.inl ⟨by rfl, ?_⟩) hHeld ?_ ?_
      rotate_left
      · rintro w' ⟨s0, s1, s2⟩
        go_simp
        with_reducible rfl
      rotate_left
      · simp only [Act.put, List.setIfInBounds_toArray, List.set_cons_zero, List.set_cons_succ, i64_w, i32_w]
        rfl
      refine pure_ (i := 13) (N := some 67) (v := ?_) (a' := ?_) #[true, true, false, false, false, false, false, false, false, false, false, false, false, true, false, false, false] rfl rfl (by kernel_rfl) (fun _ _ _ h => h) (Or.inl ⟨by rfl, ?_⟩) ?_ ?_
      rotate_left
      · intro w'
        go_simp
        with_reducible rfl
      rotate_left
      · simp only [Act.put, List.setIfInBounds_toArray, List.set_cons_zero, List.set_cons_succ, i64_w, i32_w]
        rfl
      refine pure_ (i := 14) (N := some 68) (v := ?_) (a' := ?_) #[true, true, false, false, false, false, false, false, false, false, false, false, false, true, true, false, false] rfl rfl (by kernel_rfl) (fun _ _ _ h => h) (Or.inl ⟨by rfl, ?_⟩) ?_ ?_
      rotate_left
      · intro w'
        go_simp
        with_reducible rfl
      rotate_left
      · simp only [Act.put, List.setIfInBounds_toArray, List.set_cons_zero, List.set_cons_succ, i64_w, i32_w]
        rfl
      refine take_ (i := 2) (N := some 56) (v := ?_) (a' := ?_) #[true, true, true, false, false, false, false, false, false, false, false, false, false, true, true, false, false] rfl rfl (by kernel_rfl) (fun _ _ _ h => h) (Or.inl ⟨by rfl, ?_⟩) hHeld ?_ ?_
      rotate_left
      · rintro w' ⟨s0, s1, s2⟩
        go_simp
        with_reducible rfl
      rotate_left
      · simp only [Act.put, List.setIfInBounds_toArray, List.set_cons_zero, List.set_cons_succ, i64_w, i32_w]
        rfl
      refine pure_ (i := 3) (N := some 57) (v := ?_) (a' := ?_) #[true, true, true, true, false, false, false, false, false, false, false, false, false, true, true, false, false] rfl rfl (by kernel_rfl) (fun _ _ _ h => h) (Or.inl ⟨by rfl, ?_⟩) ?_ ?_
      rotate_left
      · intro w'
        go_simp
        with_reducible rfl
      rotate_left
      · simp only [Act.put, List.setIfInBounds_toArray, List.set_cons_zero, List.set_cons_succ, i64_w, i32_w]
        rfl
      refine pure_ (i := 4) (N := some 58) (v := ?_) (a' := ?_) #[true, true, true, true, true, false, false, false, false, false, false, false, false, true, true, false, false] rfl rfl (by kernel_rfl) (fun _ _ _ h => h) (Or.inl ⟨by rfl, ?_⟩) ?_ ?_
      rotate_left
      · intro w'
        go_simp
        with_reducible rfl
      rotate_left
      · simp only [Act.put, List.setIfInBounds_toArray, List.set_cons_zero, List.set_cons_succ, i64_w, i32_w]
        rfl
      refine take_ (i := 5) (N := some 59) (v := ?_) (a' := ?_) #[true, true, true, true, true, true, false, false, false, false, false, false, false, true, true, false, false] rfl rfl (by kernel_rfl) (fun _ _ _ h => h) (Or.inl ⟨by rfl, ?_⟩) hHeld ?_ ?_
      rotate_left
      · rintro w' ⟨s0, s1, s2⟩
        go_simp
        with_reducible rfl
      rotate_left
      · simp only [Act.put, List.setIfInBounds_toArray, List.set_cons_zero, List.set_cons_succ, i64_w, i32_w]
        rfl
      refine take_ (i := 6) (N := some 60) (v := ?_) (a' := ?_) #[true, true, true, true, true, true, true, false, false, false, false, false, false, true, true, false, false] rfl rfl (by kernel_rfl) (fun _ _ _ h => h) (Or.inl ⟨by rfl, ?_⟩) hHeld ?_ ?_
      rotate_left
      · rintro w' ⟨s0, s1, s2⟩
        go_simp
        with_reducible rfl
      rotate_left
      · simp only [Act.put, List.setIfInBounds_toArray, List.set_cons_zero, List.set_cons_succ, i64_w, i32_w]
        rfl
      refine pure_ (i := 7) (N := some 61) (v := ?_) (a' := ?_) #[true, true, true, true, true, true, true, true, false, false, false, false, false, true, true, false, false] rfl rfl (by kernel_rfl) (fun _ _ _ h => h) (Or.inl ⟨by rfl, ?_⟩) ?_ ?_
      rotate_left
      · intro w'
        go_simp
        with_reducible rfl
      rotate_left
      · simp only [Act.put, List.setIfInBounds_toArray, List.set_cons_zero, List.set_cons_succ, i64_w, i32_w]
        rfl
      refine pure_ (i := 8) (N := some 62) (v := ?_) (a' := ?_) #[true, true, true, true, true, true, true, true, true, false, false, false, false, true, true, false, false] rfl rfl (by kernel_rfl) (fun _ _ _ h => h) (Or.inl ⟨by rfl, ?_⟩) ?_ ?_
      rotate_left
      · intro w'
        go_simp
        with_reducible rfl
      rotate_left
      · simp only [Act.put, List.setIfInBounds_toArray, List.set_cons_zero, List.set_cons_succ, i64_w, i32_w]
        rfl
      refine pure_ (i := 9) (N := some 63) (v := ?_) (a' := ?_) #[true, true, true, true, true, true, true, true, true, true, false, false, false, true, true, false, false] rfl rfl (by kernel_rfl) (fun _ _ _ h => h) (Or.inl ⟨by rfl, ?_⟩) ?_ ?_
      rotate_left
      · intro w'
        go_simp
        with_reducible rfl
      rotate_left
      · simp only [Act.put, List.setIfInBounds_toArray, List.set_cons_zero, List.set_cons_succ, i64_w, i32_w]
        rfl
      refine take_ (i := 10) (N := some 64) (v := ?_) (a' := ?_) #[true, true, true, true, true, true, true, true, true, true, true, false, false, true, true, false, false] rfl rfl (by kernel_rfl) (fun _ _ _ h => h) (Or.inl ⟨by rfl, ?_⟩) hHeld ?_ ?_
      rotate_left
      · rintro w' ⟨s0, s1, s2⟩
        go_simp
        with_reducible rfl
      rotate_left
      · simp only [Act.put, List.setIfInBounds_toArray, List.set_cons_zero, List.set_cons_succ, i64_w, i32_w]
        rfl
      refine one_ (i := 11) (N := some 65) #[true, true, true, true, true, true, true, true, true, true, true, true, false, true, true, false, false] rfl rfl (by kernel_rfl) (by decide) (fun K hK => ?_)
      refine value_ (w1 := ?_) (v := ?_) (by rfl) rfl ?_ ?_
      rotate_left 2
      · go_simp
        constructor
        · rfl
        · rfl
      have cg := blk_new w7 (.cells #[.int .i64 q.t, .int .i64 q.W] 2)
      have n_ := Lib.hid (H.out.below (below_alloc (Below.refl _ _) (.cells #[.int .i64 q.t, .int .i64 q.W] 2)))
      have n2_ := Lib.hid (HKO.out.trans (KeepsOthers.alloc _ (.cells #[.int .i64 q.t, .int .i64 q.W] 2)))
      clear H HKO q1 q2
      have H := n_
      have HKO := n2_
      clear n_ n2_
      generalize w7.alloc (.cells #[.int .i64 q.t, .int .i64 q.W] 2) = w8 at cg H HKO ⊢
      generalize w7.heap.size = g at cg ⊢
      have q2 := H.out.li.q.fz (7 + x)
      have q1 := H.out.li.q.cw x hx64
      refine hK.out _ _ ⟨H.out.li.cb, H.out.li.q.ct, H.out.li.q.cW⟩ (fun hHeld => ?_)
      clear hK K
      refine norm_ (a' := ?_) ?_ ?_
      rotate_left
      · show Act.put _ (some 65) _ = _
        simp only [Act.put, List.setIfInBounds_toArray, List.set_cons_zero, List.set_cons_succ, i64_w, i32_w]
        rfl
      refine one_ (i := 12) (N := some 66) #[true, true, true, true, true, true, true, true, true, true, true, true, true, true, true, false, false] rfl rfl (by kernel_rfl) (by decide) (fun K hK => ?_)
      refine goes_ Tryd.func96 (by kernel_rfl) rfl #[.slice (some ⟨g, 0, none⟩) 2 2] (by rfl) rfl rfl (by (try simp only [List.map_toArray, List.map_cons, List.map_nil]); first | done | rfl | (simp only [List.length_drop, List.length_take]; rfl)) ?_
      with_reducible refine (KAd.out g _ ((blk_cell cg 0).trans rfl) ((blk_cell cg 1).trans rfl)).mono ?_
      rintro e w9 ⟨rfl, rfl⟩
      refine ⟨_, rfl, ?_⟩
      refine hK.out _ _ ⟨H.out.li.cb, H.out.li.q.ct, H.out.li.q.cW⟩ (fun hHeld => ?_)
      clear hK K
      refine norm_ (a' := ?_) ?_ ?_
      rotate_left
      · show Act.put _ (some 66) _ = _
        simp only [Act.put, List.setIfInBounds_toArray, List.set_cons_zero, List.set_cons_succ, i64_w, i32_w]
        rfl
      refine pure_ (i := 15) (N := some 69) (v := ?_) (a' := ?_) #[true, true, true, true, true, true, true, true, true, true, true, true, true, true, true, true, false] rfl rfl (by kernel_rfl) (fun _ _ _ h => h) (Or.inl ⟨by rfl, ?_⟩) ?_ ?_
      rotate_left
      · intro w'
        go_simp
        with_reducible rfl
      rotate_left
      · simp only [Act.put, List.setIfInBounds_toArray, List.set_cons_zero, List.set_cons_succ, i64_w, i32_w]
        rfl
      refine last_ (i := 16) (N := none) #[true, true, true, true, true, true, true, true, true, true, true, true, true, true, true, true, true] rfl rfl (by kernel_rfl) (by decide) (fun K hK => ?_)
      refine skip_ (w1 := ?_) (by rfl) rfl ?_ ?_
      rotate_left
      · go_simp
        rfl
      refine hK.out _ _ ?_
      clear hK K
      refine done_ (by kernel_rfl) ?_
      have HK := Lib.hid (HKO.out.trans (KeepsOthers.setCell _ ⟨b, 7 + x, none⟩ (.int .i64 ad)))
      have n_ := Lib.hid (H.out.setW x hx64 ad)
      clear H HKO hHeld q1 q2
      have H := n_
      have HKO := HK
      clear n_ HK
      generalize w8.setCell ⟨b, 7 + x, none⟩ (.int .i64 ad) = w10 at H HKO ⊢
      clear cg
      gi_wp2
      refine startIn_ (n := 9) (S := fun w' => w'.cell? ⟨bp + 1, 0, none⟩ = some (.int .i64 tm) ∧ w'.cell? ⟨bp, 0, none⟩ = some (.pointer (some ⟨b, 0, none⟩)) ∧ w'.cell? ⟨b, 7 + x, none⟩ = some (.int .i64 ad)) (ds := [8]) #[false, false, false, false, false, false, false, false, false] (by kernel_rfl) rfl rfl ⟨H.out.ct, H.out.li.cb, ((H.out.li.q.cw x hx64).trans (by show some (Value.int .i64 (Power.upd _ x ad x)) = _; unfold Power.upd; rw [if_pos rfl]))⟩ (fun hHeld => ?_)
      have n_ := Lib.hid H.out.drew
      have n2_ := Lib.hid (HKO.out.trans (KeepsOthers.drew _))
      clear H HKO
      have H := n_
      have HKO := n2_
      clear n_ n2_
      generalize w10.drew = w11 at H HKO hHeld ⊢
      have q2 := H.out.ft
      have q1 := H.out.ct
      refine pure_ (i := 2) (N := some 72) (v := ?_) (a' := ?_) #[false, false, true, false, false, false, false, false, false] rfl rfl (by kernel_rfl) (fun _ _ _ h => h) (Or.inl ⟨by rfl, ?_⟩) ?_ ?_
      rotate_left
      · intro w'
        go_simp
        with_reducible rfl
      rotate_left
      · simp only [Act.put, List.setIfInBounds_toArray, List.set_cons_zero, List.set_cons_succ, i64_w, i32_w]
        rfl
      refine take_ (i := 0) (N := some 70) (v := ?_) (a' := ?_) #[true, false, true, false, false, false, false, false, false] rfl rfl (by kernel_rfl) (fun _ _ _ h => h) (Or.inl ⟨by rfl, ?_⟩) hHeld ?_ ?_
      rotate_left
      · rintro w' ⟨s0, s1, s2⟩
        go_simp
        with_reducible rfl
      rotate_left
      · simp only [Act.put, List.setIfInBounds_toArray, List.set_cons_zero, List.set_cons_succ, i64_w, i32_w]
        rfl
      refine take_ (i := 1) (N := some 71) (v := ?_) (a' := ?_) #[true, true, true, false, false, false, false, false, false] rfl rfl (by kernel_rfl) (fun _ _ _ h => h) (Or.inl ⟨by rfl, ?_⟩) hHeld ?_ ?_
      rotate_left
      · rintro w' ⟨s0, s1, s2⟩
        go_simp
        with_reducible rfl
      rotate_left
      · simp only [Act.put, List.setIfInBounds_toArray, List.set_cons_zero, List.set_cons_succ, i64_w, i32_w]
        rfl
      refine pure_ (i := 3) (N := some 73) (v := ?_) (a' := ?_) #[true, true, true, true, false, false, false, false, false] rfl rfl (by kernel_rfl) (fun _ _ _ h => h) (Or.inl ⟨by rfl, ?_⟩) ?_ ?_
      rotate_left
      · intro w'
        go_simp
        with_reducible rfl
      rotate_left
      · simp only [Act.put, List.setIfInBounds_toArray, List.set_cons_zero, List.set_cons_succ, i64_w, i32_w]
        rfl
      refine pure_ (i := 4) (N := some 74) (v := ?_) (a' := ?_) #[true, true, true, true, true, false, false, false, false] rfl rfl (by kernel_rfl) (fun _ _ _ h => h) (Or.inl ⟨by rfl, ?_⟩) ?_ ?_
      rotate_left
      · intro w'
        go_simp
        with_reducible rfl
      rotate_left
      · simp only [Act.put, List.setIfInBounds_toArray, List.set_cons_zero, List.set_cons_succ, i64_w, i32_w]
        rfl
      refine pure_ (i := 5) (N := some 75) (v := ?_) (a' := ?_) #[true, true, true, true, true, true, false, false, false] rfl rfl (by kernel_rfl) (fun _ _ _ h => h) (Or.inl ⟨by rfl, ?_⟩) ?_ ?_
      rotate_left
      · intro w'
        go_simp
        with_reducible rfl
      rotate_left
      · simp only [Act.put, List.setIfInBounds_toArray, List.set_cons_zero, List.set_cons_succ, i64_w, i32_w]
        rfl
      refine take_ (i := 6) (N := some 76) (v := ?_) (a' := ?_) #[true, true, true, true, true, true, true, false, false] rfl rfl (by kernel_rfl) (fun _ _ _ h => h) (Or.inl ⟨by rfl, ?_⟩) hHeld ?_ ?_
      rotate_left
      · rintro w' ⟨s0, s1, s2⟩
        go_simp
        with_reducible rfl
      rotate_left
      · simp only [Act.put, List.setIfInBounds_toArray, List.set_cons_zero, List.set_cons_succ, i64_w, i32_w]
        rfl
      refine pure_ (i := 7) (N := some 77) (v := ?_) (a' := ?_) #[true, true, true, true, true, true, true, true, false] rfl rfl (by kernel_rfl) (fun _ _ _ h => h) (Or.inl ⟨by rfl, ?_⟩) ?_ ?_
      rotate_left
      · intro w'
        go_simp
        with_reducible rfl
      rotate_left
      · simp only [Act.put, List.setIfInBounds_toArray, List.set_cons_zero, List.set_cons_succ, i64_w, i32_w]
        rfl
      refine last_ (i := 8) (N := none) #[true, true, true, true, true, true, true, true, true] rfl rfl (by kernel_rfl) (by decide) (fun K hK => ?_)
      refine skip_ (w1 := ?_) (by rfl) rfl ?_ ?_
      rotate_left
      · go_simp
        rfl
      refine hK.out _ _ ?_
      clear hK K
      refine done_ (by kernel_rfl) ?_
      have HK := Lib.hid (HKO.out.trans (KeepsOthers.setCell _ ⟨bp + 1, 0, none⟩ (.int .i64 tn)))
      have n_ := Lib.hid (H.out.setT tn)
      clear H HKO hHeld q1 q2
      have H := n_
      have HKO := HK
      clear n_ HK
      generalize w11.setCell ⟨bp + 1, 0, none⟩ (.int .i64 tn) = w12 at H HKO ⊢
      refine ⟨HKO.out, ?_⟩
      show UI w _ bp b (useAt p s (k + 1)).1 (useAt p s (k + 1)).2
      rw [HST.out]
      show UI w _ bp b (useStep q x) (later tm ((useStep q x).wk x))
      rw [HADX.out, HTN.out, HUSt.out]
      exact H.out
    · have hbf : q.s.testBit x = false := by
        cases hc : q.s.testBit x
        · rfl
        · exact absurd hc hb
      rw [hbf] at hhb
      have KH1 := KH.out
      rw [hhb] at KH1
      have KH2 := Lib.hid KH1
      have hus : useStep q x = q := by unfold useStep; rw [if_neg hb]
      have HUSt := Lib.hid hus
      obtain ⟨y, hy⟩ : ∃ y, q.wk x = y := ⟨_, rfl⟩
      have HY := Lib.hid hy
      have hmax : max tm y = later tm y := by unfold later; split <;> omega
      obtain ⟨tn, htn⟩ : ∃ tn, later tm y = tn := ⟨_, rfl⟩
      rw [htn] at hmax
      have HTN := Lib.hid htn
      clear KH KH1 hhb hb hbf hus hwkb htn hy KO
      have cb := H.out.li.cb
      have cs := H.out.li.q.cs
      gi_wp2_with (refine ⟨trivial, ?_⟩; gi_at_call 29; refine (CallsIn.inRound l (callsIn_wide.2 (KH2.out _))).mono ?_; rintro e w' ⟨rfl, rfl⟩)
      clear cb cs KH2
      have HKO := Lib.hid (KeepsOthers.refl W)
      refine startIn_ (n := 9) (S := fun w' => w'.cell? ⟨bp + 1, 0, none⟩ = some (.int .i64 tm) ∧ w'.cell? ⟨bp, 0, none⟩ = some (.pointer (some ⟨b, 0, none⟩)) ∧ w'.cell? ⟨b, 7 + x, none⟩ = some (.int .i64 y)) (ds := [8]) #[false, false, false, false, false, false, false, false, false] (by kernel_rfl) rfl rfl ⟨H.out.ct, H.out.li.cb, ((H.out.li.q.cw x hx64).trans (by rw [HY.out]))⟩ (fun hHeld => ?_)
      have n_ := Lib.hid H.out.drew
      have n2_ := Lib.hid (HKO.out.trans (KeepsOthers.drew _))
      clear H HKO
      have H := n_
      have HKO := n2_
      clear n_ n2_
      generalize W.drew = w11 at H HKO hHeld ⊢
      have q2 := H.out.ft
      have q1 := H.out.ct
      refine pure_ (i := 2) (N := some 72) (v := ?_) (a' := ?_) #[false, false, true, false, false, false, false, false, false] rfl rfl (by kernel_rfl) (fun _ _ _ h => h) (Or.inl ⟨by rfl, ?_⟩) ?_ ?_
      rotate_left
      · intro w'
        go_simp
        with_reducible rfl
      rotate_left
      · simp only [Act.put, List.setIfInBounds_toArray, List.set_cons_zero, List.set_cons_succ, i64_w, i32_w]
        rfl
      refine take_ (i := 0) (N := some 70) (v := ?_) (a' := ?_) #[true, false, true, false, false, false, false, false, false] rfl rfl (by kernel_rfl) (fun _ _ _ h => h) (Or.inl ⟨by rfl, ?_⟩) hHeld ?_ ?_
      rotate_left
      · rintro w' ⟨s0, s1, s2⟩
        go_simp
        with_reducible rfl
      rotate_left
      · simp only [Act.put, List.setIfInBounds_toArray, List.set_cons_zero, List.set_cons_succ, i64_w, i32_w]
        rfl
      refine take_ (i := 1) (N := some 71) (v := ?_) (a' := ?_) #[true, true, true, false, false, false, false, false, false] rfl rfl (by kernel_rfl) (fun _ _ _ h => h) (Or.inl ⟨by rfl, ?_⟩) hHeld ?_ ?_
      rotate_left
      · rintro w' ⟨s0, s1, s2⟩
        go_simp
        with_reducible rfl
      rotate_left
      · simp only [Act.put, List.setIfInBounds_toArray, List.set_cons_zero, List.set_cons_succ, i64_w, i32_w]
        rfl
      refine pure_ (i := 3) (N := some 73) (v := ?_) (a' := ?_) #[true, true, true, true, false, false, false, false, false] rfl rfl (by kernel_rfl) (fun _ _ _ h => h) (Or.inl ⟨by rfl, ?_⟩) ?_ ?_
      rotate_left
      · intro w'
        go_simp
        with_reducible rfl
      rotate_left
      · simp only [Act.put, List.setIfInBounds_toArray, List.set_cons_zero, List.set_cons_succ, i64_w, i32_w]
        rfl
      refine pure_ (i := 4) (N := some 74) (v := ?_) (a' := ?_) #[true, true, true, true, true, false, false, false, false] rfl rfl (by kernel_rfl) (fun _ _ _ h => h) (Or.inl ⟨by rfl, ?_⟩) ?_ ?_
      rotate_left
      · intro w'
        go_simp
        with_reducible rfl
      rotate_left
      · simp only [Act.put, List.setIfInBounds_toArray, List.set_cons_zero, List.set_cons_succ, i64_w, i32_w]
        rfl
      refine pure_ (i := 5) (N := some 75) (v := ?_) (a' := ?_) #[true, true, true, true, true, true, false, false, false] rfl rfl (by kernel_rfl) (fun _ _ _ h => h) (Or.inl ⟨by rfl, ?_⟩) ?_ ?_
      rotate_left
      · intro w'
        go_simp
        with_reducible rfl
      rotate_left
      · simp only [Act.put, List.setIfInBounds_toArray, List.set_cons_zero, List.set_cons_succ, i64_w, i32_w]
        rfl
      refine take_ (i := 6) (N := some 76) (v := ?_) (a' := ?_) #[true, true, true, true, true, true, true, false, false] rfl rfl (by kernel_rfl) (fun _ _ _ h => h) (Or.inl ⟨by rfl, ?_⟩) hHeld ?_ ?_
      rotate_left
      · rintro w' ⟨s0, s1, s2⟩
        go_simp
        with_reducible rfl
      rotate_left
      · simp only [Act.put, List.setIfInBounds_toArray, List.set_cons_zero, List.set_cons_succ, i64_w, i32_w]
        rfl
      refine pure_ (i := 7) (N := some 77) (v := ?_) (a' := ?_) #[true, true, true, true, true, true, true, true, false] rfl rfl (by kernel_rfl) (fun _ _ _ h => h) (Or.inl ⟨by rfl, ?_⟩) ?_ ?_
      rotate_left
      · intro w'
        go_simp
        with_reducible rfl
      rotate_left
      · simp only [Act.put, List.setIfInBounds_toArray, List.set_cons_zero, List.set_cons_succ, i64_w, i32_w]
        rfl
      refine last_ (i := 8) (N := none) #[true, true, true, true, true, true, true, true, true] rfl rfl (by kernel_rfl) (by decide) (fun K hK => ?_)
      refine skip_ (w1 := ?_) (by rfl) rfl ?_ ?_
      rotate_left
      · go_simp
        rfl
      refine hK.out _ _ ?_
      clear hK K
      refine done_ (by kernel_rfl) ?_
      have HK := Lib.hid (HKO.out.trans (KeepsOthers.setCell _ ⟨bp + 1, 0, none⟩ (.int .i64 tn)))
      have n_ := Lib.hid (H.out.setT tn)
      clear H HKO hHeld q1 q2
      have H := n_
      have HKO := HK
      clear n_ HK
      generalize w11.setCell ⟨bp + 1, 0, none⟩ (.int .i64 tn) = w12 at H HKO ⊢
      refine ⟨HKO.out, ?_⟩
      show UI w _ bp b (useAt p s (k + 1)).1 (useAt p s (k + 1)).2
      rw [HST.out]
      show UI w _ bp b (useStep q x) (later tm ((useStep q x).wk x))
      rw [HUSt.out, HY.out, HTN.out]
      exact H.out
  case done =>
    intro D W hD hA hK
    rw [vals_len] at hA
    have hDb : bp + 1 < D := by have := H1.out.lt; omega
    have hsame := (useAt_same p s (lenS s)).2.2.2.2.2.1
    rw [HU.out] at hsame
    have hup : useP p s = { (useAt p s (lenS s)).1 with u := us } := by unfold useP; rw [HU.out, HUS.out]
    have HUP := Lib.hid hup
    obtain ⟨q, hq⟩ : ∃ q, (useAt p s (lenS s)).1 = q := ⟨_, rfl⟩
    obtain ⟨tm, htm⟩ : ∃ q, (useAt p s (lenS s)).2 = q := ⟨_, rfl⟩
    have HTM := Lib.hid htm
    rw [hq] at hsame hA HUP
    rw [htm] at hA
    have H := Lib.hid hA
    have HF := Lib.hid ((hA.setU us).putObj D (.deferred none) hDb)
    have cb := H.out.li.cb
    have cu := H.out.li.q.cu
    rw [hsame] at cu
    have fu := H.out.li.q.fz 5
    have ct := H.out.ct
    have hne : D ≠ b := by have := hA.li.ap; omega
    have hK2 := (Below.heap_setCell W ⟨b, 5, none⟩ (.int .u64 (us : Int)) D hne).trans hK
    clear hA hup hq htm hK hsame
    gi_wp2
    go_wp2
    refine ⟨by simp, .inl ⟨_, _, rfl, run_takeDeferred hK2, ?_⟩⟩
    exact ⟨_, results_tmp2 rfl _ _ _, by rw [HTM.out]; rfl, by rw [HUP.out]; exact HF.out.li.q, HF.out.li.up⟩
end Go.Proofs.YtmjkgnlmdcmdbaaDoor.Power
