/- PowerSpares: whatever is done, no node that is used is let sleep, and so many stay awake as are to be spared, or nobody is let sleep: for every number of nodes, every rule, every script (the law reads its first 40 calls). -/
import Derived.Test.YtmjkgnlmdcmdbaaDoorPow6
import Derived.Test.YtmjkgnlmdcmdbaaDoorFlat
namespace Go.Proofs.YtmjkgnlmdcmdbaaDoor.Power
open Go.RowKit Go.WideShapes Go.Proofs.YtmjkgnlmdcmdbaaDoor.Flat Go.Proofs.YtmjkgnlmdcmdbaaDoorW.PrintWords Go.Proofs.YtmjkgnlmdcmdbaaDoorW.PrintLast Go.Proofs.YtmjkgnlmdcmdbaaDoorW.PrintMore Go.Proofs.YtmjkgnlmdcmdbaaDoor.Row Go.Proofs.YtmjkgnlmdcmdbaaDoor.Sets Go.Proofs.YtmjkgnlmdcmdbaaDoor.Node Go.Proofs.YtmjkgnlmdcmdbaaDoor.Each
set_option linter.unusedVariables false
set_option linter.unusedSimpArgs false
set_option maxRecDepth 100000
theorem flatPw {w : World} {A : Option Addr} {n : Nat} {z : List (List Value)} (h : FlatRow w A n [.int .i64, .int .u64, .int .i64] z) (i : Nat) (hi : i < n) :
    ∃ ad a s c, A = some ad ∧ w.cell? (ad.add (i * 3)) = some (.int .i64 a) ∧ w.cell? ⟨(ad.add (i * 3)).block, (ad.add (i * 3)).off + 1, none⟩ = some (.int .u64 ((s : Nat) : Int)) ∧ w.cell? ⟨(ad.add (i * 3)).block, (ad.add (i * 3)).off + 2, none⟩ = some (.int .i64 c) ∧ s < 18446744073709551616 := by
  obtain ⟨h1, h2, h3⟩ := h
  obtain ⟨ad, rfl, h4⟩ := h3 (by omega)
  have hz : z[i]? = some z[i] := List.getElem?_eq_getElem (by omega)
  obtain ⟨c0, d0, e0, l0, m0⟩ := (h2 i _ hz).cons
  obtain ⟨c1, d1, e1, l1, m1⟩ := m0.cons
  obtain ⟨c2, d2, e2, l2, m2⟩ := m1.cons
  obtain rfl := m2.nil
  obtain ⟨a, rfl, -⟩ := l0
  obtain ⟨b, rfl, hw⟩ := l1
  obtain ⟨c, rfl, -⟩ := l2
  subst e2 e1
  rw [e0] at hz
  obtain ⟨s, rfl, hs⟩ := u64_out b hw
  have add1 : ∀ n, ad.add (n + 1) = ⟨(ad.add n).block, (ad.add n).off + 1, none⟩ := fun n => by
    unfold Addr.add
    by_cases h : n = 0
    · subst h; simp
    · simp [h]; omega
  have add2 : ∀ n, ad.add (n + 2) = ⟨(ad.add n).block, (ad.add n).off + 2, none⟩ := fun n => by
    unfold Addr.add
    by_cases h : n = 0
    · subst h; simp
    · simp [h]; omega
  refine ⟨ad, a, s, c, rfl, h4 i _ hz 0 _ rfl, ?_, ?_, hs⟩
  · rw [← add1]; exact h4 i _ hz 1 _ rfl
  · rw [← add2]; exact h4 i _ hz 2 _ rfl
/-- the law's state: the plant, the rule's box -/
structure SI (w W : World) (br b : Nat) (Sp : Int) (p : Pl) : Prop where
  q : QT W b p
  ok : PlOk p
  ap : Apart p
  sp : p.Sp = Sp
  cr : W.cell? ⟨br, 2, none⟩ = some (.int .i64 Sp)
  ne : br ≠ b
  hb : w.heap.size ≤ b
  be : Below w.heap.size w W
section
variable {w W W' : World} {br b : Nat} {Sp : Int} {p p' : Pl}
theorem SI.below (h : SI w W br b Sp p) (hb : Below W.heap.size W W') : SI w W' br b Sp p :=
  ⟨h.q.below hb, h.ok, h.ap, h.sp, (hb.cell (p := ⟨br, 2, none⟩) (World.block_lt_of_cell? W _ h.cr)).trans h.cr, h.ne, h.hb, below_step h.be hb⟩
theorem SI.upd (h : SI w W br b Sp p) (hu : Upd b W W') (hq : QT W' b p') (hok : PlOk p') (hap : Apart p') (hsp : p'.Sp = p.Sp) : SI w W' br b Sp p' :=
  ⟨hq, hok, hap, hsp.trans h.sp, (World.cell?_of_block (a := ⟨br, 2, none⟩) (hu.1.2 br (World.block_lt_of_cell? W _ h.cr) h.ne)).trans h.cr, h.ne, h.hb, h.be.trans (hu.2.mono h.hb)⟩
end
theorem Upd.blk {w w' : World} {b bx : Nat} {x : Obj} (hu : Upd b w w') (h : w.heap[bx]? = some x) (hne : b ≠ bx) : w'.heap[bx]? = some x :=
  (hu.1.2 bx (blk_lt h) (fun e => hne e.symm)).trans h
theorem and_zero (x u : Nat) (hx : x < 18446744073709551616) (hu : u < 18446744073709551616) (h : x &&& u = 0) : bits .and .u64 (x : Int) (u : Int) = 0 := by
  rw [bits_and_u64_nat x u hx hu, h]; rfl
set_option maxHeartbeats 4000000 in
theorem PowerSpares_any (n I Wk Sp : Int) (A : Option Addr) (len cap : Nat) (z : List (List Value)) (w : World) (hn : (Lit.int .i64 n).wf = true) (hI : (Lit.int .i64 I).wf = true) (hW : (Lit.int .i64 Wk).wf = true) (hS : (Lit.int .i64 Sp).wf = true) (hc : len ≤ cap) (hm : cap ≤ maxLen) (hr : FlatRow w A len [.int .i64, .int .u64, .int .i64] z) (hT : Tab w) :
    Calls Tryd.prog 10 #[.int .i64 n, .agg #[.int .i64 I, .int .i64 Wk, .int .i64 Sp], .slice A len cap] w fun e w' => e = .returned (.bool true) ∧ Below w.heap.size w w' := by
  have HS := Lib.hid (flatPw hr)
  have hlen : len ≤ 9223372036854775807 := by unfold maxLen at hm; omega
  have HT := Lib.hid hT
  have HW := Lib.hid (fun W => awake42_any W)
  clear hr hn hI hW hS hc hm hT
  by_cases hno : n < 1 ∨ 64 < n ∨ rightB I Wk Sp = false
  · have KN := Lib.hid (fun W => New_out n I Wk Sp W hno)
    clear hno
    go_enter Tryd.func10, Tryd.ntmps10
    go_wp2_with (first
      | (go_at_call 50; refine (KN.out _).mono ?_; rintro e w1 ⟨rfl, hb⟩; have HB := Lib.hid (below_step (below_alloc (Below.refl w.heap.size w) _) hb); clear hb)
      | (go_at_call 51; refine (HW.out _).mono ?_; rintro e w3 ⟨rfl, hb3⟩; have HB3 := Lib.hid (below_step HB.out hb3); clear hb3))
    go_ret
    exact ⟨rfl, HB3.out⟩
  · obtain ⟨N, rfl⟩ : ∃ N : Nat, n = (N : Int) := ⟨n.toNat, by omega⟩
    have hN : 1 ≤ N ∧ N ≤ 64 := by omega
    have hrb : rightB I Wk Sp = true := by
      cases hb : rightB I Wk Sp
      · exact absurd (.inr (.inr hb)) hno
      · rfl
    have KN := Lib.hid (fun W => New_q N I Wk Sp W hN hrb)
    have HOK := Lib.hid (newP_ok I Wk Sp N hrb hN)
    clear hno
    go_enter Tryd.func10, Tryd.ntmps10
    go_wp2_with (go_at_call 50; refine (KN.out _).mono ?_; rintro e w1 ⟨b, rfl, hq, hbb, hb⟩; have hcr := (hb.block w.heap.size (blk_lt (blk_new w _))).trans (blk_new w _); have HI := Lib.hid (SI.mk (w := w) hq HOK.out (fun i _ h => by (have h : (0 : Nat).testBit i = true := h); rw [Nat.zero_testBit] at h; cases h) rfl ((blk_cell hcr 2).trans rfl) (by simp at hbb; omega) (by simp at hbb; omega) (below_step (below_alloc (Below.refl w.heap.size w) _) hb)); clear hq hbb hb hcr KN)
    go_loopg [9, 10] 42 (fun kq v9 v10 w' => ∃ (i : Nat) (p : Pl), v9 = .int .u64 (p.u : Int) ∧ v10 = .int .i64 i ∧ Aside0 (i + kq = 42 ∧ i ≤ 40) ∧ Aside0 (SI w w' w.heap.size b Sp p))
    case atStart => exact ⟨0, newP I Wk Sp N, rfl, rfl, ⟨by omega, by omega⟩, ⟨HI.out⟩⟩
    case round =>
      clear HI HOK
      obtain ⟨i, p, rfl, rfl, HK, HI⟩ := hrel
      obtain ⟨k1, rfl⟩ : ∃ k1, gk = k1 + 1 := ⟨gk - 1, by have := HK.out; omega⟩
      by_cases c1 : i < len ∧ i < 40
      · have d1 : decide ((i : Int) < (len : Int)) = true := decide_eq_true (by omega)
        have d2 : decide (i < len) = true := decide_eq_true c1.1
        have d3 : decide ((i : Int) < 40) = true := decide_eq_true (by omega)
        have d4 : decide (i < 40) = true := decide_eq_true c1.2
        have HC := Lib.hid c1.2
        obtain ⟨ad, kd, s, tt, rfl, q0, q1, q2, hs⟩ := HS.out i c1.1
        have hbe := HI.out.be
        have r0 := (hbe.cell (World.block_lt_of_cell? w _ q0)).trans q0
        have r1 := (hbe.cell (World.block_lt_of_cell? w _ q1)).trans q1
        have r2 := (hbe.cell (World.block_lt_of_cell? w _ q2)).trans q2
        have x0 : (0 ≤ (i : Int) ∧ (i : Int) < (len : Int)) = True := eq_true ⟨by omega, by omega⟩
        have y0 : ((i : Int) < (len : Int)) = True := eq_true (by omega)
        have xt : ((i : Int)).toNat = i := by omega
        clear q0 q1 q2 hbe
        go_upto_region 9 with fail
        have cb := blk_new wr (.cells #[.int .i64 kd, .int .u64 (s : Int), .int .i64 tt] 77)
        have HIlt := HI.out.q.lt
        have HI2 := Lib.hid (HI.out.below (below_alloc (Below.refl _ _) (.cells #[.int .i64 kd, .int .u64 (s : Int), .int .i64 tt] 77)))
        clear HI r0 r1 r2
        have hbx := Nat.ne_of_lt HIlt
        clear HIlt
        generalize wr.alloc (.cells #[.int .i64 kd, .int .u64 (s : Int), .int .i64 tt] 77) = w2 at cb HI2 ⊢
        generalize wr.heap.size = bx at cb hbx ⊢
        have b0 := (blk_cell cb 0).trans rfl
        have b1 := (blk_cell cb 1).trans rfl
        have b2 := (blk_cell cb 2).trans rfl
        have HCB := Lib.hid cb
        have hi40 := c1.2
        clear cb
        clear HC
        have HC := Lib.hid hi40
        by_cases k0 : kd = 0
        · subst k0
          by_cases cb : s = 0 ∨ minus s (allS p.N) ≠ 0
          · go_upto_region 21 with (go_at_call 52; refine (Use_bad b s p _ HI2.out.q HI2.out.ok hs cb).mono ?_; rintro e w3 ⟨rfl, hq3, hu3⟩; have hcb := Upd.blk hu3 HCB.out hbx; clear b0 b1 b2; have b0 := (blk_cell hcb 0).trans rfl; have b1 := (blk_cell hcb 1).trans rfl; have b2 := (blk_cell hcb 2).trans rfl; clear hcb; have HI := Lib.hid (HI2.out.upd hu3 hq3 HI2.out.ok HI2.out.ap rfl); clear hq3 hu3)
            have hz := and_zero p.s p.u HI.out.ok.hs (by exact HI.out.ok.hu) (apart_zero _ _ HI.out.ok.hs (by exact HI.out.ap))
            have hz2 := and_zero p.s (awkS p p.N) HI.out.ok.hs (awkS_lt _ _) (sleep_awake _ HI.out.ok _)
            clear b0 b1 b2
            go_wp2_with (first
              | (go_at_call 56; refine (Asleep_q _ _ _ HI.out.q HI.out.ok).mono ?_; rintro e w9 ⟨rfl, rfl⟩)
              | (go_at_call 55; refine (Awake_q _ _ _ HI.out.q HI.out.ok).mono ?_; rintro e w10 ⟨rfl, hb⟩; have H9 := Lib.hid (HI.out.below hb); clear hb))
            go_roundg k1
            case measure => have := HK.out; omega
            case rel => exact ⟨i + 1, p, rfl, by go_num, ⟨by have := HK.out; have := HC.out; omega⟩, ⟨H9.out⟩⟩
          · have hs0 : s ≠ 0 := fun h => cb (.inl h)
            have hm0 : minus s (allS p.N) = 0 := Decidable.byContradiction fun h => cb (.inr h)
            clear cb
            by_cases ct : s &&& p.u = 0
            · have KU := Lib.hid (Use_yes b s p _ HI2.out.q HI2.out.ok hs hs0 hm0 ct (Tab.below HT.out HI2.out.be (Tab.lt HT.out)))
              have hok := useP_ok p s HI2.out.ok hs
              have hap := useP_apart p s HI2.out.ok hs HI2.out.ap
              have bor := bits_or_u64_nat p.u s HI2.out.ok.hu hs
              obtain ⟨p2, hp2⟩ : ∃ q, useP p s = q := ⟨_, rfl⟩
              obtain ⟨st, hst⟩ : ∃ q, (useAt p s (lenS s)).2 = q := ⟨_, rfl⟩
              rw [hp2] at hok hap KU
              rw [hst] at KU
              rw [← hok.2.1] at bor
              have HOK2 := Lib.hid hok
              have HAP2 := Lib.hid hap
              clear hok hap hp2 hst hs0 hm0 ct
              go_upto_region 21 with (go_at_call 52; refine (KU.out).mono ?_; rintro e w3 ⟨rfl, hq3, hu3⟩; have hcb := Upd.blk hu3 HCB.out hbx; clear b0 b1 b2; have b0 := (blk_cell hcb 0).trans rfl; have b1 := (blk_cell hcb 1).trans rfl; have b2 := (blk_cell hcb 2).trans rfl; clear hcb; have HI := Lib.hid (HI2.out.upd hu3 hq3 HOK2.out.1 HAP2.out HOK2.out.2.2); clear hq3 hu3)
              clear bor
              have hz := and_zero p2.s p2.u HI.out.ok.hs (by exact HI.out.ok.hu) (apart_zero _ _ HI.out.ok.hs (by exact HI.out.ap))
              have hz2 := and_zero p2.s (awkS p2 p2.N) HI.out.ok.hs (awkS_lt _ _) (sleep_awake _ HI.out.ok _)
              clear b0 b1 b2
              go_wp2_with (first
                | (go_at_call 56; refine (Asleep_q _ _ _ HI.out.q HI.out.ok).mono ?_; rintro e w9 ⟨rfl, rfl⟩)
                | (go_at_call 55; refine (Awake_q _ _ _ HI.out.q HI.out.ok).mono ?_; rintro e w10 ⟨rfl, hb⟩; have H9 := Lib.hid (HI.out.below hb); clear hb))
              go_roundg k1
              case measure => have := HK.out; omega
              case rel => exact ⟨i + 1, p2, rfl, by go_num, ⟨by have := HK.out; have := HC.out; omega⟩, ⟨H9.out⟩⟩
            · go_upto_region 21 with (go_at_call 52; refine (Use_twice b s p _ HI2.out.q HI2.out.ok hs hs0 hm0 ct).mono ?_; rintro e w3 ⟨rfl, hq3, hu3⟩; have hcb := Upd.blk hu3 HCB.out hbx; clear b0 b1 b2; have b0 := (blk_cell hcb 0).trans rfl; have b1 := (blk_cell hcb 1).trans rfl; have b2 := (blk_cell hcb 2).trans rfl; clear hcb; have HI := Lib.hid (HI2.out.upd hu3 hq3 HI2.out.ok HI2.out.ap rfl); clear hq3 hu3)
              have hz := and_zero p.s p.u HI.out.ok.hs (by exact HI.out.ok.hu) (apart_zero _ _ HI.out.ok.hs (by exact HI.out.ap))
              have hz2 := and_zero p.s (awkS p p.N) HI.out.ok.hs (awkS_lt _ _) (sleep_awake _ HI.out.ok _)
              clear b0 b1 b2
              go_wp2_with (first
                | (go_at_call 56; refine (Asleep_q _ _ _ HI.out.q HI.out.ok).mono ?_; rintro e w9 ⟨rfl, rfl⟩)
                | (go_at_call 55; refine (Awake_q _ _ _ HI.out.q HI.out.ok).mono ?_; rintro e w10 ⟨rfl, hb⟩; have H9 := Lib.hid (HI.out.below hb); clear hb))
              go_roundg k1
              case measure => have := HK.out; omega
              case rel => exact ⟨i + 1, p, rfl, by go_num, ⟨by have := HK.out; have := HC.out; omega⟩, ⟨H9.out⟩⟩
        · by_cases k1b : kd = 1
          · subst k1b
            by_cases cm : minus s p.u = 0
            · have KU := Lib.hid (Leave_yes b s p _ HI2.out.q HI2.out.ok hs cm (Tab.below HT.out HI2.out.be (Tab.lt HT.out)))
              have hok := leaveP_ok p s HI2.out.ok
              have hap := leaveP_apart p s hs HI2.out.ap
              have bor := minus_val p.u s HI2.out.ok.hu hs
              obtain ⟨p2, hp2⟩ : ∃ q, leaveP p s = q := ⟨_, rfl⟩
              rw [hp2] at hok hap KU
              rw [← hok.2.1] at bor
              have HOK2 := Lib.hid hok
              have HAP2 := Lib.hid hap
              clear hok hap hp2 cm
              go_upto_region 21 with (go_at_call 53; refine (KU.out).mono ?_; rintro e w3 ⟨rfl, hq3, hu3⟩; have hcb := Upd.blk hu3 HCB.out hbx; clear b0 b1 b2; have b0 := (blk_cell hcb 0).trans rfl; have b1 := (blk_cell hcb 1).trans rfl; have b2 := (blk_cell hcb 2).trans rfl; clear hcb; have HI := Lib.hid (HI2.out.upd hu3 hq3 HOK2.out.1 HAP2.out HOK2.out.2.2); clear hq3 hu3)
              clear bor
              have hz := and_zero p2.s p2.u HI.out.ok.hs (by exact HI.out.ok.hu) (apart_zero _ _ HI.out.ok.hs (by exact HI.out.ap))
              have hz2 := and_zero p2.s (awkS p2 p2.N) HI.out.ok.hs (awkS_lt _ _) (sleep_awake _ HI.out.ok _)
              clear b0 b1 b2
              go_wp2_with (first
                | (go_at_call 56; refine (Asleep_q _ _ _ HI.out.q HI.out.ok).mono ?_; rintro e w9 ⟨rfl, rfl⟩)
                | (go_at_call 55; refine (Awake_q _ _ _ HI.out.q HI.out.ok).mono ?_; rintro e w10 ⟨rfl, hb⟩; have H9 := Lib.hid (HI.out.below hb); clear hb))
              go_roundg k1
              case measure => have := HK.out; omega
              case rel => exact ⟨i + 1, p2, rfl, by go_num, ⟨by have := HK.out; have := HC.out; omega⟩, ⟨H9.out⟩⟩
            · go_upto_region 21 with (go_at_call 53; refine (Leave_no b s p _ HI2.out.q HI2.out.ok hs cm).mono ?_; rintro e w3 ⟨rfl, hq3, hu3⟩; have hcb := Upd.blk hu3 HCB.out hbx; clear b0 b1 b2; have b0 := (blk_cell hcb 0).trans rfl; have b1 := (blk_cell hcb 1).trans rfl; have b2 := (blk_cell hcb 2).trans rfl; clear hcb; have HI := Lib.hid (HI2.out.upd hu3 hq3 HI2.out.ok HI2.out.ap rfl); clear hq3 hu3)
              have hz := and_zero p.s p.u HI.out.ok.hs (by exact HI.out.ok.hu) (apart_zero _ _ HI.out.ok.hs (by exact HI.out.ap))
              have hz2 := and_zero p.s (awkS p p.N) HI.out.ok.hs (awkS_lt _ _) (sleep_awake _ HI.out.ok _)
              clear b0 b1 b2
              go_wp2_with (first
                | (go_at_call 56; refine (Asleep_q _ _ _ HI.out.q HI.out.ok).mono ?_; rintro e w9 ⟨rfl, rfl⟩)
                | (go_at_call 55; refine (Awake_q _ _ _ HI.out.q HI.out.ok).mono ?_; rintro e w10 ⟨rfl, hb⟩; have H9 := Lib.hid (HI.out.below hb); clear hb))
              go_roundg k1
              case measure => have := HK.out; omega
              case rel => exact ⟨i + 1, p, rfl, by go_num, ⟨by have := HK.out; have := HC.out; omega⟩, ⟨H9.out⟩⟩
          · have e0 : (kd == 0) = false := beq_false_of_ne k0
            have e1 : (kd == 1) = false := beq_false_of_ne k1b
            clear k0 k1b
            by_cases cg : tt < p.t ∨ 1099511627776 < tt
            · have hv := minus_val (awkS p p.N) p.u (awkS_lt _ _) HI2.out.ok.hu
              have hz0 : bits .and .u64 0 (p.u : Int) = 0 := and_zero 0 p.u (by decide) HI2.out.ok.hu (Nat.zero_and _)
              go_upto_region 12 with (first
                | (go_at_call 54; refine (Go_bad b p tt _ HI2.out.q HI2.out.ok cg).mono ?_; rintro e w3 ⟨rfl, rfl⟩; clear cg; have HI := Lib.hid HI2.out)
                | (go_at_call 55; refine (Awake_q _ _ _ HI.out.q HI.out.ok).mono ?_; rintro e w10 ⟨rfl, hb⟩; have H9 := Lib.hid (HI.out.below hb); clear hb HI; have HI := Lib.hid H9.out; clear H9; clear b0 b1 b2))
              refine start_ (n := 19) (S := fun w' => True) (ds := []) #[false, false, false, false, false, false, false, false, false, false, false, false, false, false, false, false, false, false, false] (by kernel_rfl) rfl rfl trivial (fun hHeld => ?_)
              have n_ := Lib.hid (HI.out.below (below_drew (Below.refl _ _)))
              clear HI
              have HI := n_
              clear n_
              generalize w10.drew = w5 at HI hHeld ⊢
              refine pure_ (i := 0) (N := some 57) (v := ?_) (a' := ?_) #[true, false, false, false, false, false, false, false, false, false, false, false, false, false, false, false, false, false, false] rfl rfl (by kernel_rfl) (fun _ _ _ h => h) (Or.inl ⟨by rfl, ?_⟩) ?_ ?_
              rotate_left
              · intro w'
                go_simp
                with_reducible rfl
              rotate_left
              · simp only [Act.put, List.setIfInBounds_toArray, List.set_cons_zero, List.set_cons_succ, i64_w, i32_w]
                rfl
              refine pure_ (i := 1) (N := some 58) (v := ?_) (a' := ?_) #[true, true, false, false, false, false, false, false, false, false, false, false, false, false, false, false, false, false, false] rfl rfl (by kernel_rfl) (fun _ _ _ h => h) (Or.inl ⟨by rfl, ?_⟩) ?_ ?_
              rotate_left
              · intro w'
                go_simp
                with_reducible rfl
              rotate_left
              · simp only [Act.put, List.setIfInBounds_toArray, List.set_cons_zero, List.set_cons_succ, i64_w, i32_w]
                rfl
              refine pure_ (i := 2) (N := some 59) (v := ?_) (a' := ?_) #[true, true, true, false, false, false, false, false, false, false, false, false, false, false, false, false, false, false, false] rfl rfl (by kernel_rfl) (fun _ _ _ h => h) (Or.inl ⟨by rfl, ?_⟩) ?_ ?_
              rotate_left
              · intro w'
                go_simp
                with_reducible rfl
              rotate_left
              · simp only [Act.put, List.setIfInBounds_toArray, List.set_cons_zero, List.set_cons_succ, i64_w, i32_w]
                rfl
              refine pure_ (i := 3) (N := some 60) (v := ?_) (a' := ?_) #[true, true, true, true, false, false, false, false, false, false, false, false, false, false, false, false, false, false, false] rfl rfl (by kernel_rfl) (fun _ _ _ h => h) (Or.inl ⟨by rfl, ?_⟩) ?_ ?_
              rotate_left
              · intro w'
                go_simp
                with_reducible rfl
              rotate_left
              · simp only [Act.put, List.setIfInBounds_toArray, List.set_cons_zero, List.set_cons_succ, i64_w, i32_w]
                rfl
              refine pure_ (i := 4) (N := some 61) (v := ?_) (a' := ?_) #[true, true, true, true, true, false, false, false, false, false, false, false, false, false, false, false, false, false, false] rfl rfl (by kernel_rfl) (fun _ _ _ h => h) (Or.inl ⟨by rfl, ?_⟩) ?_ ?_
              rotate_left
              · intro w'
                go_simp
                with_reducible rfl
              rotate_left
              · simp only [Act.put, List.setIfInBounds_toArray, List.set_cons_zero, List.set_cons_succ, i64_w, i32_w]
                rfl
              refine pure_ (i := 5) (N := some 62) (v := ?_) (a' := ?_) #[true, true, true, true, true, true, false, false, false, false, false, false, false, false, false, false, false, false, false] rfl rfl (by kernel_rfl) (fun _ _ _ h => h) (Or.inl ⟨by rfl, ?_⟩) ?_ ?_
              rotate_left
              · intro w'
                go_simp
                with_reducible rfl
              rotate_left
              · simp only [Act.put, List.setIfInBounds_toArray, List.set_cons_zero, List.set_cons_succ, i64_w, i32_w]
                rfl
              refine pure_ (i := 6) (N := some 63) (v := ?_) (a' := ?_) #[true, true, true, true, true, true, true, false, false, false, false, false, false, false, false, false, false, false, false] rfl rfl (by kernel_rfl) (fun _ _ _ h => h) (Or.inl ⟨by rfl, ?_⟩) ?_ ?_
              rotate_left
              · intro w'
                go_simp
                with_reducible rfl
              rotate_left
              · simp only [Act.put, List.setIfInBounds_toArray, List.set_cons_zero, List.set_cons_succ, i64_w, i32_w]
                rfl
              refine pure_ (i := 7) (N := some 64) (v := ?_) (a' := ?_) #[true, true, true, true, true, true, true, true, false, false, false, false, false, false, false, false, false, false, false] rfl rfl (by kernel_rfl) (fun _ _ _ h => h) (Or.inl ⟨by rfl, ?_⟩) ?_ ?_
              rotate_left
              · intro w'
                go_simp
                with_reducible rfl
              rotate_left
              · simp only [Act.put, List.setIfInBounds_toArray, List.set_cons_zero, List.set_cons_succ, i64_w, i32_w]
                rfl
              refine pure_ (i := 8) (N := some 65) (v := undef) (a' := ?_) #[true, true, true, true, true, true, true, true, true, false, false, false, false, false, false, false, false, false, false] rfl rfl (by kernel_rfl) (fun _ _ _ h => h) (Or.inr ⟨by rfl, rfl⟩) ?_ ?_
              rotate_left
              · simp only [Act.put, List.setIfInBounds_toArray, List.set_cons_zero, List.set_cons_succ, i64_w, i32_w]
                rfl
              refine pure_ (i := 9) (N := some 66) (v := undef) (a' := ?_) #[true, true, true, true, true, true, true, true, true, true, false, false, false, false, false, false, false, false, false] rfl rfl (by kernel_rfl) (fun _ _ _ h => h) (Or.inr ⟨by rfl, rfl⟩) ?_ ?_
              rotate_left
              · simp only [Act.put, List.setIfInBounds_toArray, List.set_cons_zero, List.set_cons_succ, i64_w, i32_w]
                rfl
              refine pure_ (i := 10) (N := some 67) (v := undef) (a' := ?_) #[true, true, true, true, true, true, true, true, true, true, true, false, false, false, false, false, false, false, false] rfl rfl (by kernel_rfl) (fun _ _ _ h => h) (Or.inr ⟨by rfl, rfl⟩) ?_ ?_
              rotate_left
              · simp only [Act.put, List.setIfInBounds_toArray, List.set_cons_zero, List.set_cons_succ, i64_w, i32_w]
                rfl
              refine pure_ (i := 11) (N := some 68) (v := undef) (a' := ?_) #[true, true, true, true, true, true, true, true, true, true, true, true, false, false, false, false, false, false, false] rfl rfl (by kernel_rfl) (fun _ _ _ h => h) (Or.inr ⟨by rfl, rfl⟩) ?_ ?_
              rotate_left
              · simp only [Act.put, List.setIfInBounds_toArray, List.set_cons_zero, List.set_cons_succ, i64_w, i32_w]
                rfl
              refine pure_ (i := 12) (N := some 69) (v := undef) (a' := ?_) #[true, true, true, true, true, true, true, true, true, true, true, true, true, false, false, false, false, false, false] rfl rfl (by kernel_rfl) (fun _ _ _ h => h) (Or.inr ⟨by rfl, rfl⟩) ?_ ?_
              rotate_left
              · simp only [Act.put, List.setIfInBounds_toArray, List.set_cons_zero, List.set_cons_succ, i64_w, i32_w]
                rfl
              refine pure_ (i := 13) (N := some 70) (v := undef) (a' := ?_) #[true, true, true, true, true, true, true, true, true, true, true, true, true, true, false, false, false, false, false] rfl rfl (by kernel_rfl) (fun _ _ _ h => h) (Or.inr ⟨by rfl, rfl⟩) ?_ ?_
              rotate_left
              · simp only [Act.put, List.setIfInBounds_toArray, List.set_cons_zero, List.set_cons_succ, i64_w, i32_w]
                rfl
              refine pure_ (i := 14) (N := some 71) (v := undef) (a' := ?_) #[true, true, true, true, true, true, true, true, true, true, true, true, true, true, true, false, false, false, false] rfl rfl (by kernel_rfl) (fun _ _ _ h => h) (Or.inr ⟨by rfl, rfl⟩) ?_ ?_
              rotate_left
              · simp only [Act.put, List.setIfInBounds_toArray, List.set_cons_zero, List.set_cons_succ, i64_w, i32_w]
                rfl
              refine pure_ (i := 15) (N := some 72) (v := undef) (a' := ?_) #[true, true, true, true, true, true, true, true, true, true, true, true, true, true, true, true, false, false, false] rfl rfl (by kernel_rfl) (fun _ _ _ h => h) (Or.inr ⟨by rfl, rfl⟩) ?_ ?_
              rotate_left
              · simp only [Act.put, List.setIfInBounds_toArray, List.set_cons_zero, List.set_cons_succ, i64_w, i32_w]
                rfl
              refine pure_ (i := 16) (N := some 73) (v := undef) (a' := ?_) #[true, true, true, true, true, true, true, true, true, true, true, true, true, true, true, true, true, false, false] rfl rfl (by kernel_rfl) (fun _ _ _ h => h) (Or.inr ⟨by rfl, rfl⟩) ?_ ?_
              rotate_left
              · simp only [Act.put, List.setIfInBounds_toArray, List.set_cons_zero, List.set_cons_succ, i64_w, i32_w]
                rfl
              refine pure_ (i := 17) (N := some 74) (v := ?_) (a' := ?_) #[true, true, true, true, true, true, true, true, true, true, true, true, true, true, true, true, true, true, false] rfl rfl (by kernel_rfl) (fun _ _ _ h => h) (Or.inl ⟨by rfl, ?_⟩) ?_ ?_
              rotate_left
              · intro w'
                go_simp
                with_reducible rfl
              rotate_left
              · simp only [Act.put, List.setIfInBounds_toArray, List.set_cons_zero, List.set_cons_succ, i64_w, i32_w]
                rfl
              refine pure_ (i := 18) (N := some 75) (v := ?_) (a' := ?_) #[true, true, true, true, true, true, true, true, true, true, true, true, true, true, true, true, true, true, true] rfl rfl (by kernel_rfl) (fun _ _ _ h => h) (Or.inl ⟨by rfl, ?_⟩) ?_ ?_
              rotate_left
              · intro w'
                go_simp
                with_reducible rfl
              rotate_left
              · simp only [Act.put, List.setIfInBounds_toArray, List.set_cons_zero, List.set_cons_succ, i64_w, i32_w]
                rfl
              refine done_ (by kernel_rfl) ?_
              clear hHeld
              have hz := and_zero p.s p.u HI.out.ok.hs (by exact HI.out.ok.hu) (apart_zero _ _ HI.out.ok.hs (by exact HI.out.ap))
              have hz2 := and_zero p.s (awkS p p.N) HI.out.ok.hs (awkS_lt _ _) (sleep_awake _ HI.out.ok _)
              go_wp2_with (first
                | (go_at_call 56; refine (Asleep_q _ _ _ HI.out.q HI.out.ok).mono ?_; rintro e w9 ⟨rfl, rfl⟩)
                | (go_at_call 55; refine (Awake_q _ _ _ HI.out.q HI.out.ok).mono ?_; rintro e w10 ⟨rfl, hb⟩; have H9 := Lib.hid (HI.out.below hb); clear hb))
              go_roundg k1
              case measure => have := HK.out; omega
              case rel => exact ⟨i + 1, p, rfl, by go_num, ⟨by have := HK.out; have := HC.out; omega⟩, ⟨H9.out⟩⟩
            · have g1 : p.t ≤ tt := by omega
              have g2 : tt ≤ 1099511627776 := by omega
              clear cg
              have KG := Lib.hid (Go_yes b p tt _ HI2.out.q HI2.out.ok g1 g2)
              have hgo := goO_in p tt HI2.out.ok
              have hgk := goP_ok p tt HI2.out.ok g1 g2
              have hap := goP_apart p tt HI2.out.ok HI2.out.ap
              have hfr := go_free p tt HI2.out.ok
              have hzo := apart_zero (goO p tt) p.u hgo.1 (fun i hi h => goI_bit p tt HI2.out.ok i hi (hgo.2.1 i hi h))
              have hspp := HI2.out.sp
              obtain ⟨p2, hp2⟩ : ∃ q, goP p tt = q := ⟨_, rfl⟩
              rw [hp2] at KG hgk hap hfr
              rw [← hgk.2.2.2] at hfr
              obtain ⟨O, hO⟩ : ∃ q, goO p tt = q := ⟨_, rfl⟩
              rw [hO] at KG hgo hfr hzo
              have hz0 := and_zero O p.u hgo.1 HI2.out.ok.hu hzo
              have hv := minus_val (awkS p2 p2.N) p.u (awkS_lt _ _) HI2.out.ok.hu
              rw [hfr] at hv
              obtain ⟨F, hF⟩ : ∃ q, minus (goI p tt) O = q := ⟨_, rfl⟩
              rw [hF] at hgo hv
              have hFl : F < 18446744073709551616 := by rw [← hF]; unfold goI; exact minus_lt _ _ (minus_lt _ _ (awkS_lt _ _))
              have HOK2 := Lib.hid hgk
              have HAP2 := Lib.hid hap
              have HUS := Lib.hid hgk.2.1
              have KL0 := fun W => len_any F W hFl
              obtain ⟨L, hL⟩ : ∃ q, lenS F = q := ⟨_, rfl⟩
              rw [hL] at hgo KL0
              have KL := Lib.hid KL0
              rw [hspp] at hgo
              have HGO := Lib.hid hgo.2.2
              clear hgo hgk hap hfr hzo hF hFl hO hp2 hL KL0 g1 g2 hspp
              go_upto_region 12 with (first
                | (go_at_call 54; refine KG.out.mono ?_; rintro e w3 ⟨rfl, hq3, hu3⟩; have HI := Lib.hid (HI2.out.upd hu3 hq3 HOK2.out.1 HAP2.out HOK2.out.2.2.1); clear hq3 hu3 HI2 KG)
                | (go_at_call 55; refine (Awake_q _ _ _ HI.out.q HI.out.ok).mono ?_; rintro e w10 ⟨rfl, hb⟩; have H9 := Lib.hid (HI.out.below hb); clear hb HI; have HI := Lib.hid H9.out; clear H9; clear b0 b1 b2))
              clear hv
              by_cases co : O = 0
              · have en : (((O : Nat) : Int) != 0) = false := by rw [co]; rfl
                clear co
                refine start_ (n := 19) (S := fun w' => True) (ds := []) #[false, false, false, false, false, false, false, false, false, false, false, false, false, false, false, false, false, false, false] (by kernel_rfl) rfl rfl trivial (fun hHeld => ?_)
                have n_ := Lib.hid (HI.out.below (below_drew (Below.refl _ _)))
                clear HI
                have HI := n_
                clear n_
                generalize w10.drew = w5 at HI hHeld ⊢
                refine pure_ (i := 0) (N := some 57) (v := ?_) (a' := ?_) #[true, false, false, false, false, false, false, false, false, false, false, false, false, false, false, false, false, false, false] rfl rfl (by kernel_rfl) (fun _ _ _ h => h) (Or.inl ⟨by rfl, ?_⟩) ?_ ?_
                rotate_left
                · intro w'
                  go_simp
                  with_reducible rfl
                rotate_left
                · simp only [Act.put, List.setIfInBounds_toArray, List.set_cons_zero, List.set_cons_succ, i64_w, i32_w]
                  rfl
                refine pure_ (i := 1) (N := some 58) (v := ?_) (a' := ?_) #[true, true, false, false, false, false, false, false, false, false, false, false, false, false, false, false, false, false, false] rfl rfl (by kernel_rfl) (fun _ _ _ h => h) (Or.inl ⟨by rfl, ?_⟩) ?_ ?_
                rotate_left
                · intro w'
                  go_simp
                  with_reducible rfl
                rotate_left
                · simp only [Act.put, List.setIfInBounds_toArray, List.set_cons_zero, List.set_cons_succ, i64_w, i32_w]
                  rfl
                refine pure_ (i := 2) (N := some 59) (v := ?_) (a' := ?_) #[true, true, true, false, false, false, false, false, false, false, false, false, false, false, false, false, false, false, false] rfl rfl (by kernel_rfl) (fun _ _ _ h => h) (Or.inl ⟨by rfl, ?_⟩) ?_ ?_
                rotate_left
                · intro w'
                  go_simp
                  with_reducible rfl
                rotate_left
                · simp only [Act.put, List.setIfInBounds_toArray, List.set_cons_zero, List.set_cons_succ, i64_w, i32_w]
                  rfl
                refine pure_ (i := 3) (N := some 60) (v := ?_) (a' := ?_) #[true, true, true, true, false, false, false, false, false, false, false, false, false, false, false, false, false, false, false] rfl rfl (by kernel_rfl) (fun _ _ _ h => h) (Or.inl ⟨by rfl, ?_⟩) ?_ ?_
                rotate_left
                · intro w'
                  go_simp
                  with_reducible rfl
                rotate_left
                · simp only [Act.put, List.setIfInBounds_toArray, List.set_cons_zero, List.set_cons_succ, i64_w, i32_w]
                  rfl
                refine pure_ (i := 4) (N := some 61) (v := ?_) (a' := ?_) #[true, true, true, true, true, false, false, false, false, false, false, false, false, false, false, false, false, false, false] rfl rfl (by kernel_rfl) (fun _ _ _ h => h) (Or.inl ⟨by rfl, ?_⟩) ?_ ?_
                rotate_left
                · intro w'
                  go_simp
                  with_reducible rfl
                rotate_left
                · simp only [Act.put, List.setIfInBounds_toArray, List.set_cons_zero, List.set_cons_succ, i64_w, i32_w]
                  rfl
                refine pure_ (i := 5) (N := some 62) (v := ?_) (a' := ?_) #[true, true, true, true, true, true, false, false, false, false, false, false, false, false, false, false, false, false, false] rfl rfl (by kernel_rfl) (fun _ _ _ h => h) (Or.inl ⟨by rfl, ?_⟩) ?_ ?_
                rotate_left
                · intro w'
                  go_simp
                  with_reducible rfl
                rotate_left
                · simp only [Act.put, List.setIfInBounds_toArray, List.set_cons_zero, List.set_cons_succ, i64_w, i32_w]
                  rfl
                refine pure_ (i := 6) (N := some 63) (v := ?_) (a' := ?_) #[true, true, true, true, true, true, true, false, false, false, false, false, false, false, false, false, false, false, false] rfl rfl (by kernel_rfl) (fun _ _ _ h => h) (Or.inl ⟨by rfl, ?_⟩) ?_ ?_
                rotate_left
                · intro w'
                  go_simp
                  with_reducible rfl
                rotate_left
                · simp only [Act.put, List.setIfInBounds_toArray, List.set_cons_zero, List.set_cons_succ, i64_w, i32_w]
                  rfl
                refine pure_ (i := 7) (N := some 64) (v := ?_) (a' := ?_) #[true, true, true, true, true, true, true, true, false, false, false, false, false, false, false, false, false, false, false] rfl rfl (by kernel_rfl) (fun _ _ _ h => h) (Or.inl ⟨by rfl, ?_⟩) ?_ ?_
                rotate_left
                · intro w'
                  go_simp
                  with_reducible rfl
                rotate_left
                · simp only [Act.put, List.setIfInBounds_toArray, List.set_cons_zero, List.set_cons_succ, i64_w, i32_w]
                  rfl
                refine pure_ (i := 8) (N := some 65) (v := undef) (a' := ?_) #[true, true, true, true, true, true, true, true, true, false, false, false, false, false, false, false, false, false, false] rfl rfl (by kernel_rfl) (fun _ _ _ h => h) (Or.inr ⟨by rfl, rfl⟩) ?_ ?_
                rotate_left
                · simp only [Act.put, List.setIfInBounds_toArray, List.set_cons_zero, List.set_cons_succ, i64_w, i32_w]
                  rfl
                refine pure_ (i := 9) (N := some 66) (v := undef) (a' := ?_) #[true, true, true, true, true, true, true, true, true, true, false, false, false, false, false, false, false, false, false] rfl rfl (by kernel_rfl) (fun _ _ _ h => h) (Or.inr ⟨by rfl, rfl⟩) ?_ ?_
                rotate_left
                · simp only [Act.put, List.setIfInBounds_toArray, List.set_cons_zero, List.set_cons_succ, i64_w, i32_w]
                  rfl
                refine pure_ (i := 10) (N := some 67) (v := undef) (a' := ?_) #[true, true, true, true, true, true, true, true, true, true, true, false, false, false, false, false, false, false, false] rfl rfl (by kernel_rfl) (fun _ _ _ h => h) (Or.inr ⟨by rfl, rfl⟩) ?_ ?_
                rotate_left
                · simp only [Act.put, List.setIfInBounds_toArray, List.set_cons_zero, List.set_cons_succ, i64_w, i32_w]
                  rfl
                refine pure_ (i := 11) (N := some 68) (v := undef) (a' := ?_) #[true, true, true, true, true, true, true, true, true, true, true, true, false, false, false, false, false, false, false] rfl rfl (by kernel_rfl) (fun _ _ _ h => h) (Or.inr ⟨by rfl, rfl⟩) ?_ ?_
                rotate_left
                · simp only [Act.put, List.setIfInBounds_toArray, List.set_cons_zero, List.set_cons_succ, i64_w, i32_w]
                  rfl
                refine pure_ (i := 12) (N := some 69) (v := undef) (a' := ?_) #[true, true, true, true, true, true, true, true, true, true, true, true, true, false, false, false, false, false, false] rfl rfl (by kernel_rfl) (fun _ _ _ h => h) (Or.inr ⟨by rfl, rfl⟩) ?_ ?_
                rotate_left
                · simp only [Act.put, List.setIfInBounds_toArray, List.set_cons_zero, List.set_cons_succ, i64_w, i32_w]
                  rfl
                refine pure_ (i := 13) (N := some 70) (v := undef) (a' := ?_) #[true, true, true, true, true, true, true, true, true, true, true, true, true, true, false, false, false, false, false] rfl rfl (by kernel_rfl) (fun _ _ _ h => h) (Or.inr ⟨by rfl, rfl⟩) ?_ ?_
                rotate_left
                · simp only [Act.put, List.setIfInBounds_toArray, List.set_cons_zero, List.set_cons_succ, i64_w, i32_w]
                  rfl
                refine pure_ (i := 14) (N := some 71) (v := undef) (a' := ?_) #[true, true, true, true, true, true, true, true, true, true, true, true, true, true, true, false, false, false, false] rfl rfl (by kernel_rfl) (fun _ _ _ h => h) (Or.inr ⟨by rfl, rfl⟩) ?_ ?_
                rotate_left
                · simp only [Act.put, List.setIfInBounds_toArray, List.set_cons_zero, List.set_cons_succ, i64_w, i32_w]
                  rfl
                refine pure_ (i := 15) (N := some 72) (v := undef) (a' := ?_) #[true, true, true, true, true, true, true, true, true, true, true, true, true, true, true, true, false, false, false] rfl rfl (by kernel_rfl) (fun _ _ _ h => h) (Or.inr ⟨by rfl, rfl⟩) ?_ ?_
                rotate_left
                · simp only [Act.put, List.setIfInBounds_toArray, List.set_cons_zero, List.set_cons_succ, i64_w, i32_w]
                  rfl
                refine pure_ (i := 16) (N := some 73) (v := undef) (a' := ?_) #[true, true, true, true, true, true, true, true, true, true, true, true, true, true, true, true, true, false, false] rfl rfl (by kernel_rfl) (fun _ _ _ h => h) (Or.inr ⟨by rfl, rfl⟩) ?_ ?_
                rotate_left
                · simp only [Act.put, List.setIfInBounds_toArray, List.set_cons_zero, List.set_cons_succ, i64_w, i32_w]
                  rfl
                refine pure_ (i := 17) (N := some 74) (v := ?_) (a' := ?_) #[true, true, true, true, true, true, true, true, true, true, true, true, true, true, true, true, true, true, false] rfl rfl (by kernel_rfl) (fun _ _ _ h => h) (Or.inl ⟨by rfl, ?_⟩) ?_ ?_
                rotate_left
                · intro w'
                  go_simp
                  with_reducible rfl
                rotate_left
                · simp only [Act.put, List.setIfInBounds_toArray, List.set_cons_zero, List.set_cons_succ, i64_w, i32_w]
                  rfl
                refine pure_ (i := 18) (N := some 75) (v := ?_) (a' := ?_) #[true, true, true, true, true, true, true, true, true, true, true, true, true, true, true, true, true, true, true] rfl rfl (by kernel_rfl) (fun _ _ _ h => h) (Or.inl ⟨by rfl, ?_⟩) ?_ ?_
                rotate_left
                · intro w'
                  go_simp
                  with_reducible rfl
                rotate_left
                · simp only [Act.put, List.setIfInBounds_toArray, List.set_cons_zero, List.set_cons_succ, i64_w, i32_w]
                  rfl
                refine done_ (by kernel_rfl) ?_
                clear hHeld
                have hz := and_zero p2.s p.u HI.out.ok.hs (by rw [← HUS.out]; exact HI.out.ok.hu) (apart_zero _ _ HI.out.ok.hs (by rw [← HUS.out]; exact HI.out.ap))
                have hz2 := and_zero p2.s (awkS p2 p2.N) HI.out.ok.hs (awkS_lt _ _) (sleep_awake _ HI.out.ok _)
                go_wp2_with (first
                  | (go_at_call 56; refine (Asleep_q _ _ _ HI.out.q HI.out.ok).mono ?_; rintro e w9 ⟨rfl, rfl⟩)
                  | (go_at_call 55; refine (Awake_q _ _ _ HI.out.q HI.out.ok).mono ?_; rintro e w10 ⟨rfl, hb⟩; have H9 := Lib.hid (HI.out.below hb); clear hb))
                go_roundg k1
                case measure => have := HK.out; omega
                case rel => exact ⟨i + 1, p2, by rw [HUS.out], by go_num, ⟨by have := HK.out; have := HC.out; omega⟩, ⟨H9.out⟩⟩
              · have en := (neq_b O co).1
                have dl : decide ((L : Int) < Sp) = false := decide_eq_false (by have := HGO.out co; omega)
                clear co
                refine start_ (n := 19) (S := fun w' => w'.cell? ⟨w.heap.size, 2, none⟩ = some (.int .i64 Sp)) (ds := []) #[false, false, false, false, false, false, false, false, false, false, false, false, false, false, false, false, false, false, false] (by kernel_rfl) rfl rfl (HI.out.cr) (fun hHeld => ?_)
                have n_ := Lib.hid (HI.out.below (below_drew (Below.refl _ _)))
                clear HI
                have HI := n_
                clear n_
                generalize w10.drew = w5 at HI hHeld ⊢
                refine pure_ (i := 0) (N := some 57) (v := ?_) (a' := ?_) #[true, false, false, false, false, false, false, false, false, false, false, false, false, false, false, false, false, false, false] rfl rfl (by kernel_rfl) (fun _ _ _ h => h) (Or.inl ⟨by rfl, ?_⟩) ?_ ?_
                rotate_left
                · intro w'
                  go_simp
                  with_reducible rfl
                rotate_left
                · simp only [Act.put, List.setIfInBounds_toArray, List.set_cons_zero, List.set_cons_succ, i64_w, i32_w]
                  rfl
                refine pure_ (i := 1) (N := some 58) (v := ?_) (a' := ?_) #[true, true, false, false, false, false, false, false, false, false, false, false, false, false, false, false, false, false, false] rfl rfl (by kernel_rfl) (fun _ _ _ h => h) (Or.inl ⟨by rfl, ?_⟩) ?_ ?_
                rotate_left
                · intro w'
                  go_simp
                  with_reducible rfl
                rotate_left
                · simp only [Act.put, List.setIfInBounds_toArray, List.set_cons_zero, List.set_cons_succ, i64_w, i32_w]
                  rfl
                refine pure_ (i := 2) (N := some 59) (v := ?_) (a' := ?_) #[true, true, true, false, false, false, false, false, false, false, false, false, false, false, false, false, false, false, false] rfl rfl (by kernel_rfl) (fun _ _ _ h => h) (Or.inl ⟨by rfl, ?_⟩) ?_ ?_
                rotate_left
                · intro w'
                  go_simp
                  with_reducible rfl
                rotate_left
                · simp only [Act.put, List.setIfInBounds_toArray, List.set_cons_zero, List.set_cons_succ, i64_w, i32_w]
                  rfl
                refine pure_ (i := 3) (N := some 60) (v := ?_) (a' := ?_) #[true, true, true, true, false, false, false, false, false, false, false, false, false, false, false, false, false, false, false] rfl rfl (by kernel_rfl) (fun _ _ _ h => h) (Or.inl ⟨by rfl, ?_⟩) ?_ ?_
                rotate_left
                · intro w'
                  go_simp
                  with_reducible rfl
                rotate_left
                · simp only [Act.put, List.setIfInBounds_toArray, List.set_cons_zero, List.set_cons_succ, i64_w, i32_w]
                  rfl
                refine pure_ (i := 4) (N := some 61) (v := ?_) (a' := ?_) #[true, true, true, true, true, false, false, false, false, false, false, false, false, false, false, false, false, false, false] rfl rfl (by kernel_rfl) (fun _ _ _ h => h) (Or.inl ⟨by rfl, ?_⟩) ?_ ?_
                rotate_left
                · intro w'
                  go_simp
                  with_reducible rfl
                rotate_left
                · simp only [Act.put, List.setIfInBounds_toArray, List.set_cons_zero, List.set_cons_succ, i64_w, i32_w]
                  rfl
                refine pure_ (i := 5) (N := some 62) (v := ?_) (a' := ?_) #[true, true, true, true, true, true, false, false, false, false, false, false, false, false, false, false, false, false, false] rfl rfl (by kernel_rfl) (fun _ _ _ h => h) (Or.inl ⟨by rfl, ?_⟩) ?_ ?_
                rotate_left
                · intro w'
                  go_simp
                  with_reducible rfl
                rotate_left
                · simp only [Act.put, List.setIfInBounds_toArray, List.set_cons_zero, List.set_cons_succ, i64_w, i32_w]
                  rfl
                refine pure_ (i := 6) (N := some 63) (v := ?_) (a' := ?_) #[true, true, true, true, true, true, true, false, false, false, false, false, false, false, false, false, false, false, false] rfl rfl (by kernel_rfl) (fun _ _ _ h => h) (Or.inl ⟨by rfl, ?_⟩) ?_ ?_
                rotate_left
                · intro w'
                  go_simp
                  with_reducible rfl
                rotate_left
                · simp only [Act.put, List.setIfInBounds_toArray, List.set_cons_zero, List.set_cons_succ, i64_w, i32_w]
                  rfl
                refine pure_ (i := 7) (N := some 64) (v := ?_) (a' := ?_) #[true, true, true, true, true, true, true, true, false, false, false, false, false, false, false, false, false, false, false] rfl rfl (by kernel_rfl) (fun _ _ _ h => h) (Or.inl ⟨by rfl, ?_⟩) ?_ ?_
                rotate_left
                · intro w'
                  go_simp
                  with_reducible rfl
                rotate_left
                · simp only [Act.put, List.setIfInBounds_toArray, List.set_cons_zero, List.set_cons_succ, i64_w, i32_w]
                  rfl
                refine pure_ (i := 8) (N := some 65) (v := ?_) (a' := ?_) #[true, true, true, true, true, true, true, true, true, false, false, false, false, false, false, false, false, false, false] rfl rfl (by kernel_rfl) (fun _ _ _ h => h) (Or.inl ⟨by rfl, ?_⟩) ?_ ?_
                rotate_left
                · intro w'
                  go_simp
                  with_reducible rfl
                rotate_left
                · simp only [Act.put, List.setIfInBounds_toArray, List.set_cons_zero, List.set_cons_succ, i64_w, i32_w]
                  rfl
                refine pure_ (i := 9) (N := some 66) (v := ?_) (a' := ?_) #[true, true, true, true, true, true, true, true, true, true, false, false, false, false, false, false, false, false, false] rfl rfl (by kernel_rfl) (fun _ _ _ h => h) (Or.inl ⟨by rfl, ?_⟩) ?_ ?_
                rotate_left
                · intro w'
                  go_simp
                  with_reducible rfl
                rotate_left
                · simp only [Act.put, List.setIfInBounds_toArray, List.set_cons_zero, List.set_cons_succ, i64_w, i32_w]
                  rfl
                refine pure_ (i := 10) (N := some 67) (v := ?_) (a' := ?_) #[true, true, true, true, true, true, true, true, true, true, true, false, false, false, false, false, false, false, false] rfl rfl (by kernel_rfl) (fun _ _ _ h => h) (Or.inl ⟨by rfl, ?_⟩) ?_ ?_
                rotate_left
                · intro w'
                  go_simp
                  with_reducible rfl
                rotate_left
                · simp only [Act.put, List.setIfInBounds_toArray, List.set_cons_zero, List.set_cons_succ, i64_w, i32_w]
                  rfl
                refine pure_ (i := 11) (N := some 68) (v := ?_) (a' := ?_) #[true, true, true, true, true, true, true, true, true, true, true, true, false, false, false, false, false, false, false] rfl rfl (by kernel_rfl) (fun _ _ _ h => h) (Or.inl ⟨by rfl, ?_⟩) ?_ ?_
                rotate_left
                · intro w'
                  go_simp
                  with_reducible rfl
                rotate_left
                · simp only [Act.put, List.setIfInBounds_toArray, List.set_cons_zero, List.set_cons_succ, i64_w, i32_w]
                  rfl
                refine pure_ (i := 13) (N := some 70) (v := ?_) (a' := ?_) #[true, true, true, true, true, true, true, true, true, true, true, true, false, true, false, false, false, false, false] rfl rfl (by kernel_rfl) (fun _ _ _ h => h) (Or.inl ⟨by rfl, ?_⟩) ?_ ?_
                rotate_left
                · intro w'
                  go_simp
                  with_reducible rfl
                rotate_left
                · simp only [Act.put, List.setIfInBounds_toArray, List.set_cons_zero, List.set_cons_succ, i64_w, i32_w]
                  rfl
                refine take_ (i := 14) (N := some 71) (v := ?_) (a' := ?_) #[true, true, true, true, true, true, true, true, true, true, true, true, false, true, true, false, false, false, false] rfl rfl (by kernel_rfl) (fun _ _ _ h => h) (Or.inl ⟨by rfl, ?_⟩) hHeld ?_ ?_
                rotate_left
                · intro w' s0
                  go_simp
                  with_reducible rfl
                rotate_left
                · simp only [Act.put, List.setIfInBounds_toArray, List.set_cons_zero, List.set_cons_succ, i64_w, i32_w]
                  rfl
                refine one_ (i := 12) (N := some 69) #[true, true, true, true, true, true, true, true, true, true, true, true, true, true, true, false, false, false, false] rfl rfl (by kernel_rfl) (by decide) (fun K hK => ?_)
                refine goes_ Tryd.func32 (by kernel_rfl) rfl #[.int .u64 (F : Int)] (by rfl) rfl rfl (by (try simp only [List.map_toArray, List.map_cons, List.map_nil]); first | done | rfl | (simp only [List.length_drop, List.length_take]; rfl)) ?_
                with_reducible refine (KL.out _).mono ?_
                rintro e w3 ⟨rfl, rfl⟩
                refine ⟨_, rfl, ?_⟩
                refine hK.out _ _ (HI.out.cr) (fun hHeld => ?_)
                clear hK K
                refine norm_ (a' := ?_) ?_ ?_
                rotate_left
                · show Act.put _ (some 69) _ = _
                  simp only [Act.put, List.setIfInBounds_toArray, List.set_cons_zero, List.set_cons_succ, i64_w, i32_w]
                  rfl
                refine pure_ (i := 15) (N := some 72) (v := ?_) (a' := ?_) #[true, true, true, true, true, true, true, true, true, true, true, true, true, true, true, true, false, false, false] rfl rfl (by kernel_rfl) (fun _ _ _ h => h) (Or.inl ⟨by rfl, ?_⟩) ?_ ?_
                rotate_left
                · intro w'
                  go_simp
                  with_reducible rfl
                rotate_left
                · simp only [Act.put, List.setIfInBounds_toArray, List.set_cons_zero, List.set_cons_succ, i64_w, i32_w]
                  rfl
                refine pure_ (i := 16) (N := some 73) (v := ?_) (a' := ?_) #[true, true, true, true, true, true, true, true, true, true, true, true, true, true, true, true, true, false, false] rfl rfl (by kernel_rfl) (fun _ _ _ h => h) (Or.inl ⟨by rfl, ?_⟩) ?_ ?_
                rotate_left
                · intro w'
                  go_simp
                  with_reducible rfl
                rotate_left
                · simp only [Act.put, List.setIfInBounds_toArray, List.set_cons_zero, List.set_cons_succ, i64_w, i32_w]
                  rfl
                refine pure_ (i := 17) (N := some 74) (v := ?_) (a' := ?_) #[true, true, true, true, true, true, true, true, true, true, true, true, true, true, true, true, true, true, false] rfl rfl (by kernel_rfl) (fun _ _ _ h => h) (Or.inl ⟨by rfl, ?_⟩) ?_ ?_
                rotate_left
                · intro w'
                  go_simp
                  with_reducible rfl
                rotate_left
                · simp only [Act.put, List.setIfInBounds_toArray, List.set_cons_zero, List.set_cons_succ, i64_w, i32_w]
                  rfl
                refine pure_ (i := 18) (N := some 75) (v := ?_) (a' := ?_) #[true, true, true, true, true, true, true, true, true, true, true, true, true, true, true, true, true, true, true] rfl rfl (by kernel_rfl) (fun _ _ _ h => h) (Or.inl ⟨by rfl, ?_⟩) ?_ ?_
                rotate_left
                · intro w'
                  go_simp
                  with_reducible rfl
                rotate_left
                · simp only [Act.put, List.setIfInBounds_toArray, List.set_cons_zero, List.set_cons_succ, i64_w, i32_w]
                  rfl
                refine done_ (by kernel_rfl) ?_
                clear hHeld
                have hz := and_zero p2.s p.u HI.out.ok.hs (by rw [← HUS.out]; exact HI.out.ok.hu) (apart_zero _ _ HI.out.ok.hs (by rw [← HUS.out]; exact HI.out.ap))
                have hz2 := and_zero p2.s (awkS p2 p2.N) HI.out.ok.hs (awkS_lt _ _) (sleep_awake _ HI.out.ok _)
                go_wp2_with (first
                  | (go_at_call 56; refine (Asleep_q _ _ _ HI.out.q HI.out.ok).mono ?_; rintro e w9 ⟨rfl, rfl⟩)
                  | (go_at_call 55; refine (Awake_q _ _ _ HI.out.q HI.out.ok).mono ?_; rintro e w10 ⟨rfl, hb⟩; have H9 := Lib.hid (HI.out.below hb); clear hb))
                go_roundg k1
                case measure => have := HK.out; omega
                case rel => exact ⟨i + 1, p2, by rw [HUS.out], by go_num, ⟨by have := HK.out; have := HC.out; omega⟩, ⟨H9.out⟩⟩
      · have HX := Lib.hid HI.out.be
        clear HI
        by_cases c2 : i < len
        · have c3 : i = 40 := by have := HK.out; omega
          subst c3
          have d1 : decide ((40 : Int) < (len : Int)) = true := decide_eq_true (by omega)
          have d2 : decide (40 < len) = true := decide_eq_true c2
          clear HS c1
          go_wp2_with (go_at_call 51; refine (HW.out _).mono ?_; rintro e w3 ⟨rfl, hb3⟩; have HB3 := Lib.hid (below_step HX.out hb3); clear hb3)
          go_ret
          exact ⟨rfl, HB3.out⟩
        · have d1 : decide ((i : Int) < (len : Int)) = false := decide_eq_false (by omega)
          have d2 : decide (i < len) = false := decide_eq_false c2
          clear HS c1
          go_wp2_with (go_at_call 51; refine (HW.out _).mono ?_; rintro e w3 ⟨rfl, hb3⟩; have HB3 := Lib.hid (below_step HX.out hb3); clear hb3)
          go_ret
          exact ⟨rfl, HB3.out⟩
end Go.Proofs.YtmjkgnlmdcmdbaaDoor.Power
