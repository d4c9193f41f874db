/- hist.Sound: for every list of events, it answers as the plain law does. -/
import Derived.Test.YteeaimbinhmjfaaHist1
import Derived.Test.YteeaimbinhmjfaaHistPlain
import Derived.Maps.Own
import Derived.Maps.OwnOps
import Derived.Maps.Views
import Derived.Handy
namespace Go.Proofs.Yteeaimbinhmjfaa.Hist
open Go.RowKit Go.Maps Go.Proofs.Yteeaimbinhmjfaa.Flat Go.Proofs.YteeaimbinhmjfaaW.PrintWords Go.Proofs.YteeaimbinhmjfaaW.PrintLast Go.Proofs.YteeaimbinhmjfaaW.PrintMore Go.Proofs.Hist
set_option linter.unusedVariables false
set_option linter.unusedSimpArgs false
set_option maxRecDepth 100000
def stp (z : List (List Value)) (i : Nat) : Int := iv (z.getD i []) 0
def knd (z : List (List Value)) (i : Nat) : Int := iv (z.getD i []) 1
def tsk (z : List (List Value)) (i : Nat) : Int := iv (z.getD i []) 2
def sound (z : List (List Value)) : Bool := okTo (stp z) (knd z) (tsk z) z.length
def Cm (kd tk : Nat → Int) : Nat → DataW Unit
  | 0 => .map []
  | n + 1 => if 1 ≤ kd n ∧ kd n ≤ 3 then (Cm kd tk n).put (.int .i64 (tk n)) (.lit (.int .i64 (kd n))) else Cm kd tk n
theorem Cm_map (kd tk : Nat → Int) (n : Nat) : IsMap (Cm kd tk n) := by
  induction n with
  | zero => exact ⟨_, rfl⟩
  | succ n ih =>
    rw [Cm]
    split
    · obtain ⟨es, h⟩ := ih
      rw [h]
      exact ⟨_, rfl⟩
    · exact ih
theorem Cm_at (kd tk : Nat → Int) (n : Nat) (t : Int) : (Cm kd tk n).atKey (.int .i64 t) (.lit (.int .i64 0)) = .lit (.int .i64 (lastK kd tk n t)) := by
  induction n with
  | zero => rfl
  | succ n ih =>
    rw [Cm, lastK]
    by_cases h : 1 ≤ kd n ∧ kd n ≤ 3
    · rw [if_pos h]
      by_cases ht : tk n = t
      · rw [if_pos ⟨ht, h⟩, ← ht]
        exact atKey_put_same (k := .int .i64 (tk n)) (Cm_map kd tk n) trivial _ _
      · rw [if_neg (fun c => ht c.1), atKey_put_other (fun e => ht (by injection e with _ e; exact e.symm)), ih]
    · rw [if_neg h, if_neg (fun c => h c.2), ih]
theorem law3 : Keyed Try.prog 3 := int_keyed Try.underlying3
theorem zero3 (w : World) : (zeroValue 3).run Try.prog w = .ok (.int .i64 0) w := by kernel_rfl
theorem before_succ (st : Nat → Int) (n : Nat) : before st (n + 1) = st n := rfl
set_option maxHeartbeats 2000000 in
theorem Sound_any (A : Option Addr) (c : Nat) (z : List (List Value)) (w : World) (hC : E24.C w A z.length z) (hn : z.length ≤ 64) :
    Calls Try.prog 6 #[.slice A z.length c] w fun e w' => e = .returned (.bool (sound z)) ∧ Below w.heap.size w w' := by
  have HC := Lib.hid hC
  obtain ⟨n, hnz⟩ : ∃ n, z.length = n := ⟨_, rfl⟩
  have HN := Lib.hid hnz
  rw [hnz] at HC hn ⊢
  have HLE := Lib.hid hn
  clear hC hnz
  have hmm := @run_makeMap Try.prog
  go_enter Try.func6, Try.ntmps6
  go_wp2
  go_loopg [4, 10] (n + 1) (fun kq v4 v10 w' => ∃ i : Nat, v4 = .int .i64 (before (stp z) i) ∧ v10 = .int .i64 i ∧ Aside0 (i + kq = n + 1 ∧ 1 ≤ kq) ∧ Aside0 (okTo (stp z) (knd z) (tsk z) i = true) ∧ Aside0 (w'.ownsMap Try.prog 3 (plainElem Try.prog 3) w.heap.size i (Cm (knd z) (tsk z) i)) ∧ Aside0 (Below w.heap.size w w'))
  case atStart => exact ⟨0, rfl, rfl, ⟨by omega, by omega⟩, ⟨rfl⟩, ⟨World.ownsMap_made _ _ _ _⟩, ⟨(Below.refl _ _).alloc (Nat.le_refl _) _⟩⟩
  case round =>
    obtain ⟨i, rfl, rfl, HI, HK, HM, HB⟩ := hrel
    obtain ⟨k1, rfl⟩ : ∃ k1, gk = k1 + 1 := ⟨gk - 1, by have := HI.out; omega⟩
    by_cases ci : i < n
    · have d1 : decide ((i : Int) < (n : Int)) = true := decide_eq_true (by omega)
      have d2 : decide (i < n) = true := decide_eq_true ci
      have x0 : (0 ≤ (i : Int) ∧ (i : Int) < (n : Int)) = True := eq_true ⟨by omega, by omega⟩
      have y0 : ((i : Int) < (n : Int)) = True := eq_true (by omega)
      have xt : ((i : Int)).toNat = i := by omega
      obtain ⟨ad, rfl, hL, hc0⟩ := ev_at HC.out i ci
      have hcell : Hid (∀ (W : World), Below w.heap.size w W → ∀ j u, (z.getD i [])[j]? = some u → W.cell? ((ad.add (i * 24)).add j) = some u) := Lib.hid (fun W hW j u hu => by
        have h := hc0 j u hu
        rw [add_add]
        exact (hW.cell (World.block_lt_of_cell? w _ h)).trans h)
      have q0 := (iv_is hL 0 (by omega)).1
      have q1 := (iv_is hL 1 (by omega)).1
      have q2 := (iv_is hL 2 (by omega)).1
      have hkey : keyOf Try.prog 3 (.int .i64 (tsk z i)) = some (.int .i64 (tsk z i)) := keyOf_int_mk Try.underlying3 (iv_is hL 2 (by omega)).2
      have HKW : Hid ((Lit.int .i64 (knd z i)).wf = true) := Lib.hid (iv_is hL 1 (by omega)).2
      have hat0 := Lib.hid (Cm_at (knd z) (tsk z) i (tsk z i))
      have hrg := lastK_range (knd z) (tsk z) i (tsk z i)
      have HOK : Hid (okAt (stp z) (knd z) (tsk z) i = (decide (1 ≤ knd z i) && decide (knd z i ≤ 5) && decide (before (stp z) i ≤ stp z i) && (decide (3 < knd z i) || decide (knd z i = lastK (knd z) (tsk z) i (tsk z i) + 1)))) := Lib.hid rfl
      have HCS : Hid (Cm (knd z) (tsk z) (i + 1) = if 1 ≤ knd z i ∧ knd z i ≤ 3 then (Cm (knd z) (tsk z) i).put (.int .i64 (tsk z i)) (.lit (.int .i64 (knd z i))) else Cm (knd z) (tsk z) i) := Lib.hid rfl
      have HBF : Hid (before (stp z) (i + 1) = stp z i) := Lib.hid rfl
      have HNO : Hid (okAt (stp z) (knd z) (tsk z) i = false → sound z = false) := Lib.hid (fun h => by unfold sound; rw [HN.out]; exact okTo_at _ _ _ n i h ci)
      have HYES : Hid (okAt (stp z) (knd z) (tsk z) i = true → okTo (stp z) (knd z) (tsk z) (i + 1) = true) := Lib.hid (fun h => by rw [okTo, HK.out, h]; rfl)
      have HL := Lib.hid hL
      have HQ0 : Hid ((z.getD i [])[0]? = some (.int .i64 (stp z i))) := Lib.hid q0
      have HQ1 : Hid ((z.getD i [])[1]? = some (.int .i64 (knd z i))) := Lib.hid q1
      have HQ2 : Hid ((z.getD i [])[2]? = some (.int .i64 (tsk z i))) := Lib.hid q2
      clear hL hc0 q0 q1 q2
      generalize z.getD i [] = e at hcell HL HQ0 HQ1 HQ2
      generalize stp z i = s at HOK HBF HQ0
      generalize knd z i = x at HOK HCS HQ1 HKW
      generalize tsk z i = t at hkey hat0 hrg HOK HCS HQ2
      generalize lastK (knd z) (tsk z) i t = lk at hat0 hrg HOK
      generalize before (stp z) i = b at HOK ⊢
      go_upto_region 6 with (first
        | ((with_reducible refine gate_ (.load 31 (.tmp 12)) rfl ?_); refine ev_load rfl _ rfl e (Flat.Leaves.len HL.out) rfl (hcell.out _ HB.out) ?_)
        | ((with_reducible refine gate_ (.alloc 31) rfl ?_); refine ev_alloc rfl (N := 6) rfl rfl ?_; intro g W1 hg hb1 hbb; have BK := Lib.hid hb1; have HB2 := Lib.hid (below_step HB.out hbb); have HM2 := Lib.hid (HM.out.kept (row := none) ⟨hbb.os, hbb.tape, hbb.output, hbb.size, fun k hk _ => hbb.block k hk⟩ (by simp)); have HG : Hid (w.heap.size < g) := Lib.hid (by have := HM.out.lt; omega); clear hg hb1 hbb HB HM)
        | ((with_reducible refine gate_ (.store 31 (.tmp 6) (.tmp 13)) rfl ?_); refine ev_store rfl rfl _ _ rfl e HL.out BK.out rfl rfl rfl ?_; intro W2 hb2 hbb; have BK2 := Lib.hid hb2; have HB := Lib.hid (HB2.out.grown hbb HB2.out.size (fun j hj => by cases hj; exact Nat.le_of_lt HG.out)); have HM := Lib.hid (HM2.out.kept hbb (by intro h; injection h with h; have := HG.out; omega)); clear hb2 hbb HB2 HM2 BK))
      have f0 : W2.cell? ⟨g, 0, none⟩ = some (.int .i64 s) := (blk_cell BK2.out 0).trans (by rw [List.getElem?_toArray]; exact HQ0.out)
      have f1 : W2.cell? ⟨g, 1, none⟩ = some (.int .i64 x) := (blk_cell BK2.out 1).trans (by rw [List.getElem?_toArray]; exact HQ1.out)
      have f2 : W2.cell? ⟨g, 2, none⟩ = some (.int .i64 t) := (blk_cell BK2.out 2).trans (by rw [List.getElem?_toArray]; exact HQ2.out)
      clear BK2 HQ0 HQ1 HQ2 hcell HL
      by_cases cs : s < b
      · have e1 : decide (s < b) = true := decide_eq_true cs
        have HR := Lib.hid (HNO.out (by rw [HOK.out, decide_eq_false (show ¬ b ≤ s by omega)]; simp))
        clear hrg cs HNO HOK
        go_wp2
        go_ret
        exact ⟨by rw [HR.out]; rfl, HB.out⟩
      · have e1 : decide (s < b) = false := decide_eq_false cs
        have HBS : Hid (b ≤ s) := Lib.hid (by omega)
        clear cs
        by_cases x1 : x = 1
        · subst x1
          by_cases cl : lk = 0
          · subst cl
            clear hrg HNO
            go_wp2_with (first | (at_lookup; refine wpList_lookup_own_int _ rfl _ _ 47 rfl 3 3 .i64 law3 Try.underlying47 Try.underlying3 (zero3 _) w.heap.size i _ rfl HM.out _ _ rfl hkey ?_; intro cc hat hwc; (have hcl : cc = 0 := by (have h := hat.symm.trans hat0.out; injection h with h; injection h)); subst hcl; clear hat hwc) | (at_mapUpdate; refine wpList_mapUpdate_own _ rfl _ _ _ 47 rfl 3 3 law3 Try.underlying47 _ w.heap.size i _ rfl HM.out (by have := HLE.out; unfold maxLen; omega) _ _ _ rfl rfl hkey _ [] (plainElem_int Try.underlying3 HKW.out) ?_; intro W3 hown1 hgrow1; have HM3 := Lib.hid hown1; have HB3 := Lib.hid (HB.out.grown hgrow1 HB.out.size (fun j hj => by cases hj; exact Nat.le_refl _)); clear hown1 hgrow1))
            go_roundg k1
            case measure => have := HI.out; omega
            case rel => exact ⟨i + 1, by rw [HBF.out], by go_num, ⟨by have := HI.out; omega, by have := HI.out; omega⟩, ⟨HYES.out (by rw [HOK.out, decide_eq_true HBS.out]; simp)⟩, ⟨by rw [HCS.out, if_pos (by omega)]; exact HM3.out⟩, ⟨HB3.out⟩⟩
          · have z1 : (lk != 0) = true := by simpa using cl
            have HR := Lib.hid (HNO.out (by rw [HOK.out, decide_eq_false (show ¬ ((1 : Int) = lk + 1) by omega)]; simp))
            clear hrg cl HNO HOK
            go_wp2_with (at_lookup; refine wpList_lookup_own_int _ rfl _ _ 47 rfl 3 3 .i64 law3 Try.underlying47 Try.underlying3 (zero3 _) w.heap.size i _ rfl HM.out _ _ rfl hkey ?_; intro cc hat hwc; (have hcl : cc = lk := by (have h := hat.symm.trans hat0.out; injection h with h; injection h)); subst hcl; clear hat hwc)
            go_ret
            exact ⟨by rw [HR.out]; rfl, HB.out⟩
        by_cases x2 : x = 2
        · subst x2
          by_cases cl : lk = 1
          · subst cl
            clear hrg HNO
            go_wp2_with (first | (at_lookup; refine wpList_lookup_own_int _ rfl _ _ 47 rfl 3 3 .i64 law3 Try.underlying47 Try.underlying3 (zero3 _) w.heap.size i _ rfl HM.out _ _ rfl hkey ?_; intro cc hat hwc; (have hcl : cc = 1 := by (have h := hat.symm.trans hat0.out; injection h with h; injection h)); subst hcl; clear hat hwc) | (at_mapUpdate; refine wpList_mapUpdate_own _ rfl _ _ _ 47 rfl 3 3 law3 Try.underlying47 _ w.heap.size i _ rfl HM.out (by have := HLE.out; unfold maxLen; omega) _ _ _ rfl rfl hkey _ [] (plainElem_int Try.underlying3 HKW.out) ?_; intro W3 hown1 hgrow1; have HM3 := Lib.hid hown1; have HB3 := Lib.hid (HB.out.grown hgrow1 HB.out.size (fun j hj => by cases hj; exact Nat.le_refl _)); clear hown1 hgrow1))
            go_roundg k1
            case measure => have := HI.out; omega
            case rel => exact ⟨i + 1, by rw [HBF.out], by go_num, ⟨by have := HI.out; omega, by have := HI.out; omega⟩, ⟨HYES.out (by rw [HOK.out, decide_eq_true HBS.out]; simp)⟩, ⟨by rw [HCS.out, if_pos (by omega)]; exact HM3.out⟩, ⟨HB3.out⟩⟩
          · have z1 : (lk != 1) = true := by simpa using cl
            have HR := Lib.hid (HNO.out (by rw [HOK.out, decide_eq_false (show ¬ ((2 : Int) = lk + 1) by omega)]; simp))
            clear hrg cl HNO HOK
            go_wp2_with (at_lookup; refine wpList_lookup_own_int _ rfl _ _ 47 rfl 3 3 .i64 law3 Try.underlying47 Try.underlying3 (zero3 _) w.heap.size i _ rfl HM.out _ _ rfl hkey ?_; intro cc hat hwc; (have hcl : cc = lk := by (have h := hat.symm.trans hat0.out; injection h with h; injection h)); subst hcl; clear hat hwc)
            go_ret
            exact ⟨by rw [HR.out]; rfl, HB.out⟩
        by_cases x3 : x = 3
        · subst x3
          by_cases cl : lk = 2
          · subst cl
            clear hrg HNO
            go_wp2_with (first | (at_lookup; refine wpList_lookup_own_int _ rfl _ _ 47 rfl 3 3 .i64 law3 Try.underlying47 Try.underlying3 (zero3 _) w.heap.size i _ rfl HM.out _ _ rfl hkey ?_; intro cc hat hwc; (have hcl : cc = 2 := by (have h := hat.symm.trans hat0.out; injection h with h; injection h)); subst hcl; clear hat hwc) | (at_mapUpdate; refine wpList_mapUpdate_own _ rfl _ _ _ 47 rfl 3 3 law3 Try.underlying47 _ w.heap.size i _ rfl HM.out (by have := HLE.out; unfold maxLen; omega) _ _ _ rfl rfl hkey _ [] (plainElem_int Try.underlying3 HKW.out) ?_; intro W3 hown1 hgrow1; have HM3 := Lib.hid hown1; have HB3 := Lib.hid (HB.out.grown hgrow1 HB.out.size (fun j hj => by cases hj; exact Nat.le_refl _)); clear hown1 hgrow1))
            go_roundg k1
            case measure => have := HI.out; omega
            case rel => exact ⟨i + 1, by rw [HBF.out], by go_num, ⟨by have := HI.out; omega, by have := HI.out; omega⟩, ⟨HYES.out (by rw [HOK.out, decide_eq_true HBS.out]; simp)⟩, ⟨by rw [HCS.out, if_pos (by omega)]; exact HM3.out⟩, ⟨HB3.out⟩⟩
          · have z1 : (lk != 2) = true := by simpa using cl
            have HR := Lib.hid (HNO.out (by rw [HOK.out, decide_eq_false (show ¬ ((3 : Int) = lk + 1) by omega)]; simp))
            clear hrg cl HNO HOK
            go_wp2_with (at_lookup; refine wpList_lookup_own_int _ rfl _ _ 47 rfl 3 3 .i64 law3 Try.underlying47 Try.underlying3 (zero3 _) w.heap.size i _ rfl HM.out _ _ rfl hkey ?_; intro cc hat hwc; (have hcl : cc = lk := by (have h := hat.symm.trans hat0.out; injection h with h; injection h)); subst hcl; clear hat hwc)
            go_ret
            exact ⟨by rw [HR.out]; rfl, HB.out⟩
        by_cases x4 : x = 4
        · subst x4
          clear hrg HNO x1 x2 x3
          go_wp2
          go_roundg k1
          case measure => have := HI.out; omega
          case rel => exact ⟨i + 1, by rw [HBF.out], by go_num, ⟨by have := HI.out; omega, by have := HI.out; omega⟩, ⟨HYES.out (by rw [HOK.out, decide_eq_true HBS.out]; simp)⟩, ⟨by rw [HCS.out, if_neg (by omega)]; exact HM.out.mono (Nat.le_succ _)⟩, ⟨HB.out⟩⟩
        by_cases x5 : x = 5
        · subst x5
          clear hrg HNO x1 x2 x3 x4
          go_wp2
          go_roundg k1
          case measure => have := HI.out; omega
          case rel => exact ⟨i + 1, by rw [HBF.out], by go_num, ⟨by have := HI.out; omega, by have := HI.out; omega⟩, ⟨HYES.out (by rw [HOK.out, decide_eq_true HBS.out]; simp)⟩, ⟨by rw [HCS.out, if_neg (by omega)]; exact HM.out.mono (Nat.le_succ _)⟩, ⟨HB.out⟩⟩
        have z1 : (x == 1) = false := by simpa using x1
        have z2 : (x == 2) = false := by simpa using x2
        have z3 : (x == 3) = false := by simpa using x3
        have z4 : (x == 4) = false := by simpa using x4
        have z5 : (x == 5) = false := by simpa using x5
        have HR := Lib.hid (HNO.out (by rw [HOK.out]; simp; omega))
        clear hrg x1 x2 x3 x4 x5 HNO HOK
        go_wp2
        go_ret
        exact ⟨by rw [HR.out]; rfl, HB.out⟩
    · obtain rfl : i = n := by have := HI.out; omega
      have d1 : decide ((i : Int) < (i : Int)) = false := decide_eq_false (by omega)
      have d2 : decide (i < i) = false := decide_eq_false ci
      have HR : Hid (sound z = true) := Lib.hid (by unfold sound; rw [HN.out]; exact HK.out)
      clear ci
      go_wp2
      go_ret
      exact ⟨by rw [HR.out]; rfl, HB.out⟩
end Go.Proofs.Yteeaimbinhmjfaa.Hist
