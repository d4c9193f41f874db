/- SetNodes: the law's walk. -/
import Derived.Test.YtmjkgnlmdcmdbaaDoorSetAwake
import Derived.Deep.CutBlock
namespace Go.Proofs.YtmjkgnlmdcmdbaaDoor.Sets
open Go.RowKit Go.Proofs.YtmjkgnlmdcmdbaaDoorW.PrintWords Go.Proofs.YtmjkgnlmdcmdbaaDoorW.PrintLast Go.Proofs.YtmjkgnlmdcmdbaaDoorW.PrintMore Go.Proofs.YtmjkgnlmdcmdbaaDoor.Row
set_option linter.unusedVariables false
set_option linter.unusedSimpArgs false
theorem u64_out (x : Int) (h : (Lit.int .u64 x).wf = true) : ∃ s : Nat, x = (s : Int) ∧ s < 18446744073709551616 := by
  have hb : 0 ≤ x ∧ x ≤ 18446744073709551615 := bounds_u64 h
  exact ⟨x.toNat, by omega, by omega⟩
def lowTo (s : Nat) : Nat → Int
  | 0 => -1
  | i + 1 => if lowTo s i < 0 ∧ s.testBit i = true then (i : Int) else lowTo s i
def highTo (s : Nat) : Nat → Int
  | 0 => -1
  | i + 1 => if s.testBit i = true then (i : Int) else highTo s i
theorem lowTo_spec (s : Nat) (i : Nat) : (lowTo s i = -1 ∧ ∀ j, j < i → s.testBit j = false) ∨ ∃ k, k < i ∧ lowTo s i = (k : Int) ∧ s.testBit k = true ∧ ∀ j, j < k → s.testBit j = false := by
  induction i with
  | zero => exact .inl ⟨rfl, fun j hj => by omega⟩
  | succ i ih =>
    rw [lowTo]
    rcases ih with ⟨h1, h2⟩ | ⟨k, hk, h1, h2, h3⟩
    · by_cases hb : s.testBit i = true
      · rw [if_pos ⟨by omega, hb⟩]
        exact .inr ⟨i, by omega, rfl, hb, h2⟩
      · rw [if_neg (fun h => hb h.2)]
        refine .inl ⟨h1, fun j hj => ?_⟩
        by_cases hji : j = i
        · subst hji; simpa using hb
        · exact h2 j (by omega)
    · rw [if_neg (by omega)]
      exact .inr ⟨k, by omega, h1, h2, h3⟩
theorem lowTo_all (s : Nat) (hs : s < 18446744073709551616) : lowTo s 64 = lowS s := by
  by_cases h0 : s = 0
  · subst h0
    rcases lowTo_spec 0 64 with ⟨h, _⟩ | ⟨k, _, _, h, _⟩
    · rw [h]; rfl
    · simp at h
  · rw [lowS_at s h0]
    obtain ⟨a, b, c, _⟩ := low_bits s h0 hs
    rcases lowTo_spec s 64 with ⟨_, h⟩ | ⟨k, hk, h1, h2, h3⟩
    · rw [h _ a] at b; cases b
    · rw [h1]
      rcases Nat.lt_trichotomy k (Lib.ctz 64 s) with h | h | h
      · rw [c k h] at h2; cases h2
      · rw [h]
      · rw [h3 _ h] at b; cases b
theorem highTo_spec (s : Nat) (i : Nat) : (highTo s i = -1 ∧ ∀ j, j < i → s.testBit j = false) ∨ ∃ k, k < i ∧ highTo s i = (k : Int) ∧ s.testBit k = true ∧ ∀ j, k < j → j < i → s.testBit j = false := by
  induction i with
  | zero => exact .inl ⟨rfl, fun j hj => by omega⟩
  | succ i ih =>
    rw [highTo]
    by_cases hb : s.testBit i = true
    · rw [if_pos hb]
      exact .inr ⟨i, by omega, rfl, hb, fun j h1 h2 => by omega⟩
    · rw [if_neg hb]
      rcases ih with ⟨h1, h2⟩ | ⟨k, hk, h1, h2, h3⟩
      · refine .inl ⟨h1, fun j hj => ?_⟩
        by_cases hji : j = i
        · subst hji; simpa using hb
        · exact h2 j (by omega)
      · refine .inr ⟨k, by omega, h1, h2, fun j hj1 hj2 => ?_⟩
        by_cases hji : j = i
        · subst hji; simpa using hb
        · exact h3 j hj1 (by omega)
theorem highTo_all (s : Nat) (hs : s < 18446744073709551616) : highTo s 64 = highS s := by
  by_cases h0 : s = 0
  · subst h0
    rcases highTo_spec 0 64 with ⟨h, _⟩ | ⟨k, _, _, h, _⟩
    · rw [h]; rfl
    · simp at h
  · unfold highS
    rw [if_neg h0]
    obtain ⟨a, b, c, d⟩ := high_bits s h0 hs
    rcases highTo_spec s 64 with ⟨_, h⟩ | ⟨k, hk, h1, h2, h3⟩
    · rw [h _ (by omega)] at c; cases c
    · rw [h1]
      rcases Nat.lt_trichotomy k (Lib.bitLen s - 1) with h | h | h
      · rw [h3 _ h (by omega)] at c; cases c
      · omega
      · rw [d k (by omega)] at h2; cases h2
/-- a set's truths, but for those of number n below i: they are b -/
def ButFor (s : Nat) (n : Int) (b : Bool) (i : Nat) (l : List Bool) : Prop := l.length = 64 ∧ ∀ j, j < 64 → l.getD j false = if (j : Int) = n ∧ j < i then b else s.testBit j
theorem ButFor.start (s : Nat) (n : Int) (b : Bool) : ButFor s n b 0 (truths s) := ⟨truths_len s, fun j hj => by rw [if_neg (by omega), truths_get s j hj]⟩
theorem ButFor.keep {s : Nat} {n : Int} {b : Bool} {i : Nat} {l : List Bool} (h : ButFor s n b i l) (hne : (i : Int) ≠ n) : ButFor s n b (i + 1) l := ⟨h.1, fun j hj => by
  rw [h.2 j hj]
  by_cases h1 : (j : Int) = n ∧ j < i
  · rw [if_pos h1, if_pos ⟨h1.1, by omega⟩]
  · rw [if_neg h1, if_neg (by omega)]⟩
theorem ButFor.put {s : Nat} {n : Int} {b : Bool} {i : Nat} {l : List Bool} (h : ButFor s n b i l) (he : (i : Int) = n) (hi : i < 64) : ButFor s n b (i + 1) (l.set i b) := ⟨by rw [List.length_set]; exact h.1, fun j hj => by
  have h2 := h.2 j hj
  rw [List.getD_eq_getElem?_getD, List.getElem?_set]
  by_cases hij : i = j
  · subst hij
    rw [if_pos rfl, if_pos (by rw [h.1]; exact hi), if_pos ⟨he, by omega⟩]
    rfl
  · rw [if_neg hij, ← List.getD_eq_getElem?_getD, h2, if_neg (by omega), if_neg (by omega)]⟩
theorem ButFor.with_ {s : Nat} {n : Int} {l : List Bool} (h : ButFor s n true 64 l) (hs : s < 18446744073709551616) : bitsOf l = withS s n :=
  eq_of_bits _ _ (bitsOf_lt l) (withS_lt s n hs) fun i hi => by
    rw [bitsOf_bit l i hi, withS_bit s n i hi, h.2 i hi]
    by_cases h1 : (i : Int) = n
    · rw [if_pos ⟨h1, hi⟩]; simp [h1]
    · rw [if_neg (fun h => h1 h.1)]; simp [h1]
theorem ButFor.without_ {s : Nat} {n : Int} {l : List Bool} (h : ButFor s n false 64 l) (hs : s < 18446744073709551616) : bitsOf l = withoutS s n :=
  eq_of_bits _ _ (bitsOf_lt l) (withoutS_lt s n hs) fun i hi => by
    rw [bitsOf_bit l i hi, withoutS_bit s n i hi, h.2 i hi]
    by_cases h1 : (i : Int) = n
    · rw [if_pos ⟨h1, hi⟩]; simp [h1]
    · rw [if_neg (fun h => h1 h.1)]; simp [h1]
set_option maxRecDepth 100000 in
set_option maxHeartbeats 2000000 in
theorem SetNodes_any (x n : Int) (w : World) (hx : (Lit.int .u64 x).wf = true) (hn : (Lit.int .i64 n).wf = true) (hT : Tab w) :
    Calls Tryd.prog 6 #[.int .u64 x, .int .i64 n] w fun e w' => e = .returned (.bool true) ∧ Below w.heap.size w w' := by
  obtain ⟨s, rfl, hs⟩ := u64_out x hx
  have HT := Lib.hid hT
  clear hx hn hT
  go_enter Tryd.func6, Tryd.ntmps6
  have tok : True := trivial
  go_wp2_with (first
    | (have _t := tok; go_at_call 28; refine (all03_any s _ hs).mono ?_; rintro e w1 ⟨ga, ca, rfl, hga, hra, hba⟩; have HGA := Lib.hid hga; have HRA := Lib.hid hra; have HBA := Lib.hid hba; clear hga hra hba tok _t)
    | (go_at_call 28; refine (all03_any s _ hs).mono ?_; rintro e w2 ⟨gb, cb, rfl, hgb, hrb, hbb⟩; have HGB := Lib.hid hgb; have HRB := Lib.hid hrb; have HBB := Lib.hid hbb; clear hgb hrb hbb))
  have HA0 := Lib.hid (HRA.out.below HBB.out HRA.out.lt)
  have HB0 := Lib.hid (HBA.out.trans (HBB.out.mono HBA.out.size))
  have HNE : Hid (ga ≠ gb) := Lib.hid (by have h1 := HGB.out; have h2 := HRA.out.lt; omega)
  have HLB : Hid (w.heap.size ≤ gb) := Lib.hid (by have h1 := HGB.out; have h2 := HBA.out.size; omega)
  clear HRA HBB HBA HGB
  go_loopg [6, 7, 8, 11] 65 (fun kq v6 v7 v8 v11 w' => ∃ (i m lo hi : Int) (la lb : List Bool), v6 = .int .i64 m ∧ v7 = .int .i64 lo ∧ v8 = .int .i64 hi ∧ v11 = .int .i64 i ∧ Aside0 (0 ≤ i ∧ i + (kq : Int) = 65 ∧ 1 ≤ kq ∧ kq ≤ 65) ∧ Aside0 (m = (rank (fun i => s.testBit i) i.toNat : Nat) ∧ lo = lowTo s i.toNat ∧ hi = highTo s i.toNat) ∧ Aside0 (0 ≤ m ∧ m ≤ i) ∧ Aside0 (ButFor s n true i.toNat la ∧ ButFor s n false i.toNat lb) ∧ Aside0 (GRow Value.bool 4 w' ga la) ∧ Aside0 (GRow Value.bool 4 w' gb lb) ∧ Aside0 (Below w.heap.size w w'))
  case atStart => exact ⟨0, 0, -1, -1, truths s, truths s, rfl, rfl, rfl, rfl, ⟨by omega⟩, ⟨rfl, rfl, rfl⟩, ⟨by omega⟩, ⟨ButFor.start s n true, ButFor.start s n false⟩, ⟨HA0.out⟩, ⟨HRB.out⟩, ⟨HB0.out⟩⟩
  case round =>
    clear HA0 HRB HB0
    obtain ⟨i, m, lo, hi, la, lb, rfl, rfl, rfl, rfl, HI, HM, HMB, HF, HA, HB, HW⟩ := hrel
    by_cases c1 : i < 64
    · have b1 : decide (i < 64) = true := decide_eq_true c1
      obtain ⟨k1, rfl⟩ : ∃ k1, gk = k1 + 1 := ⟨gk - 1, by have := HI.out; omega⟩
      have i1 : 0 ≤ i := HI.out.1
      have i0 : (0 ≤ i ∧ i < 64) = True := eq_true ⟨i1, c1⟩
      have m0 : 0 ≤ m := HMB.out.1
      have m1 : m ≤ 64 := by have := HMB.out; omega
      have HI1 : Hid (0 ≤ i + 1 ∧ i + 1 + (k1 : Int) = 65 ∧ 1 ≤ k1 ∧ k1 ≤ 65) := Lib.hid (by have := HI.out; omega)
      have hi1 : (i + 1).toNat = i.toNat + 1 := by omega
      have hh := hasS_at s i.toNat (by omega)
      rw [show ((i.toNat : Nat) : Int) = i by omega] at hh
      have hrk := rank_succ (fun i => s.testBit i) i.toNat
      have HK := Lib.hid (fun W => has03_any s i W hs)
      rw [hh] at HK
      obtain ⟨b, hb⟩ : ∃ b, s.testBit i.toNat = b := ⟨_, rfl⟩
      rw [hb] at HK
      simp only [hb] at hrk
      have HBI := Lib.hid hb
      have HRK := Lib.hid hrk
      have HII := Lib.hid hi1
      have HLA : Hid (i.toNat < la.length) := Lib.hid (by rw [HF.out.1.1]; omega)
      have HLB2 : Hid (i.toNat < lb.length) := Lib.hid (by rw [HF.out.2.1]; omega)
      have qa := HA.out.cell i.toNat HLA.out
      have fa := HA.out.soft i.toNat
      clear hb hrk hh hi1
      cases b with
      | true =>
        by_cases cl : lo < 0
        · have bl : decide (lo < 0) = true := decide_eq_true cl
          by_cases ce : i = n
          · have be : (i == n) = true := by simpa using ce
            have HE := Lib.hid ce
            clear ce
            go_upto_region 14 with (go_at_call 21; refine (HK.out _).mono ?_; rintro e w2 ⟨rfl, rfl⟩)
            have HA1 := Lib.hid (HA.out.set i.toNat true)
            have HB1 := Lib.hid (HB.out.far ⟨ga, i.toNat, none⟩ (fun h => HNE.out h.symm) (.bool true))
            have HW1 := Lib.hid (HW.out.setCell (p := ⟨ga, i.toNat, none⟩) HGA.out (.bool true))
            generalize wr.setCell ⟨ga, i.toNat, none⟩ (.bool true) = w5 at HA1 HB1 HW1 ⊢
            have qb := HB1.out.cell i.toNat HLB2.out
            have fb := HB1.out.soft i.toNat
            go_wp2
            go_roundg k1
            case measure => have := HI.out; omega
            case rel => exact ⟨i + 1, m + 1, i, i, la.set i.toNat true, lb.set i.toNat false, by go_num, by go_num, by go_num, by go_num, ⟨HI1.out⟩, ⟨by rw [HII.out, HRK.out, HM.out.1]; simp, by rw [HII.out, lowTo, ← HM.out.2.1, if_pos ⟨cl, HBI.out⟩]; omega, by rw [HII.out, highTo, if_pos HBI.out]; omega⟩, ⟨by have := HMB.out; omega⟩, ⟨by rw [HII.out]; exact HF.out.1.put (by have := HE.out; omega) (by omega), by rw [HII.out]; exact HF.out.2.put (by have := HE.out; omega) (by omega)⟩, ⟨HA1.out.far ⟨gb, i.toNat, none⟩ (fun h => HNE.out h) (.bool false)⟩, ⟨HB1.out.set i.toNat false⟩, ⟨HW1.out.setCell (p := ⟨gb, i.toNat, none⟩) HLB.out (.bool false)⟩⟩
          · have be : (i == n) = false := by simpa using ce
            have HE := Lib.hid ce
            clear ce
            go_wp2_with (go_at_call 21; refine (HK.out _).mono ?_; rintro e w2 ⟨rfl, rfl⟩)
            go_roundg k1
            case measure => have := HI.out; omega
            case rel => exact ⟨i + 1, m + 1, i, i, la, lb, by go_num, by go_num, by go_num, by go_num, ⟨HI1.out⟩, ⟨by rw [HII.out, HRK.out, HM.out.1]; simp, by rw [HII.out, lowTo, ← HM.out.2.1, if_pos ⟨cl, HBI.out⟩]; omega, by rw [HII.out, highTo, if_pos HBI.out]; omega⟩, ⟨by have := HMB.out; omega⟩, ⟨by rw [HII.out]; exact HF.out.1.keep (by have := HE.out; omega), by rw [HII.out]; exact HF.out.2.keep (by have := HE.out; omega)⟩, ⟨HA.out⟩, ⟨HB.out⟩, ⟨HW.out⟩⟩
        · have bl : decide (lo < 0) = false := decide_eq_false cl
          by_cases ce : i = n
          · have be : (i == n) = true := by simpa using ce
            have HE := Lib.hid ce
            clear ce
            go_upto_region 14 with (go_at_call 21; refine (HK.out _).mono ?_; rintro e w2 ⟨rfl, rfl⟩)
            have HA1 := Lib.hid (HA.out.set i.toNat true)
            have HB1 := Lib.hid (HB.out.far ⟨ga, i.toNat, none⟩ (fun h => HNE.out h.symm) (.bool true))
            have HW1 := Lib.hid (HW.out.setCell (p := ⟨ga, i.toNat, none⟩) HGA.out (.bool true))
            generalize wr.setCell ⟨ga, i.toNat, none⟩ (.bool true) = w5 at HA1 HB1 HW1 ⊢
            have qb := HB1.out.cell i.toNat HLB2.out
            have fb := HB1.out.soft i.toNat
            go_wp2
            go_roundg k1
            case measure => have := HI.out; omega
            case rel => exact ⟨i + 1, m + 1, lo, i, la.set i.toNat true, lb.set i.toNat false, by go_num, by go_num, by go_num, by go_num, ⟨HI1.out⟩, ⟨by rw [HII.out, HRK.out, HM.out.1]; simp, by rw [HII.out, lowTo, ← HM.out.2.1, if_neg (fun h => absurd h.1 (by omega))], by rw [HII.out, highTo, if_pos HBI.out]; omega⟩, ⟨by have := HMB.out; omega⟩, ⟨by rw [HII.out]; exact HF.out.1.put (by have := HE.out; omega) (by omega), by rw [HII.out]; exact HF.out.2.put (by have := HE.out; omega) (by omega)⟩, ⟨HA1.out.far ⟨gb, i.toNat, none⟩ (fun h => HNE.out h) (.bool false)⟩, ⟨HB1.out.set i.toNat false⟩, ⟨HW1.out.setCell (p := ⟨gb, i.toNat, none⟩) HLB.out (.bool false)⟩⟩
          · have be : (i == n) = false := by simpa using ce
            have HE := Lib.hid ce
            clear ce
            go_wp2_with (go_at_call 21; refine (HK.out _).mono ?_; rintro e w2 ⟨rfl, rfl⟩)
            go_roundg k1
            case measure => have := HI.out; omega
            case rel => exact ⟨i + 1, m + 1, lo, i, la, lb, by go_num, by go_num, by go_num, by go_num, ⟨HI1.out⟩, ⟨by rw [HII.out, HRK.out, HM.out.1]; simp, by rw [HII.out, lowTo, ← HM.out.2.1, if_neg (fun h => absurd h.1 (by omega))], by rw [HII.out, highTo, if_pos HBI.out]; omega⟩, ⟨by have := HMB.out; omega⟩, ⟨by rw [HII.out]; exact HF.out.1.keep (by have := HE.out; omega), by rw [HII.out]; exact HF.out.2.keep (by have := HE.out; omega)⟩, ⟨HA.out⟩, ⟨HB.out⟩, ⟨HW.out⟩⟩
      | false =>
        by_cases ce : i = n
        · have be : (i == n) = true := by simpa using ce
          have HE := Lib.hid ce
          clear ce
          go_upto_region 14 with (go_at_call 21; refine (HK.out _).mono ?_; rintro e w2 ⟨rfl, rfl⟩)
          have HA1 := Lib.hid (HA.out.set i.toNat true)
          have HB1 := Lib.hid (HB.out.far ⟨ga, i.toNat, none⟩ (fun h => HNE.out h.symm) (.bool true))
          have HW1 := Lib.hid (HW.out.setCell (p := ⟨ga, i.toNat, none⟩) HGA.out (.bool true))
          generalize wr.setCell ⟨ga, i.toNat, none⟩ (.bool true) = w5 at HA1 HB1 HW1 ⊢
          have qb := HB1.out.cell i.toNat HLB2.out
          have fb := HB1.out.soft i.toNat
          go_wp2
          go_roundg k1
          case measure => have := HI.out; omega
          case rel => exact ⟨i + 1, m, lo, hi, la.set i.toNat true, lb.set i.toNat false, by go_num, by go_num, by go_num, by go_num, ⟨HI1.out⟩, ⟨by rw [HII.out, HRK.out, HM.out.1]; simp, by rw [HII.out, lowTo, if_neg (fun h => by rw [HBI.out] at h; cases h.2), HM.out.2.1], by rw [HII.out, highTo, if_neg (fun h => by rw [HBI.out] at h; cases h), HM.out.2.2]⟩, ⟨by have := HMB.out; omega⟩, ⟨by rw [HII.out]; exact HF.out.1.put (by have := HE.out; omega) (by omega), by rw [HII.out]; exact HF.out.2.put (by have := HE.out; omega) (by omega)⟩, ⟨HA1.out.far ⟨gb, i.toNat, none⟩ (fun h => HNE.out h) (.bool false)⟩, ⟨HB1.out.set i.toNat false⟩, ⟨HW1.out.setCell (p := ⟨gb, i.toNat, none⟩) HLB.out (.bool false)⟩⟩
        · have be : (i == n) = false := by simpa using ce
          have HE := Lib.hid ce
          clear ce
          go_wp2_with (go_at_call 21; refine (HK.out _).mono ?_; rintro e w2 ⟨rfl, rfl⟩)
          go_roundg k1
          case measure => have := HI.out; omega
          case rel => exact ⟨i + 1, m, lo, hi, la, lb, by go_num, by go_num, by go_num, by go_num, ⟨HI1.out⟩, ⟨by rw [HII.out, HRK.out, HM.out.1]; simp, by rw [HII.out, lowTo, if_neg (fun h => by rw [HBI.out] at h; cases h.2), HM.out.2.1], by rw [HII.out, highTo, if_neg (fun h => by rw [HBI.out] at h; cases h), HM.out.2.2]⟩, ⟨by have := HMB.out; omega⟩, ⟨by rw [HII.out]; exact HF.out.1.keep (by have := HE.out; omega), by rw [HII.out]; exact HF.out.2.keep (by have := HE.out; omega)⟩, ⟨HA.out⟩, ⟨HB.out⟩, ⟨HW.out⟩⟩
    · have b1 : decide (i < 64) = false := decide_eq_false c1
      obtain rfl : i = 64 := by have := HI.out; omega
      have hA := HF.out.1.with_ hs
      have hB := HF.out.2.without_ hs
      have KA := Lib.hid (fun c => of03_any (some ⟨ga, 0, none⟩) c la wr HA.out.rds HF.out.1.1)
      have KB := Lib.hid (fun c => of03_any (some ⟨gb, 0, none⟩) c lb wr HB.out.rds HF.out.2.1)
      rw [hA] at KA
      rw [hB] at KB
      have KL := Lib.hid (len_any s wr hs)
      have KO := Lib.hid (low_any s wr hs (HT.out.below HW.out HT.out.lt))
      have KH := Lib.hid (high_any s wr hs)
      have KW := Lib.hid (awake03_any wr (HT.out.below HW.out HT.out.lt))
      have hm1 : m = (lenS s : Nat) := HM.out.1
      have hm2 : lo = lowS s := HM.out.2.1.trans (lowTo_all s hs)
      have hm3 : hi = highS s := HM.out.2.2.trans (highTo_all s hs)
      rw [← hm1] at KL
      rw [← hm2] at KO
      rw [← hm3] at KH
      clear hm1 hm2 hm3 hA hB
      obtain ⟨h, hh⟩ : ∃ h, hasS s n = h := ⟨_, rfl⟩
      have K1 := Lib.hid (has_any s n wr hs)
      have K2 := Lib.hid (has03_any s n wr hs)
      rw [hh] at K1 K2
      clear hh
      have hbb : (h == h) = true := by simp
      go_wp2_with (first
        | (go_at_call 29; refine K1.out.mono ?_; rintro e w2 ⟨rfl, rfl⟩)
        | (go_at_call 21; refine K2.out.mono ?_; rintro e w2 ⟨rfl, rfl⟩)
        | (go_at_call 30; refine (with_any s n wr hs).mono ?_; rintro e w2 ⟨rfl, rfl⟩)
        | (go_at_call 31; refine (without_any s n wr hs).mono ?_; rintro e w2 ⟨rfl, rfl⟩)
        | (go_at_call 23; (with_reducible refine (KA.out _).mono ?_); rintro e w2 ⟨rfl, rfl⟩)
        | (go_at_call 23; (with_reducible refine (KB.out _).mono ?_); rintro e w2 ⟨rfl, rfl⟩)
        | (go_at_call 32; refine KL.out.mono ?_; rintro e w2 ⟨rfl, rfl⟩)
        | (go_at_call 33; refine KO.out.mono ?_; rintro e w2 ⟨rfl, rfl⟩)
        | (go_at_call 34; refine KH.out.mono ?_; rintro e w2 ⟨rfl, rfl⟩)
        | (go_at_call 22; refine KW.out.mono ?_; rintro e w3 ⟨rfl, hb3⟩))
      go_ret
      exact ⟨rfl, below_step HW.out hb3⟩
end Go.Proofs.YtmjkgnlmdcmdbaaDoor.Sets
