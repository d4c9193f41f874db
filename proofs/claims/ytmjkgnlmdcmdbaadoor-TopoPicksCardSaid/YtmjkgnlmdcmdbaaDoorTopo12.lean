/- Law 39: Pick. -/
import Derived.Test.YtmjkgnlmdcmdbaaDoorTopo11
namespace Go.Proofs.YtmjkgnlmdcmdbaaDoor.Topo
open Go.RowKit Go.Proofs.YtmjkgnlmdcmdbaaDoorW.PrintWords Go.Proofs.YtmjkgnlmdcmdbaaDoorW.PrintLast Go.Proofs.YtmjkgnlmdcmdbaaDoorW.PrintMore Go.Proofs.YtmjkgnlmdcmdbaaDoor.Row Go.Proofs.YtmjkgnlmdcmdbaaDoor.Sets Go.Proofs.YtmjkgnlmdcmdbaaDoor.Node
set_option linter.unusedVariables false
set_option linter.unusedSimpArgs false
set_option maxRecDepth 100000
theorem pickStep_is (M : List Nat) (D : List Int) (s : Nat) (m best : Int) (k : Nat) : pickStep M D s m best k = if 1 ≤ m ∧ m ≤ (lenS (s &&& M.getD k 0) : Int) ∧ betterS M D s best k = true then (k : Int) else best := by
  unfold pickStep
  by_cases h : 1 ≤ m ∧ m ≤ (lenS (s &&& M.getD k 0) : Int) ∧ betterS M D s best k = true
  · rw [if_pos h, if_pos ⟨h.1, h.2.1, (betterS_iff M D s best k).1 h.2.2⟩]
  · rw [if_neg h, if_neg (fun h2 => h ⟨h2.1, h2.2.1, (betterS_iff M D s best k).2 h2.2.2⟩)]
theorem firstB_in (x : Nat) (m : Int) (h0 : 1 ≤ m) (h : m ≤ (lenS x : Int)) : firstB x m = true := by
  unfold firstB
  rw [decide_eq_true (by omega), decide_eq_true h]
  rfl
/-- what is picked -/
def PickIs (M : List Nat) (D : List Int) (s n : Nat) (m : Int) (e : Ending) : Prop :=
  (pickS M D s m n < 0 ∧ e = .returned (.tuple #[.int .u64 0, .bool false])) ∨ (∃ t : Nat, pickS M D s m n = (t : Int) ∧ t < n ∧ e = .returned (.tuple #[.int .u64 (firstS (s &&& M.getD t 0) m : Nat), .bool true]))
set_option maxHeartbeats 1000000 in
theorem Pick_any {w : World} {b n : Nat} {va vm vd : Value} {A D : List Int} {M : List Nat} (h : TT w b va vm vd A M D) (h0 : 0 < n) (hA : A.length = n) (hM : M.length = n) (hD : D.length = n) (hl : n ≤ 64) (s : Nat) (hs : s < 18446744073709551616) (hml : ∀ i, M.getD i 0 < 18446744073709551616) (m : Int) (hT : Tab w) :
    Calls Tryd.prog 81 #[.pointer (some ⟨b, 0, none⟩), .int .u64 (s : Int), .int .i64 m] w fun e w' => PickIs M D s n m e ∧ Below w.heap.size w w' := by
  have KL := Len_any h (by omega) (by omega)
  rw [hA] at KL
  have K := Lib.hid KL
  have KB : Hid (∀ (W : World) (k : Nat) (best : Int), k < n → best < (n : Int) → TT W b va vm vd A M D → Calls Tryd.prog 110 #[.pointer (some ⟨b, 0, none⟩), .int .i64 (k : Int), .int .i64 best, .int .u64 (s : Int)] W fun e w' => e = .returned (.bool (betterS M D s best k)) ∧ Below W.heap.size W w') := Lib.hid (fun W k best hk hb hT => better_any hT hM hD hl s hs hml k hk best hb)
  obtain ⟨gm, cm, hvm, _, _, _⟩ := Kd.R_form h.r1 (by simp [Sets.nums]; omega)
  have hl1 : (Sets.nums M).length = n := by simp [Sets.nums, hM]
  rw [hl1] at hvm
  subst hvm
  have HT := Lib.hid h
  have HB := Lib.hid (Below.refl w.heap.size w)
  have HM := Lib.hid hM
  have HML := Lib.hid hml
  have HTA := Lib.hid hT
  clear h KL hl1 hA hM hD hml hT
  go_enter Tryd.func81, Tryd.ntmps81
  go_wp2_with (go_at_call 82; refine K.out.mono ?_; rintro e w2 ⟨rfl, rfl⟩)
  go_loopg [8, 13] (n + 1) (fun kq v8 v13 w' => ∃ (k : Nat) (best : Int), v8 = .int .i64 best ∧ v13 = .int .i64 k ∧ Aside0 (k + kq = n + 1 ∧ 1 ≤ kq) ∧ Aside0 (best = pickS M D s m k) ∧ Aside0 (TT w' b va (.slice (some ⟨gm, 0, none⟩) n cm) vd A M D) ∧ Aside0 (Below w.heap.size w w'))
  case atStart => exact ⟨0, -1, rfl, rfl, ⟨by omega, by omega⟩, ⟨rfl⟩, ⟨HT.out⟩, ⟨HB.out⟩⟩
  case round =>
    clear HT HB
    obtain ⟨k, best, rfl, rfl, HI, HO, HT, HB⟩ := hrel
    obtain ⟨k1, rfl⟩ : ∃ k1, gk = k1 + 1 := ⟨gk - 1, by have := HI.out; omega⟩
    have hbi := pickS_in M D s m k
    rw [← HO.out] at hbi
    have c1' := HT.out.c1
    by_cases c1 : k < n
    · have d1 : decide (k < n) = true := decide_eq_true c1
      have d2 : decide ((k : Int) < (n : Int)) = true := decide_eq_true (by omega)
      have hst : pickS M D s m (k + 1) = pickStep M D s m best k := by rw [HO.out]; rfl
      rw [pickStep_is] at hst
      obtain ⟨p, hp⟩ : ∃ p, M.getD k 0 = p := ⟨_, rfl⟩
      have hpb := HML.out k
      have qa := (HT.out.at1 k (by rw [HM.out]; exact c1)).1
      rw [hp] at hpb hst qa
      have band := bits_and_u64_nat s p hs hpb
      have KL := Lib.hid (fun W => len_any (s &&& p) W (and_lt s p hs))
      obtain ⟨L, hL⟩ : ∃ l, lenS (s &&& p) = l := ⟨_, rfl⟩
      rw [hL] at KL hst
      obtain ⟨sp, hsp⟩ : ∃ sp, s &&& p = sp := ⟨_, rfl⟩
      rw [hsp] at band KL
      have KBk : Hid (∀ W, TT W b va (.slice (some ⟨gm, 0, none⟩) n cm) vd A M D → Calls Tryd.prog 110 #[.pointer (some ⟨b, 0, none⟩), .int .i64 (k : Int), .int .i64 best, .int .u64 (s : Int)] W fun e w' => e = .returned (.bool (betterS M D s best k)) ∧ Below W.heap.size W w') := Lib.hid (fun W h => KB.out W k best c1 (by omega) h)
      obtain ⟨B, hB⟩ : ∃ B, betterS M D s best k = B := ⟨_, rfl⟩
      rw [hB] at KBk hst
      have HST := Lib.hid hst
      have x0 : (0 ≤ (k : Int) ∧ (k : Int) < (n : Int)) = True := eq_true ⟨by omega, by omega⟩
      have y0 : ((k : Int) < (n : Int)) = True := eq_true (by omega)
      have xt : ((k : Int)).toNat = k := by omega
      clear hst hp hpb hL hsp hB
      by_cases e1 : 1 ≤ m
      · have e2 : decide (1 ≤ m) = true := decide_eq_true e1
        by_cases e3 : m ≤ (L : Int)
        · have e4 : decide (m ≤ (L : Int)) = true := decide_eq_true e3
          cases B with
          | true =>
            go_wp2_with (first
              | (go_at_call 32; refine (KL.out _).mono ?_; rintro e w2 ⟨rfl, rfl⟩)
              | (go_at_call 110; refine (KBk.out _ HT.out).mono ?_; rintro e w3 ⟨rfl, hb⟩; have HT1 := Lib.hid (HT.out.below hb); have HB1 := Lib.hid (below_step HB.out hb); clear hb HT HB))
            go_roundg k1
            case measure => have := HI.out; omega
            case rel => exact ⟨k + 1, k, by go_num, by go_num, ⟨by have := HI.out; omega, by have := HI.out; omega⟩, ⟨by rw [HST.out, if_pos ⟨e1, e3, by first | rfl | trivial⟩]⟩, ⟨HT1.out⟩, ⟨HB1.out⟩⟩
          | false =>
            go_wp2_with (first
              | (go_at_call 32; refine (KL.out _).mono ?_; rintro e w2 ⟨rfl, rfl⟩)
              | (go_at_call 110; refine (KBk.out _ HT.out).mono ?_; rintro e w3 ⟨rfl, hb⟩; have HT1 := Lib.hid (HT.out.below hb); have HB1 := Lib.hid (below_step HB.out hb); clear hb HT HB))
            go_roundg k1
            case measure => have := HI.out; omega
            case rel => exact ⟨k + 1, best, by go_num, by go_num, ⟨by have := HI.out; omega, by have := HI.out; omega⟩, ⟨by rw [HST.out, if_neg (fun hh => by have := hh.2.2; first | cases this | simp at this)]⟩, ⟨HT1.out⟩, ⟨HB1.out⟩⟩
        · have e4 : decide (m ≤ (L : Int)) = false := decide_eq_false e3
          go_wp2_with (go_at_call 32; refine (KL.out _).mono ?_; rintro e w2 ⟨rfl, rfl⟩)
          go_roundg k1
          case measure => have := HI.out; omega
          case rel => exact ⟨k + 1, best, by go_num, by go_num, ⟨by have := HI.out; omega, by have := HI.out; omega⟩, ⟨by rw [HST.out, if_neg (fun hh => by have := hh.2.1; omega)]⟩, ⟨HT.out⟩, ⟨HB.out⟩⟩
      · have e2 : decide (1 ≤ m) = false := decide_eq_false e1
        go_wp2_with (go_at_call 32; refine (KL.out _).mono ?_; rintro e w2 ⟨rfl, rfl⟩)
        go_roundg k1
        case measure => have := HI.out; omega
        case rel => exact ⟨k + 1, best, by go_num, by go_num, ⟨by have := HI.out; omega, by have := HI.out; omega⟩, ⟨by rw [HST.out, if_neg (fun hh => by have := hh.1; omega)]⟩, ⟨HT.out⟩, ⟨HB.out⟩⟩
    · have d1 : decide (k < n) = false := decide_eq_false c1
      have d2 : decide ((k : Int) < (n : Int)) = false := decide_eq_false (by omega)
      obtain rfl : k = n := by have := HI.out; omega
      by_cases cb : best < 0
      · have e1 : decide (best < 0) = true := decide_eq_true cb
        go_wp2
        go_ret2
        exact ⟨.inl ⟨by rw [← HO.out]; exact cb, rfl⟩, HB.out⟩
      · have e1 : decide (best < 0) = false := decide_eq_false cb
        obtain ⟨t, rfl⟩ : ∃ t : Nat, best = (t : Int) := ⟨best.toNat, by omega⟩
        have htn : t < k := by omega
        have hpi := pickS_is M D s m k (by rw [← HO.out]; omega)
        rw [← HO.out, show ((t : Int)).toNat = t by omega] at hpi
        have KF := fun W (hW : Tab W) => first_any (s &&& M.getD t 0) m W (and_lt s _ hs) hW
        rw [firstB_in _ m hpi.1 hpi.2] at KF
        obtain ⟨p, hp⟩ : ∃ p, M.getD t 0 = p := ⟨_, rfl⟩
        have hpb := HML.out t
        have qa := (HT.out.at1 t (by rw [HM.out]; exact htn)).1
        rw [hp] at hpb qa KF
        have HP := Lib.hid hp
        have band := bits_and_u64_nat s p hs hpb
        have KF1 := Lib.hid KF
        have HTB := Lib.hid (HTA.out.below HB.out HTA.out.lt)
        have x0 : (0 ≤ (t : Int) ∧ (t : Int) < (k : Int)) = True := eq_true ⟨by omega, by omega⟩
        have y0 : ((t : Int) < (k : Int)) = True := eq_true (by omega)
        have xt : ((t : Int)).toNat = t := by omega
        have HTK := Lib.hid htn
        clear hp hpb hpi KF htn
        go_wp2_with (go_at_call 19; refine (KF1.out _ HTB.out).mono ?_; rintro e w2 ⟨rfl, rfl⟩)
        go_ret2
        exact ⟨.inr ⟨t, HO.out.symm, HTK.out, by rw [HP.out]; rfl⟩, HB.out⟩
end Go.Proofs.YtmjkgnlmdcmdbaaDoor.Topo
