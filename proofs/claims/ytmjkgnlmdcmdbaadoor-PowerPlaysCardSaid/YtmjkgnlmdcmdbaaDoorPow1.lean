/- Law 42: numbers that are held; any plant. -/
import Derived.Test.YtmjkgnlmdcmdbaaDoorPower2
import Derived.Test.YtmjkgnlmdcmdbaaDoorEachR
namespace Go.Proofs.YtmjkgnlmdcmdbaaDoor.Power
open Go.RowKit Go.Proofs.YtmjkgnlmdcmdbaaDoorW.PrintWords Go.Proofs.YtmjkgnlmdcmdbaaDoorW.PrintLast Go.Proofs.YtmjkgnlmdcmdbaaDoorW.PrintMore Go.Proofs.YtmjkgnlmdcmdbaaDoor.Row Go.Proofs.YtmjkgnlmdcmdbaaDoor.Sets Go.Proofs.YtmjkgnlmdcmdbaaDoor.Node Go.Proofs.YtmjkgnlmdcmdbaaDoor.Each
set_option linter.unusedVariables false
set_option linter.unusedSimpArgs false
set_option maxRecDepth 100000
theorem wrapB {x y : Int} (e : x = y) (h1 : -9223372036854775808 ≤ x) (h2 : x ≤ 9223372036854775807) : wrap64 x = y ∧ IntKind.i64.wrap x = y := by
  subst e
  exact ⟨by unfold wrap64; omega, by rw [IntKind.wrap_i64]; omega⟩
/-- a sum, held -/
def addS (a b : Int) : Int := if a + b ≤ 1152921504606846976 then a + b else 1152921504606846976
theorem addS_in (a b : Int) (ha : 0 ≤ a) (hb : 0 ≤ b) : 0 ≤ addS a b ∧ addS a b ≤ 1152921504606846976 ∧ addS a b ≤ a + b := by unfold addS; split <;> omega
theorem Add2_any (g : Nat) (a b : Int) (w : World) (ha : 0 ≤ a) (ha2 : a ≤ 1152921504606846976) (hb : 0 ≤ b) (hb2 : b ≤ 1152921504606846976) (h0 : w.cell? ⟨g, 0, none⟩ = some (.int .i64 a)) (h1 : w.cell? ⟨g, 1, none⟩ = some (.int .i64 b)) :
    Calls Tryd.prog 96 #[.slice (some ⟨g, 0, none⟩) 2 2] w fun e w' => e = .returned (.int .i64 (addS a b)) ∧ w = w' := by
  have H0 := Lib.hid h0
  have H1 := Lib.hid h1
  have m1 : max a 0 = a := by omega
  have m2 : min a 1152921504606846976 = a := by omega
  have m3 : max b 0 = b := by omega
  have m4 : min b 1152921504606846976 = b := by omega
  have m5 : min (a + b) 1152921504606846976 = addS a b := by unfold addS; split <;> omega
  have WA := Lib.hid (wrapB (show a = a from rfl) (by omega) (by omega))
  have WB := Lib.hid (wrapB (show a + b = a + b from rfl) (by omega) (by omega))
  clear h0 h1 ha ha2 hb hb2
  go_enter Tryd.func96, Tryd.ntmps96
  go_wp2
  go_loopg [3, 8] 3 (fun kq v3 v8 w' => ∃ (k : Nat) (v : Int), v8 = .int .i64 k ∧ v3 = .int .i64 v ∧ Aside0 (k + kq = 3 ∧ 1 ≤ kq) ∧ Aside0 (w = w') ∧ ((k = 0 ∧ v = 0) ∨ (k = 1 ∧ v = a) ∨ (k = 2 ∧ v = addS a b)))
  case atStart => exact ⟨0, 0, rfl, rfl, ⟨by omega, by omega⟩, ⟨rfl⟩, .inl ⟨rfl, rfl⟩⟩
  case round =>
    obtain ⟨k, v, rfl, rfl, HI, HW, hk⟩ := hrel
    obtain rfl := HW.out
    obtain ⟨k1, rfl⟩ : ∃ k1, gk = k1 + 1 := ⟨gk - 1, by have := HI.out; omega⟩
    rcases hk with ⟨rfl, rfl⟩ | ⟨rfl, rfl⟩ | ⟨rfl, rfl⟩
    · have q := H0.out
      have wa := WA.out.1
      have wb := WA.out.2
      go_wp2
      clear wa wb
      go_roundg k1
      case measure => have := HI.out; omega
      case rel => exact ⟨1, a, by go_num, rfl, ⟨by have := HI.out; omega, by have := HI.out; omega⟩, ⟨rfl⟩, .inr (.inl ⟨rfl, rfl⟩)⟩
    · have q := H1.out
      have wa := WB.out.1
      have wb := WB.out.2
      go_wp2
      clear wa wb
      go_roundg k1
      case measure => have := HI.out; omega
      case rel => exact ⟨2, addS v b, by go_num, rfl, ⟨by have := HI.out; omega, by have := HI.out; omega⟩, ⟨rfl⟩, .inr (.inr ⟨rfl, rfl⟩)⟩
    · go_wp2
      go_ret
      exact ⟨rfl, rfl⟩
theorem Sub_any2 (a b : Int) (w : World) (hb : 0 ≤ b) (hab : b ≤ a) (ha : a ≤ 1152921504606846976) : Calls Tryd.prog 115 #[.int .i64 a, .int .i64 b] w fun e w' => e = .returned (.int .i64 (a - b)) ∧ w = w' := by
  have m1 : max a 0 = a := by omega
  have m2 : min a 1152921504606846976 = a := by omega
  have m3 : max b 0 = b := by omega
  have m4 : min b 1152921504606846976 = b := by omega
  have m5 : max (a - b) 0 = a - b := by omega
  have WB := wrapB (show a - b = a - b from rfl) (by omega) (by omega)
  have wa := WB.1
  have wb := WB.2
  clear WB hb hab ha
  go_enter Tryd.func115, Tryd.ntmps115
  go_wp2
  go_ret
  exact ⟨rfl, rfl⟩
theorem Mul_any2 (a b : Int) (w : World) (ha : 0 < a) (hb : 0 ≤ b) (hab : a * b ≤ 1152921504606846976) (ha2 : a ≤ 64) (hb2 : b ≤ 1099511627776) : Calls Tryd.prog 114 #[.int .i64 a, .int .i64 b] w fun e w' => e = .returned (.int .i64 (a * b)) ∧ w = w' := by
  have f1 : (a != 0) = true := by simp; omega
  have f0 : (a == 0) = false := by simp; omega
  have hq1 : (0 : Int) ≤ 1152921504606846976 / a := Int.ediv_nonneg (by omega) (by omega)
  have hq2 : (1152921504606846976 : Int) / a ≤ 1152921504606846976 := Int.ediv_le_self _ (by omega)
  have h : b ≤ 1152921504606846976 / a := (Int.le_ediv_iff_mul_le ha).2 (by rw [Int.mul_comm]; exact hab)
  have m1 : max a 0 = a := by omega
  have m2 : max b 0 = b := by omega
  have hp : 0 ≤ a * b := Int.mul_nonneg (by omega) hb
  go_enter Tryd.func114, Tryd.ntmps114
  go_wp2
  go_ret
  exact ⟨rfl, rfl⟩
theorem Area_any2 (L : Nat) (a b : Int) (w : World) (hL : L ≤ 64) (ha : 0 ≤ a) (hab : a ≤ b) (hb : b ≤ 1099511627776) : Calls Tryd.prog 97 #[.int .i64 (L : Int), .int .i64 a, .int .i64 b] w fun e w' => e = .returned (.int .i64 ((L : Int) * (b - a))) ∧ w = w' := by
  by_cases h0 : L = 0
  · subst h0
    rw [show ((0 : Nat) : Int) * (b - a) = 0 by simp]
    go_enter Tryd.func97, Tryd.ntmps97
    go_wp2; go_ret; exact ⟨rfl, rfl⟩
  · have d1 : decide ((L : Int) < 1) = false := decide_eq_false (by omega)
    have d2 : decide (L < 1) = false := decide_eq_false (by omega)
    have hm : (L : Int) * (b - a) ≤ 64 * 1099511627776 := Int.mul_le_mul (by omega) (by omega) (by omega) (by omega)
    have KS := Lib.hid (fun W => Sub_any2 b a W ha hab (by omega))
    have KM := Lib.hid (fun W => Mul_any2 (L : Int) (b - a) W (by omega) (by omega) (by omega) (by omega) (by omega))
    clear hm
    go_enter Tryd.func97, Tryd.ntmps97
    go_wp2_with (first
      | (go_at_call 115; refine (KS.out _).mono ?_; rintro e w2 ⟨rfl, rfl⟩)
      | (go_at_call 114; refine (KM.out _).mono ?_; rintro e w2 ⟨rfl, rfl⟩))
    go_ret; exact ⟨rfl, rfl⟩
end Go.Proofs.YtmjkgnlmdcmdbaaDoor.Power
