/- Law 39: New upon any rows: the walk. -/
import Derived.Test.YtmjkgnlmdcmdbaaDoorTopo6
namespace Go.Proofs.YtmjkgnlmdcmdbaaDoor.Topo
open Go.RowKit Go.Proofs.YtmjkgnlmdcmdbaaDoorW.PrintWords Go.Proofs.YtmjkgnlmdcmdbaaDoorW.PrintLast Go.Proofs.YtmjkgnlmdcmdbaaDoorW.PrintMore Go.Proofs.YtmjkgnlmdcmdbaaDoor.Row Go.Proofs.YtmjkgnlmdcmdbaaDoor.Sets Go.Proofs.YtmjkgnlmdcmdbaaDoor.Node
set_option linter.unusedVariables false
set_option linter.unusedSimpArgs false
set_option maxRecDepth 100000
set_option maxHeartbeats 1000000 in
theorem New_any (A : Option Addr) (n c : Nat) (xs : List Int) (qs : List Nat) (w : World) (hr : SwRow w A n xs qs) (hx : xs.length = n) (h1 : 1 ≤ n) (h2 : n ≤ 64) (hq : ∀ i, qs.getD i 0 < 18446744073709551616) : Calls Tryd.prog 75 #[.slice A n c] w (NewPost w n xs qs) := by
  have HR := Lib.hid hr
  have HX := Lib.hid hx
  have HQ := Lib.hid hq
  have b1 : decide ((n : Int) < 1) = false := decide_eq_false (by omega)
  have b2 : decide (64 < (n : Int)) = false := decide_eq_false (by omega)
  have b3 : decide (64 < n) = false := decide_eq_false (by omega)
  clear hr hx hq
  go_enter Tryd.func75, Tryd.ntmps75
  go_wp2
  have HT := Lib.hid (TT.new w)
  have HB := Lib.hid (below_alloc (Below.refl w.heap.size w) (.cells #[.slice none 0 0, .slice none 0 0, .slice none 0 0] 134))
  go_loopg [5, 20] (n + 1) (fun kq v5 v20 w' => ∃ (i : Nat) (va vm vd : Value), v5 = .int .u64 (allQ qs i : Nat) ∧ v20 = .int .i64 i ∧ Aside0 (i + kq = n + 1 ∧ 1 ≤ kq) ∧ Aside0 (stN xs qs i = 0) ∧ Aside0 (TT w' w.heap.size va vm vd (xs.take i) (mlN xs qs i) (dlN xs i)) ∧ Aside0 (Below w.heap.size w w'))
  case atStart => exact ⟨0, _, _, _, rfl, rfl, ⟨by omega, by omega⟩, ⟨rfl⟩, ⟨HT.out⟩, ⟨HB.out⟩⟩
  case round =>
    clear HT HB
    obtain ⟨i, va, vm, vd, rfl, rfl, HI, HS, HT, HB⟩ := hrel
    obtain ⟨k1, rfl⟩ : ∃ k1, gk = k1 + 1 := ⟨gk - 1, by have := HI.out; omega⟩
    by_cases c1 : i < n
    · have d1 : decide ((i : Int) < (n : Int)) = true := decide_eq_true (by omega)
      have d2 : decide (i < n) = true := decide_eq_true c1
      obtain ⟨ad, rfl, s0, s1⟩ := (HR.out.below HB.out) i c1
      have HC1 := Lib.hid c1
      have hsucc := stN_succ xs qs i
      rw [if_neg (by simp [HS.out])] at hsucc
      have HSC := Lib.hid hsucc
      have HQL := Lib.hid (HQ.out i)
      have HAL := Lib.hid (allQ_lt qs HQ.out i)
      have KP : Hid (okAt xs i → ∀ W, Below wr.heap.size wr W → Calls Tryd.prog 108 #[.pointer (some ⟨w.heap.size, 0, none⟩), .agg #[.int .i64 (xs.getD i 0), .int .u64 (qs.getD i 0 : Nat)]] W (PutPost w w.heap.size (xs.take (i + 1)) (mlN xs qs (i + 1)) (dlN xs (i + 1)))) := Lib.hid (fun hok W hb =>
        put_next xs qs n i w.heap.size HC1.out h2 HX.out HQ.out (dlN_in xs qs i (stN_ok xs qs i HS.out)) HS.out hok va vm vd w W (HT.out.below hb) (below_step HB.out hb) (Nat.le_refl _))
      have HOK : Hid (okAt xs i ↔ ((i = 0 ∧ xs.getD i 0 = -1) ∨ (0 < i ∧ 0 ≤ xs.getD i 0 ∧ xs.getD i 0 < (i : Int)))) := Lib.hid (by
        unfold okAt
        constructor
        · rintro (⟨rfl, h⟩ | h)
          · exact .inl ⟨rfl, h⟩
          · exact .inr h
        · rintro (⟨rfl, h⟩ | h)
          · exact .inl ⟨rfl, h⟩
          · exact .inr h)
      have HAS : Hid (allQ qs (i + 1) = allQ qs i ||| qs.getD i 0) := Lib.hid rfl
      obtain ⟨x, hxx⟩ : ∃ x, xs.getD i 0 = x := ⟨_, rfl⟩
      obtain ⟨q, hqq⟩ : ∃ q, qs.getD i 0 = q := ⟨_, rfl⟩
      obtain ⟨o, hoo⟩ : ∃ o, allQ qs i = o := ⟨_, rfl⟩
      rw [hxx] at s0 KP HOK
      rw [hqq] at s1 KP HSC HQL HAS
      rw [hoo] at HSC HAL HAS ⊢
      have band := bits_and_u64_nat q o HQL.out HAL.out
      have bor := bits_or_u64_nat o q HAL.out HQL.out
      clear hsucc hxx hqq hoo
      by_cases cok : okAt xs i
      · have KQ := Lib.hid (KP.out cok)
        have hcase := HOK.out.1 cok
        clear KP
        by_cases cz : (q &&& o) = 0
        · have z2 := (eq_b _ cz).1
          have HS2 : Hid (stN xs qs (i + 1) = 0) := Lib.hid (by rw [HSC.out, if_pos cok, if_pos cz])
          clear cz
          rcases hcase with ⟨hi, hx0⟩ | ⟨hi0, hx0, hxi⟩
          · have e0 : ((i : Int) == 0) = true := by simp; omega
            have e2 : decide (0 < (i : Int)) = false := decide_eq_false (by omega)
            have e3 : decide (0 < i) = false := decide_eq_false (by omega)
            have e1 : (x != -1) = false := by simp [hx0]
            clear hi hx0
            go_wp2_with (go_at_call 108; go_loud (refine (KQ.out _ (by first | exact below_alloc (Below.refl _ _) _ | exact ((below_alloc (Below.refl _ _) _).setCell (Nat.le_refl _) _).setCell (Nat.le_refl _) _)).mono ?_; rintro e w4 ⟨rfl, ⟨va', vm', vd', hT⟩, hB⟩; have HT1 := Lib.hid hT; have HB1 := Lib.hid hB; clear hT hB))
            go_roundg k1
            case measure => have := HI.out; omega
            case rel => exact ⟨i + 1, va', vm', vd', by rw [HAS.out], by go_num, ⟨by have := HI.out; omega, by have := HI.out; omega⟩, ⟨HS2.out⟩, ⟨HT1.out⟩, ⟨HB1.out⟩⟩
          · have e0 : ((i : Int) == 0) = false := by simp; omega
            have e2 : decide (0 < (i : Int)) = true := decide_eq_true (by omega)
            have e3 : decide (0 < i) = true := decide_eq_true (by omega)
            have e4 : decide (x < 0) = false := decide_eq_false (by omega)
            have e5 : decide ((i : Int) ≤ x) = false := decide_eq_false (by omega)
            go_wp2_with (go_at_call 108; go_loud (refine (KQ.out _ (by first | exact below_alloc (Below.refl _ _) _ | exact ((below_alloc (Below.refl _ _) _).setCell (Nat.le_refl _) _).setCell (Nat.le_refl _) _)).mono ?_; rintro e w4 ⟨rfl, ⟨va', vm', vd', hT⟩, hB⟩; have HT1 := Lib.hid hT; have HB1 := Lib.hid hB; clear hT hB))
            go_roundg k1
            case measure => have := HI.out; omega
            case rel => exact ⟨i + 1, va', vm', vd', by rw [HAS.out], by go_num, ⟨by have := HI.out; omega, by have := HI.out; omega⟩, ⟨HS2.out⟩, ⟨HT1.out⟩, ⟨HB1.out⟩⟩
        · have z2 := (neq_b _ cz).1
          have HSN : Hid (stN xs qs n = 13) := Lib.hid (by rw [stN_stays xs qs (i + 1) n (by omega) (by rw [HSC.out, if_pos cok, if_neg cz]; decide), HSC.out, if_pos cok, if_neg cz])
          clear cz
          rcases hcase with ⟨hi, hx0⟩ | ⟨hi0, hx0, hxi⟩
          · have e0 : ((i : Int) == 0) = true := by simp; omega
            have e2 : decide (0 < (i : Int)) = false := decide_eq_false (by omega)
            have e3 : decide (0 < i) = false := decide_eq_false (by omega)
            have e1 : (x != -1) = false := by simp [hx0]
            clear hi hx0
            go_wp2
            go_ret2
            exact ⟨(by first | exact below_alloc HB.out _ | exact ((below_alloc HB.out _).setCell HB.out.size _).setCell HB.out.size _), .inl ⟨by rw [HSN.out]; decide, by rw [HSN.out] <;> rfl⟩⟩
          · have e0 : ((i : Int) == 0) = false := by simp; omega
            have e2 : decide (0 < (i : Int)) = true := decide_eq_true (by omega)
            have e3 : decide (0 < i) = true := decide_eq_true (by omega)
            have e4 : decide (x < 0) = false := decide_eq_false (by omega)
            have e5 : decide ((i : Int) ≤ x) = false := decide_eq_false (by omega)
            go_wp2
            go_ret2
            exact ⟨(by first | exact below_alloc HB.out _ | exact ((below_alloc HB.out _).setCell HB.out.size _).setCell HB.out.size _), .inl ⟨by rw [HSN.out]; decide, by rw [HSN.out] <;> rfl⟩⟩
      · have HSN : Hid (stN xs qs n = 5) := Lib.hid (by rw [stN_stays xs qs (i + 1) n (by omega) (by rw [HSC.out, if_neg cok]; decide), HSC.out, if_neg cok])
        have hno := fun h => cok (HOK.out.2 h)
        clear KP
        rcases (by omega : (i = 0 ∧ x ≠ -1) ∨ (i = 0 ∧ x = -1) ∨ (0 < i ∧ x < 0) ∨ (0 < i ∧ 0 ≤ x ∧ (i : Int) ≤ x) ∨ (0 < i ∧ 0 ≤ x ∧ x < (i : Int))) with ⟨hi, hx0⟩ | h | ⟨hi, hx0⟩ | ⟨hi, hx0, hx1⟩ | h
        · have e0 : ((i : Int) == 0) = true := by simp; omega
          have e2 : decide (0 < (i : Int)) = false := decide_eq_false (by omega)
          have e3 : decide (0 < i) = false := decide_eq_false (by omega)
          have e1 : (x != -1) = true := by simpa using hx0
          clear hno hi hx0
          go_wp2
          go_ret2
          exact ⟨(by first | exact below_alloc HB.out _ | exact ((below_alloc HB.out _).setCell HB.out.size _).setCell HB.out.size _), .inl ⟨by rw [HSN.out]; decide, by rw [HSN.out] <;> rfl⟩⟩
        · exact absurd (.inl h) hno

        · have e0 : ((i : Int) == 0) = false := by simp; omega
          have e2 : decide (0 < (i : Int)) = true := decide_eq_true (by omega)
          have e3 : decide (0 < i) = true := decide_eq_true (by omega)
          have e4 : decide (x < 0) = true := decide_eq_true hx0
          clear hno
          go_wp2
          go_ret2
          exact ⟨(by first | exact below_alloc HB.out _ | exact ((below_alloc HB.out _).setCell HB.out.size _).setCell HB.out.size _), .inl ⟨by rw [HSN.out]; decide, by rw [HSN.out] <;> rfl⟩⟩
        · have e0 : ((i : Int) == 0) = false := by simp; omega
          have e2 : decide (0 < (i : Int)) = true := decide_eq_true (by omega)
          have e3 : decide (0 < i) = true := decide_eq_true (by omega)
          have e4 : decide (x < 0) = false := decide_eq_false (by omega)
          have e5 : decide ((i : Int) ≤ x) = true := decide_eq_true hx1
          clear hno
          go_wp2
          go_ret2
          exact ⟨(by first | exact below_alloc HB.out _ | exact ((below_alloc HB.out _).setCell HB.out.size _).setCell HB.out.size _), .inl ⟨by rw [HSN.out]; decide, by rw [HSN.out] <;> rfl⟩⟩
        · exact absurd (.inr h) hno
    · have d1 : decide ((i : Int) < (n : Int)) = false := decide_eq_false (by omega)
      have d2 : decide (i < n) = false := decide_eq_false c1
      obtain rfl : i = n := by have := HI.out; omega
      go_wp2
      go_ret2
      exact ⟨HB.out, .inr ⟨HS.out, w.heap.size, va, vm, vd, Nat.le_refl _, rfl, HT.out⟩⟩
end Go.Proofs.YtmjkgnlmdcmdbaaDoor.Topo
