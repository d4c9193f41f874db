/- Law 3's own functions, and a set's list, by hand walks. -/
import Derived.Test.YtmjkgnlmdcmdbaaDoorSets3
import Derived.Deep.DeepCutAuto
namespace Go.Proofs.YtmjkgnlmdcmdbaaDoor.Sets
open Go.RowKit Go.Proofs.YtmjkgnlmdcmdbaaDoorW.PrintWords Go.Proofs.YtmjkgnlmdcmdbaaDoorW.PrintLast Go.Proofs.YtmjkgnlmdcmdbaaDoorW.PrintMore Go.Proofs.YtmjkgnlmdcmdbaaDoor.Row
set_option linter.unusedVariables false
set_option linter.unusedSimpArgs false
theorem half_val (s k : Nat) : (((s / 2 ^ k : Nat) : Int) / 2) = ((s / 2 ^ (k + 1) : Nat) : Int) := by
  rw [Nat.pow_succ, ← Nat.div_div_eq_div_mul]
  omega
set_option maxRecDepth 100000 in
theorem has03_any (s : Nat) (n : Int) (w : World) (hs : s < 18446744073709551616) :
    Calls Tryd.prog 21 #[.int .u64 s, .int .i64 n] w fun e w' => e = .returned (.bool (hasS s n)) ∧ w = w' := by
  rcases (by omega : n < 0 ∨ (0 ≤ n ∧ 63 < n) ∨ (0 ≤ n ∧ n ≤ 63)) with h | ⟨h0, h⟩ | ⟨h0, h1⟩
  · rw [hasS_out s n (.inl h)]
    have b1 : decide (n < 0) = true := decide_eq_true h
    go_enter Tryd.func21, Tryd.ntmps21
    go_wp2; go_ret; exact ⟨rfl, rfl⟩
  · rw [hasS_out s n (.inr (by omega))]
    have b1 : decide (n < 0) = false := decide_eq_false (by omega)
    have b2 : decide (63 < n) = true := decide_eq_true h
    go_enter Tryd.func21, Tryd.ntmps21
    go_wp2; go_ret; exact ⟨rfl, rfl⟩
  · have b1 : decide (n < 0) = false := decide_eq_false (by omega)
    have b2 : decide (63 < n) = false := decide_eq_false (by omega)
    obtain ⟨m, rfl⟩ := Int.eq_ofNat_of_zero_le h0
    rw [hasS_at s m (by omega)]
    go_enter Tryd.func21, Tryd.ntmps21
    go_wp2
    go_loop [0, 5] (fun v0 v5 => ∃ (t k : Nat), v0 = .int .u64 t ∧ v5 = .int .i64 k ∧ Aside0 (t = s / 2 ^ k) ∧ k ≤ m ∧ t < 18446744073709551616) (fun _ v5 => m - (intOf v5).toNat)
    case atStart => exact ⟨s, 0, rfl, rfl, ⟨by simp⟩, by omega, hs⟩
    case round =>
      obtain ⟨t, k, rfl, rfl, HT, hk, ht⟩ := hrel
      by_cases c1 : k < m
      · have b3 : decide (k < m) = true := decide_eq_true c1
        go_wp2
        go_round
        case rel => exact ⟨t / 2, k + 1, by first | rfl | (simp; done) | (congr 1; omega), by go_num, ⟨by rw [HT.out, Nat.pow_succ, Nat.div_div_eq_div_mul]⟩, by omega, by omega⟩
        case measure => simp [intOf]; omega
      · have b3 : decide (k < m) = false := decide_eq_false c1
        obtain rfl : k = m := by omega
        have e : ((t : Int) % 2 == 1) = s.testBit k := by
          rw [Nat.testBit_eq_decide_div_mod_eq, HT.out]
          by_cases h1 : s / 2 ^ k % 2 = 1
          · rw [h1]
            have : ((s / 2 ^ k : Nat) : Int) % 2 = 1 := by omega
            rw [this]; rfl
          · have h2 : ((s / 2 ^ k : Nat) : Int) % 2 = 0 := by omega
            rw [h2]; simp [h1]
        have E := Lib.hid e
        clear e
        go_wp2
        go_ret
        exact ⟨by rw [← E.out]; rfl, rfl⟩
/-- what a list of 64 truths is -/
def bitsOf (l : List Bool) : Nat := ofB (fun i => l.getD i false) 64
theorem bitsOf_lt (l : List Bool) : bitsOf l < 18446744073709551616 := by
  have := ofB_lt (fun i => l.getD i false) 64
  unfold bitsOf
  omega
theorem bitsOf_bit (l : List Bool) (i : Nat) (hi : i < 64) : (bitsOf l).testBit i = l.getD i false := by
  unfold bitsOf
  rw [ofB_bit]
  simp [hi]
set_option maxRecDepth 100000 in
theorem of03_any (A : Option Addr) (c : Nat) (l : List Bool) (w : World) (hr : Rds Value.bool w A l) (hl : l.length = 64) :
    Calls Tryd.prog 23 #[.slice A 64 c] w fun e w' => e = .returned (.int .u64 (bitsOf l : Nat)) ∧ w = w' := by
  have HR := Lib.hid hr
  have HL := Lib.hid hl
  clear hr hl
  go_enter Tryd.func23, Tryd.ntmps23
  go_wp2
  go_loop [3, 4, 5] (fun v3 v4 v5 => ∃ (i : Int) (t u : Nat), v3 = .int .u64 t ∧ v4 = .int .u64 u ∧ v5 = .int .i64 i ∧ Aside0 (0 ≤ i ∧ i ≤ 64 ∧ t = ofB (fun i => l.getD i false) i.toNat ∧ u = 2 ^ i.toNat % 18446744073709551616)) (fun _ _ v5 => 64 - (intOf v5).toNat)
  case atStart => exact ⟨0, 0, 1, rfl, rfl, rfl, ⟨by omega, by omega, rfl, rfl⟩⟩
  case round =>
    obtain ⟨i, t, u, rfl, rfl, rfl, HI⟩ := hrel
    by_cases c1 : i < 64
    · have b1 : decide (i < 64) = true := decide_eq_true c1
      have i1 : 0 ≤ i := HI.out.1
      have hl64 : i < (l.length : Int) := by have := HL.out; omega
      obtain ⟨ad, rfl, t0⟩ := HR.out.at_ false i i1 hl64
      have i0 : (0 ≤ i ∧ i < 64) = True := eq_true ⟨i1, c1⟩
      have hp := pow_lt i.toNat (by omega)
      have hu : u = 2 ^ i.toNat := by rw [HI.out.2.2.2]; exact Nat.mod_eq_of_lt hp
      have ht := ofB_lt (fun i => l.getD i false) i.toNat
      rw [← HI.out.2.2.1, ← hu] at ht
      have e2 : IntKind.u64.wrap ((u : Int) * 2) = ((2 ^ (i + 1).toNat % 18446744073709551616 : Nat) : Int) := by
        rw [show (i + 1).toNat = i.toNat + 1 by omega, Nat.pow_succ, ← hu, IntKind.wrap_u64]
        omega
      have hsm : t + u < 18446744073709551616 := by
        have h1 : 2 ^ i.toNat + 2 ^ i.toNat = 2 ^ (i.toNat + 1) := by rw [Nat.pow_succ]; omega
        have h2 : 2 ^ (i.toNat + 1) ≤ 2 ^ 64 := Nat.pow_le_pow_right (by omega) (by omega)
        omega
      have e3 : IntKind.u64.wrap ((t : Int) + (u : Int)) = ((t + u : Nat) : Int) := by rw [IntKind.wrap_u64]; omega
      have E2 := Lib.hid e2
      have E3 := Lib.hid e3
      have HU := Lib.hid hu
      have stp : ∀ b, l.getD i.toNat false = b → ofB (fun i => l.getD i false) (i + 1).toNat = ofB (fun i => l.getD i false) i.toNat + if b = true then 2 ^ i.toNat else 0 := fun b hb => by
        rw [show (i + 1).toNat = i.toNat + 1 by omega, ofB, hb]
      have ST := Lib.hid stp
      clear e2 e3 hu hp hl64 stp
      obtain ⟨b, hb⟩ : ∃ b, l.getD i.toNat false = b := ⟨_, rfl⟩
      rw [hb] at t0
      have HB := Lib.hid hb
      clear hb
      cases b with
      | true =>
        go_wp2
        go_round
        case rel => exact ⟨i + 1, t + u, _, by first | (rw [← E3.out]; done) | (rw [E3.out]; done) | rfl, by first | (rw [← E2.out]; done) | rfl, by go_num, ⟨by omega, by omega, by rw [ST.out true HB.out, ← HI.out.2.2.1, ← HU.out]; simp, rfl⟩⟩
        case measure => simp [intOf]; omega
      | false =>
        go_wp2
        go_round
        case rel => exact ⟨i + 1, t, _, rfl, by first | (rw [← E2.out]; done) | rfl, by go_num, ⟨by omega, by omega, by rw [ST.out false HB.out, ← HI.out.2.2.1]; simp, rfl⟩⟩
        case measure => simp [intOf]; omega
    · have b1 : decide (i < 64) = false := decide_eq_false c1
      obtain rfl : i = 64 := by have := HI.out; omega
      have HT : Hid (t = bitsOf l) := Lib.hid HI.out.2.2.1
      go_wp2
      go_ret
      exact ⟨by rw [← HT.out]; rfl, rfl⟩
theorem info_bool : (Tryd.prog.info? 4).map (fun i => (i.zero, i.size, i.bytes)) = some (some (.bool false), 1, 1) := by kernel_rfl
theorem info_int : (Tryd.prog.info? 3).map (fun i => (i.zero, i.size, i.bytes)) = some (some (.int .i64 0), 1, 8) := by kernel_rfl
/-- the truths of a set -/
def truths (s : Nat) : List Bool := (List.range 64).map fun i => s.testBit i
theorem truths_len (s : Nat) : (truths s).length = 64 := by simp [truths]
theorem truths_get (s i : Nat) (hi : i < 64) : (truths s).getD i false = s.testBit i := by simp [truths, hi]
/-- a row of the call's own came back -/
def OwnRow64 (l : List Bool) (w : World) (e : Ending) (w' : World) : Prop := ∃ g c, e = .returned (.slice (some ⟨g, 0, none⟩) 64 c) ∧ w.heap.size ≤ g ∧ GRow Value.bool 4 w' g l ∧ Below w.heap.size w w'
set_option maxRecDepth 100000 in
theorem all03_any (s : Nat) (w : World) (hs : s < 18446744073709551616) : Calls Tryd.prog 28 #[.int .u64 s] w (OwnRow64 (truths s) w) := by
  have HB := Aside0.mk (Below.refl w.heap.size w)
  go_enter Tryd.func28, Tryd.ntmps28
  go_wp2
  go_loopg [3, 4] 65 (fun kq v3 v4 w' => ∃ (i : Int), v4 = .int .i64 i ∧ Aside0 (0 ≤ i ∧ i + (kq : Int) = 65 ∧ 1 ≤ kq ∧ kq ≤ 65) ∧ Aside0 (Kd.R Kd.bool 4 w' w.heap.size (fun _ => True) v3 ((truths s).take i.toNat)) ∧ Aside0 (Below w.heap.size w w'))
  case atStart => exact ⟨0, rfl, ⟨by omega⟩, ⟨Kd.R_nil _ _ _ _ _⟩, ⟨HB.out⟩⟩
  case round =>
    clear HB
    obtain ⟨i, rfl, HI, HO, HB⟩ := hrel
    by_cases c1 : i < 64
    · have b1 : decide (i < 64) = true := decide_eq_true c1
      have i1 : 0 ≤ i := HI.out.1
      obtain ⟨k1, rfl⟩ : ∃ k1, gk = k1 + 1 := ⟨gk - 1, by have := HI.out; omega⟩
      have hn : (truths s).take (i + 1).toNat = (truths s).take i.toNat ++ [hasS s i] := by
        rw [show (i + 1).toNat = i.toNat + 1 by omega, List.take_succ_eq_append_getElem (by rw [truths_len]; omega)]
        obtain ⟨k, rfl⟩ := Int.eq_ofNat_of_zero_le i1
        rw [hasS_at s k (by omega)]
        simp [truths]
      have HN := Lib.hid hn
      have LM : Hid (((truths s).take i.toNat).length < 140737488355328) := Lib.hid (by rw [List.length_take, truths_len]; omega)
      clear hn
      go_wp2_with (first
        | (go_at_call 21; refine (has03_any s i _ hs).mono ?_; rintro e w2 ⟨rfl, rfl⟩)
        | ((with_reducible refine gate_builtin (b := .append) (xs := #[.tmp 9, .tmp 13]) rfl ?_); at_builtin; refine Kd.R_append Kd.bool (w0 := w) w.heap.size rfl (.tmp 9) (.tmp 13) 26 4 (.bool false) 1 rfl Tryd.underlying26 info_bool rfl (by decide) (by omega) _ ((truths s).take i.toNat) (hasS s i) [.bool (hasS s i)] (fun _ => True) (fun _ => False) rfl rfl ?aP (fun _ hk => hk.elim) ?aF ?aO ?aB ?aS ?aL ?_; (case aP => exact rfl); (case aB => exact HB.out); (case aF => exact (fun _ _ => trivial)); (case aO => exact HO.out); (case aS => exact below_size HB.out); (case aL => have := LM.out; omega); intro v113 w5 ho hb hg hat; have HB1 := Lib.hid hb; have HO1 := Lib.hid ho; clear hb ho hg hat))
      go_roundg k1
      case measure => have := HI.out; omega
      case rel => exact ⟨i + 1, by go_num, ⟨by have := HI.out; omega⟩, ⟨by rw [HN.out]; exact HO1.out⟩, ⟨HB1.out⟩⟩
    · have b1 : decide (i < 64) = false := decide_eq_false c1
      obtain rfl : i = 64 := by have := HI.out; omega
      have hO : Kd.R Kd.bool 4 wr w.heap.size (fun _ => True) u3 (truths s) := by
        have := HO.out
        rwa [List.take_of_length_le (by rw [truths_len]; omega)] at this
      obtain ⟨g, c, hv, hnc, hg, hn, hrow⟩ := GRow.of_own (enc := Value.bool) (xs := truths s) (Kd.own_of_R hO) (by rw [truths_len]; omega)
      rw [truths_len] at hn
      subst hv
      have HG := Lib.hid hrow
      have HGE := Lib.hid hg
      clear hO hrow hg hn HO
      go_wp2
      go_ret
      exact ⟨g, c, by simp [truths_len], HGE.out, HG.out, HB.out⟩
end Go.Proofs.YtmjkgnlmdcmdbaaDoor.Sets
