/- pick.high; pick.Of by the rules of the lowest and of the highest ones; the law's first ones. -/
import Derived.Test.YtmjkgnlmdcmdbaaDoorPick38
import Derived.Test.YtmjkgnlmdcmdbaaDoorTight
namespace Go.Proofs.YtmjkgnlmdcmdbaaDoor.Pick
open Go.RowKit Go.Proofs.YtmjkgnlmdcmdbaaDoorW.PrintWords Go.Proofs.YtmjkgnlmdcmdbaaDoorW.PrintLast Go.Proofs.YtmjkgnlmdcmdbaaDoorW.PrintMore Go.Proofs.YtmjkgnlmdcmdbaaDoor.Row Go.Proofs.YtmjkgnlmdcmdbaaDoor.Sets
set_option linter.unusedVariables false
set_option linter.unusedSimpArgs false
set_option maxRecDepth 100000
def highP (s : Nat) (n : Int) : Nat := mk ((nodes s).drop (lenS s - n.toNat))
set_option maxHeartbeats 2000000 in
theorem high_pick (s : Nat) (n : Int) (w : World) (hs : s < 18446744073709551616) (hT : Tab w) (h1 : 1 ≤ n) (h2 : n ≤ (lenS s : Int)) :
    Calls Tryd.prog 103 #[.int .u64 (s : Int), .int .i64 n] w fun e w' => e = .returned (.int .u64 (highP s n : Nat)) ∧ w = w' := by
  have HT := Lib.hid hT
  obtain ⟨L, hL⟩ : ∃ L, lenS s = L := ⟨_, rfl⟩
  have HL := Lib.hid hL
  have HHP : Hid (highP s n = mk ((nodes s).drop (L - n.toNat))) := Lib.hid (by rw [← hL]; rfl)
  have hL64 := lenS_le s
  rw [hL] at h2 hL64
  have HSS := Lib.hid hs
  clear hT hL hs
  go_enter Tryd.func103, Tryd.ntmps103
  go_wp2
  go_loopg [5] (L + 1) (fun kq v5 w' => ∃ (k t : Nat), v5 = .int .u64 t ∧ Aside0 (k + kq = L + 1 ∧ (k : Int) + n ≤ L) ∧ Aside0 (t < 18446744073709551616 ∧ nodes t = (nodes s).drop k) ∧ Aside0 (w = w'))
  case atStart => exact ⟨0, s, rfl, ⟨by omega, by omega⟩, ⟨HSS.out, rfl⟩, ⟨rfl⟩⟩
  case round =>
    obtain ⟨k, t, rfl, HK, HN, HW⟩ := hrel
    have hww := HW.out
    subst hww
    obtain ⟨k1, rfl⟩ : ∃ k1, gk = k1 + 1 := ⟨gk - 1, by have := HK.out; omega⟩
    have hlt : lenS t = L - k := by unfold lenS; rw [HN.out.2, List.length_drop]; have := HL.out; unfold lenS at this; rw [this]
    have KL := Lib.hid (len_any t w HN.out.1)
    rw [hlt] at KL
    by_cases c : (k : Int) + n < L
    · have b1 : decide (n < ((L - k : Nat) : Int)) = true := decide_eq_true (by omega)
      obtain ⟨t0, tl, tn, -⟩ := first_step s t k HN.out.1 HN.out.2 (by rw [HL.out]; omega)
      have KW := Lib.hid (low_any t w HN.out.1 HT.out)
      rw [lowS_at t t0] at KW
      have KY := Lib.hid (without_any t (Lib.ctz 64 t : Nat) w HN.out.1)
      have HTN := Lib.hid tn
      clear tn t0 hlt
      go_wp2_with (first | (go_at_call 32; refine KL.out.mono ?_; rintro e w2 ⟨rfl, rfl⟩) | (go_at_call 33; refine KW.out.mono ?_; rintro e w2 ⟨rfl, rfl⟩) | (go_at_call 31; refine KY.out.mono ?_; rintro e w2 ⟨rfl, rfl⟩))
      go_roundg k1
      case measure => have := HK.out; omega
      case rel => exact ⟨k + 1, _, rfl, ⟨by have := HK.out; omega, by omega⟩, ⟨withoutS_lt _ _ HN.out.1, HTN.out⟩, ⟨rfl⟩⟩
    · have b1 : decide (n < ((L - k : Nat) : Int)) = false := decide_eq_false (by omega)
      have HR : Hid (highP s n = t) := Lib.hid (by
        have hk : L - n.toNat = k := by have := HK.out; omega
        rw [HHP.out, hk, ← HN.out.2]
        exact mk_nodes t HN.out.1)
      clear hlt
      go_wp2_with (go_at_call 32; refine KL.out.mono ?_; rintro e w2 ⟨rfl, rfl⟩)
      go_ret
      exact ⟨by rw [HR.out]; rfl, rfl⟩
theorem Of_high (s : Nat) (n : Int) (w : World) (hs : s < 18446744073709551616) (hT : Tab w) (h1 : 1 ≤ n) (h2 : n ≤ (lenS s : Int)) :
    Calls Tryd.prog 63 #[.int .i64 2, .int .u64 (s : Int), .int .i64 n] w fun e w' => e = .returned (.tuple #[.int .u64 (highP s n : Nat), .bool true]) ∧ w = w' := by
  have KL0 := fun W => len_any s W hs
  have KR := Lib.hid (high_pick s n w hs hT h1 h2)
  obtain ⟨L, hL⟩ : ∃ L, lenS s = L := ⟨_, rfl⟩
  rw [hL] at h2 KL0
  have KL := Lib.hid KL0
  have KI := Lib.hid (fun W => Is_any 2 W)
  have d1 : decide (n < 1) = false := decide_eq_false (by omega)
  have d2 : decide ((L : Int) < n) = false := decide_eq_false (by omega)
  clear KL0 hL hT
  go_enter Tryd.func63, Tryd.ntmps63
  go_wp2_with (first
    | (go_at_call 32; refine (KL.out _).mono ?_; rintro e w2 ⟨rfl, rfl⟩)
    | (go_at_call 64; refine (KI.out _).mono ?_; rintro e w2 ⟨rfl, rfl⟩)
    | (go_at_call 103; refine KR.out.mono ?_; rintro e w2 ⟨rfl, rfl⟩))
  go_ret2
  exact ⟨rfl, rfl⟩
theorem Of_low (s : Nat) (n : Int) (w : World) (hs : s < 18446744073709551616) (hT : Tab w) (h1 : 1 ≤ n) (h2 : n ≤ (lenS s : Int)) :
    Calls Tryd.prog 63 #[.int .i64 1, .int .u64 (s : Int), .int .i64 n] w fun e w' => e = .returned (.tuple #[.int .u64 (firstS s n : Nat), .bool true]) ∧ w = w' := by
  have KL0 := fun W => len_any s W hs
  have hf := first_any s n w hs hT
  have e2 : firstB s n = true := by unfold firstB; simp; omega
  rw [e2] at hf
  have KR := Lib.hid hf
  obtain ⟨L, hL⟩ : ∃ L, lenS s = L := ⟨_, rfl⟩
  rw [hL] at h2 KL0
  have KL := Lib.hid KL0
  have KI := Lib.hid (fun W => Is_any 1 W)
  have d1 : decide (n < 1) = false := decide_eq_false (by omega)
  have d2 : decide ((L : Int) < n) = false := decide_eq_false (by omega)
  clear KL0 hL hT hf e2
  go_enter Tryd.func63, Tryd.ntmps63
  go_wp2_with (first
    | (go_at_call 32; refine (KL.out _).mono ?_; rintro e w2 ⟨rfl, rfl⟩)
    | (go_at_call 64; refine (KI.out _).mono ?_; rintro e w2 ⟨rfl, rfl⟩)
    | (go_at_call 19; refine KR.out.mono ?_; rintro e w2 ⟨rfl, rfl⟩))
  go_ret2
  exact ⟨rfl, rfl⟩
/-- the first so many of a list -/
theorem first38_any (A : Option Addr) (L c : Nat) (n : Int) (w : World) (h0 : 0 ≤ n) (h1 : n ≤ (L : Int)) (hc : L ≤ c) (hA : 0 < L → ∃ ad, A = some ad) :
    Calls Tryd.prog 66 #[.slice A L c, .int .i64 n] w fun e w' => e = .returned (.slice A n.toNat c) ∧ w = w' := by
  obtain ⟨i, hi⟩ : ∃ i, Tryd.prog.info? 3 = some i := by
    cases h : Tryd.prog.info? 3 with
    | none => have e := info_int; rw [h] at e; cases e
    | some i => exact ⟨i, rfl⟩
  have k1 := cut_to (P := Tryd.prog) 30 3 .i64 Tryd.underlying30 hi A L c n h0 h1 hc
  go_enter Tryd.func66, Tryd.ntmps66
  go_wp2
  go_ret
  exact ⟨rfl, rfl⟩
end Go.Proofs.YtmjkgnlmdcmdbaaDoor.Pick
