/- SatSums, the law's walk: for every slice of int64. -/
import Derived.Test.YtplajmcjkddikaaSatSums
import Derived.Lib.Hide
namespace Go.Proofs.Ytplajmcjkddikaa.Sat
open Go.RowKit Go.Proofs.YtplajmcjkddikaaW.PrintWords Go.Proofs.YtplajmcjkddikaaW.PrintLast Go.Proofs.YtplajmcjkddikaaW.PrintMore Go.Proofs.Ytplajmcjkddikaa.PSatSums Go.Proofs.Ytplajmcjkddikaa.Open
attribute [local go_sem] max2_int min2_int max_two min_two
set_option linter.unusedVariables false

set_option maxHeartbeats 2000000 in
theorem SatSums_any (a : Option Addr) (len cap : Nat) (z : List Int) (w : World) (w0 : IsRow .i64 w a len cap z) (y0 : len * 8 ≤ 140737488351232) :
    Calls Try.prog 3 #[.slice a len cap] w fun e w' => e = .returned (.bool true) ∧ Below w.heap.size w w' := by
  obtain ⟨l, rfl, hC, hm, hw, hc⟩ := w0.list
  go_enter Try.func3, Try.ntmps3
  go_upto_if 10 with fail
  go_cut [0] (fun v wx => ∃ (A : Option Addr) (xs : List Int) (c : Nat), v = .slice A xs.length c ∧ xs.length ≤ 50 ∧ xs.length ≤ c ∧ Aside0 (Kd.C (Kd.int .i64) w A xs.length xs) ∧ wx = w)
  case first =>
    by_cases h : 50 < l.length
    · obtain ⟨ad, rfl, -⟩ := Kd.at_int hC 0 (by omega) (by omega)
      go_wp2
      go_meet
      exact ⟨_, l.take 50, cap, by rw [List.length_take, Nat.min_eq_left (by omega)], by rw [List.length_take]; omega, by rw [List.length_take]; omega, ⟨Kd.C_take hC (by omega)⟩, rfl⟩
    · go_wp2
      go_meet
      exact ⟨_, l, cap, rfl, by omega, hc, ⟨hC⟩, rfl⟩
  case rest =>
    obtain ⟨A, xs, c, rfl, h50, hxc, HC, rfl⟩ := hcut
    clear hC hw hm hc
    go_wp2
    go_loop [3, 4, 5] (fun s m i => ∃ k : Nat, k ≤ xs.length ∧ i = .int .i64 k ∧ s = .int .i64 (sumS (xs.take k)) ∧ m = .int .i64 (minS (xs.take k))) (fun _ _ i => xs.length - (intOf i).toNat)
    case atStart => exact ⟨0, by omega, rfl, by simp [sumS], by simp [minS]⟩
    case round =>
      obtain ⟨k, hk, rfl, rfl, rfl⟩ := hrel
      have hs := sumS_bd xs k hk
      by_cases hlt : k < xs.length
      · obtain ⟨ad, e, hx⟩ := Kd.at_int HC.out (k : Int) (by omega) (by omega)
        rw [Int.toNat_natCast] at hx
        have er : rd xs (k : Int) = xs.getD k 0 := by unfold rd; rw [Int.toNat_natCast]
        rw [er] at hx
        clear er
        have hh := holdS_bd (xs.getD k 0)
        have S1 := Lib.hid (sumS_snoc xs k hlt)
        have S2 := Lib.hid (minS_snoc xs k hlt)
        generalize hv : xs.getD k 0 = v at hx hh S1 S2
        have S3r : holdS (sumS (xs.take k) + holdS v) = addStep (sumS (xs.take k)) v := by unfold addStep; unfold holdS at hh ⊢; (repeat' split) <;> (repeat' split at hh) <;> omega
        have S3 := Lib.hid S3r
        clear S3r
        subst e
        clear hv
        by_cases hm : v < minS (xs.take k)
        all_goals
          go_wp2_with (go_at_call 25; refine (hold_any _ _).mono ?_; rintro e w' ⟨rfl, rfl⟩)
          go_round
          case rel => exact ⟨k + 1, by omega, by go_num, by rw [S1.out, S3.out], by rw [S2.out]; unfold minStep; first | rw [if_pos (by omega)] | rw [if_neg (by omega)]⟩
          case measure => simp [intOf]; omega
      · obtain rfl : k = xs.length := by omega
        have T : xs.take xs.length = xs := List.take_length
        rw [T] at hs ⊢
        clear T
        go_wp2_with (go_at_call 26; refine (add_any xs A c wc HC.out (by omega) (by omega)).mono ?_; rintro e w1 ⟨rfl, hb1⟩)
        have HC1 : Aside0 (Kd.C (Kd.int .i64) w1 A xs.length xs) := ⟨Kd.C_below HC.out hb1⟩
        go_loop [7] (fun i => ∃ k : Nat, k ≤ xs.length ∧ i = .int .i64 k) (fun i => xs.length - (intOf i).toNat)
        case atStart => exact ⟨0, by omega, rfl⟩
        case round =>
          obtain ⟨k, hk, rfl⟩ := hrel
          by_cases hlt : k < xs.length
          · obtain ⟨ad, e, hx⟩ := Kd.at_int HC1.out (k : Int) (by omega) (by omega)
            rw [Int.toNat_natCast] at hx
            have er : rd xs (k : Int) = xs.getD k 0 := by unfold rd; rw [Int.toNat_natCast]
            rw [er] at hx
            clear er
            have hge := sumS_ge xs k hlt xs.length hlt (Nat.le_refl _)
            rw [List.take_length] at hge
            generalize hv : xs.getD k 0 = v at hx hge
            subst e
            clear hv
            go_wp2_with (go_at_call 25; refine (hold_any _ _).mono ?_; rintro e w' ⟨rfl, rfl⟩)
            go_round
            case rel => exact ⟨k + 1, by omega, by go_num⟩
            case measure => simp [intOf]; omega
          · obtain rfl : k = xs.length := by omega
            go_wp2_with (first
              | (go_at_call 27; refine (least_any xs A c w1 HC1.out (by omega) (by omega)).mono ?_; rintro e w2 ⟨rfl, hb2⟩)
              | (go_at_call 28; refine (awake_any _).mono ?_; rintro e w3 ⟨rfl, hb3⟩))
            go_ret
            exact ⟨rfl, below_step (below_step hb1 hb2) hb3⟩
end Go.Proofs.Ytplajmcjkddikaa.Sat
