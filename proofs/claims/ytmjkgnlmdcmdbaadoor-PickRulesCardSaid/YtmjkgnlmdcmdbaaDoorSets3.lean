/- Package set, by hand walks: the first so many, rows, lists. -/
import Derived.Test.YtmjkgnlmdcmdbaaDoorSets2
import Derived.Deep.LoopGhost
import Derived.OwnWalk
namespace Go.Proofs.YtmjkgnlmdcmdbaaDoor.Sets
open Go.RowKit Go.Proofs.YtmjkgnlmdcmdbaaDoorW.PrintWords Go.Proofs.YtmjkgnlmdcmdbaaDoorW.PrintLast Go.Proofs.YtmjkgnlmdcmdbaaDoorW.PrintMore
set_option linter.unusedVariables false
set_option linter.unusedSimpArgs false
theorem lowS_at (s : Nat) (h : s ≠ 0) : lowS s = (Lib.ctz 64 s : Nat) := by unfold lowS; rw [if_neg h]
/-- the lowest so many -/
def firstS (s : Nat) (n : Int) : Nat := if n < 0 ∨ (lenS s : Int) < n then 0 else mk ((nodes s).take n.toNat)
def firstB (s : Nat) (n : Int) : Bool := decide (0 ≤ n) && decide (n ≤ (lenS s : Int))
theorem take_lt (s k : Nat) : ∀ i ∈ (nodes s).take k, i < 64 := fun i h => nodes_lt s i (List.mem_of_mem_take h)
theorem firstS_lt (s : Nat) (n : Int) : firstS s n < 18446744073709551616 := by
  unfold firstS
  split
  · omega
  · exact mk_lt _ (take_lt s _)
/-- one node more: what is taken, what is left -/
theorem first_step (s t : Nat) (k : Nat) (ht : t < 18446744073709551616) (hn : nodes t = (nodes s).drop k) (hk : k < lenS s) :
    t ≠ 0 ∧ Lib.ctz 64 t < 64 ∧ nodes (withoutS t (Lib.ctz 64 t : Nat)) = (nodes s).drop (k + 1) ∧ withS (mk ((nodes s).take k)) (Lib.ctz 64 t : Nat) = mk ((nodes s).take (k + 1)) := by
  have h0 : t ≠ 0 := by
    rintro rfl
    rw [nodes_zero] at hn
    have := congrArg List.length hn
    simp [lenS] at this hk
    omega
  obtain ⟨a, b, c, d⟩ := low_bits t h0 ht
  have hd := drop_low t (withoutS t (Lib.ctz 64 t : Nat)) h0 ht (fun i hi => by
    rw [withoutS_bit _ _ _ hi]
    congr 1
    by_cases h : i = Lib.ctz 64 t
    · subst h; simp
    · have : ¬ ((i : Int) = (Lib.ctz 64 t : Nat)) := by omega
      simp [h, this])
  rw [hn] at hd
  have hk' : k < (nodes s).length := hk
  rw [List.drop_eq_getElem_cons hk'] at hd
  injection hd with e1 e2
  refine ⟨h0, a, e2.symm, ?_⟩
  rw [withS_at _ _ a, ← mk_snoc, List.take_succ_eq_append_getElem hk', e1]
set_option maxRecDepth 100000 in
theorem first_any (s : Nat) (n : Int) (w : World) (hs : s < 18446744073709551616) (hT : Tab w) :
    Calls Tryd.prog 19 #[.int .u64 s, .int .i64 n] w fun e w' => e = .returned (.tuple #[.int .u64 (firstS s n : Nat), .bool (firstB s n)]) ∧ w = w' := by
  have HT := Lib.hid hT
  clear hT
  have hl := lenS_le s
  have KL := Lib.hid (len_any s w hs)
  by_cases hn : n < 0
  · have e1 : firstS s n = 0 := by unfold firstS; rw [if_pos (.inl hn)]
    have e2 : firstB s n = false := by unfold firstB; simp; omega
    rw [e1, e2]
    have b1 : decide (n < 0) = true := decide_eq_true hn
    clear e1 e2
    go_enter Tryd.func19, Tryd.ntmps19
    go_wp2
    go_ret2
    exact ⟨rfl, rfl⟩
  · have b1 : decide (n < 0) = false := decide_eq_false hn
    by_cases hm : (lenS s : Int) < n
    · have e1 : firstS s n = 0 := by unfold firstS; rw [if_pos (.inr hm)]
      have e2 : firstB s n = false := by unfold firstB; simp; omega
      rw [e1, e2]
      have b2 : decide ((lenS s : Int) < n) = true := decide_eq_true hm
      clear e1 e2
      go_enter Tryd.func19, Tryd.ntmps19
      go_wp2_with (go_at_call 32; refine KL.out.mono ?_; rintro e w2 ⟨rfl, rfl⟩)
      go_ret2
      exact ⟨rfl, rfl⟩
    · have e1 : firstS s n = mk ((nodes s).take n.toNat) := by unfold firstS; rw [if_neg (by omega)]
      have e2 : firstB s n = true := by unfold firstB; simp; omega
      rw [e1, e2]
      have b2 : decide ((lenS s : Int) < n) = false := decide_eq_false hm
      clear e1 e2
      go_enter Tryd.func19, Tryd.ntmps19
      go_wp2_with (go_at_call 32; refine KL.out.mono ?_; rintro e w2 ⟨rfl, rfl⟩)
      go_loop [0, 6, 17] (fun v0 v6 v17 => ∃ (i : Int) (t : Nat), v0 = .int .u64 t ∧ v6 = .int .u64 (mk ((nodes s).take i.toNat) : Nat) ∧ v17 = .int .i64 i ∧ Aside0 (0 ≤ i ∧ i ≤ n ∧ t < 18446744073709551616 ∧ nodes t = (nodes s).drop i.toNat)) (fun _ _ v17 => n.toNat - (intOf v17).toNat)
      case atStart => exact ⟨0, s, rfl, rfl, rfl, ⟨by omega, by omega, hs, rfl⟩⟩
      case round =>
        obtain ⟨i, t, rfl, rfl, rfl, HI⟩ := hrel
        by_cases c1 : i < n
        · have b3 : decide (i < n) = true := decide_eq_true c1
          obtain ⟨t0, tl, tn, tw⟩ := first_step s t i.toNat HI.out.2.2.1 HI.out.2.2.2 (by have := HI.out; omega)
          have KW := Lib.hid (low_any t w HI.out.2.2.1 HT.out)
          rw [lowS_at t t0] at KW
          have KX := Lib.hid (with_any (mk ((nodes s).take i.toNat)) (Lib.ctz 64 t : Nat) w (mk_lt _ (take_lt s _)))
          rw [tw] at KX
          have KY := Lib.hid (without_any t (Lib.ctz 64 t : Nat) w HI.out.2.2.1)
          have HN := Lib.hid tn
          have i0 : 0 ≤ i := HI.out.1
          clear tn tw t0
          go_wp2_with (first | (go_at_call 33; refine KW.out.mono ?_; rintro e w2 ⟨rfl, rfl⟩) | (go_at_call 30; refine KX.out.mono ?_; rintro e w2 ⟨rfl, rfl⟩) | (go_at_call 31; refine KY.out.mono ?_; rintro e w2 ⟨rfl, rfl⟩))
          go_round
          case rel => exact ⟨i + 1, _, rfl, by rw [show (i + 1).toNat = i.toNat + 1 by omega], by go_num, ⟨by omega, by omega, withoutS_lt _ _ HI.out.2.2.1, by rw [show (i + 1).toNat = i.toNat + 1 by omega]; exact HN.out⟩⟩
          case measure => simp [intOf]; omega
        · have b3 : decide (i < n) = false := decide_eq_false c1
          obtain rfl : i = n := by have := HI.out; omega
          go_wp2
          go_ret2
          exact ⟨rfl, rfl⟩
theorem row_lt (k : Nat) (n : Int) (h0 : 0 ≤ n) (h : (k : Int) + n ≤ 64) : (2 ^ n.toNat - 1) * 2 ^ k < 18446744073709551616 := by
  have h1 : (2 ^ n.toNat - 1) * 2 ^ k < 2 ^ n.toNat * 2 ^ k := Nat.mul_lt_mul_of_pos_right (by have := Nat.two_pow_pos n.toNat; omega) (Nat.two_pow_pos k)
  rw [← Nat.pow_add] at h1
  have h2 : 2 ^ (n.toNat + k) ≤ 2 ^ 64 := Nat.pow_le_pow_right (by omega) (by omega)
  omega
end Go.Proofs.YtmjkgnlmdcmdbaaDoor.Sets
