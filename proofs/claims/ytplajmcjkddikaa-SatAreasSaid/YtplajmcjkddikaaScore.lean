/- ScoreSlows and SatAreas: slowdowns, which jobs have begun, and so many nodes for any time. -/
import Derived.Test.YtplajmcjkddikaaSatSums
import Derived.Lib.Hide
import Derived.RegionTactic
import Derived.Deep.RegionWith
import Derived.Deep.DeepCutAuto
import Derived.Deep.CutBlock
namespace Go.Proofs.Ytplajmcjkddikaa.Sat
open Go.RowKit Go.Proofs.YtplajmcjkddikaaW.PrintWords Go.Proofs.YtplajmcjkddikaaW.PrintLast Go.Proofs.YtplajmcjkddikaaW.PrintMore Go.Proofs.Ytplajmcjkddikaa.PSatSums Go.Proofs.Ytplajmcjkddikaa.Open
attribute [local go_sem] max2_int min2_int max_two min_two max_three
set_option linter.unusedVariables false

/-! ### so many nodes for so long -/
def areaS (n f t : Int) : Int := if n < 1 then 0 else mulS n (subS t f)
theorem subS_bd (a b : Int) : 0 ≤ subS a b ∧ subS a b ≤ 1152921504606846976 := by
  have h1 := holdS_bd a; have h2 := holdS_bd b; unfold subS; split <;> omega
theorem mulS_bd (a b : Int) : 0 ≤ mulS a b ∧ mulS a b ≤ 1152921504606846976 := by
  unfold mulS; split
  · rename_i h
    have := Int.mul_pos h.1 h.2
    split <;> omega
  · omega
theorem area_any (n f t : Int) (w : World) (hn : n ≤ 9223372036854775807) :
    Calls Try.prog 33 #[.int .i64 n, .int .i64 f, .int .i64 t] w fun e w' => e = .returned (.int .i64 (areaS n f t)) ∧ Below w.heap.size w w' := by
  by_cases h : n < 1
  · have e : areaS n f t = 0 := by unfold areaS; rw [if_pos h]
    rw [e]; clear e
    go_enter Try.func33, Try.ntmps33
    go_wp2; go_ret; exact ⟨rfl, Below.refl _ _⟩
  · have e : areaS n f t = mulS n (subS t f) := by unfold areaS; rw [if_neg h]
    rw [e]; clear e
    have hs := subS_bd t f
    go_enter Try.func33, Try.ntmps33
    go_wp2_with (first
      | (go_at_call 29; refine (sub_any _ _ _).mono ?_; rintro e w1 ⟨rfl, hb1⟩)
      | (go_at_call 30; refine (mul_any _ _ _ (by omega) (by omega)).mono ?_; rintro e w2 ⟨rfl, rfl⟩))
    go_ret
    exact ⟨rfl, hb1⟩

set_option maxHeartbeats 1000000 in
theorem SatAreas_any (n f t : Int) (w : World) (wn : (Lit.int .i64 n).wf = true) (wf : (Lit.int .i64 f).wf = true) (wt : (Lit.int .i64 t).wf = true) :
    Calls Try.prog 5 #[.int .i64 n, .int .i64 f, .int .i64 t] w fun e w' => e = .returned (.bool true) ∧ Below w.heap.size w w' := by
  obtain ⟨n0, n1⟩ := bounds_i64 wn
  clear wn wf wt
  have h1 := holdS_bd t
  have h2 := holdS_bd f
  by_cases hn : 0 < n
  · by_cases hd : 0 < holdS t - holdS f
    · have es : subS t f = holdS t - holdS f := by unfold subS; rw [if_neg (by omega)]
      generalize hD : holdS t - holdS f = d at hd es
      have HD := Lib.hid hD
      clear hD
      have hq2 : (0 : Int) ≤ 1152921504606846976 / d := Int.ediv_nonneg (by omega) (by omega)
      have hq3 : (1152921504606846976 : Int) / d ≤ 1152921504606846976 := Int.ediv_le_self _ (by omega)
      have g1 : (d == 0) = false := by simp; omega
      have dw : wrap64 (holdS t - holdS f) = d := by rw [w64 (by omega)]; exact HD.out
      have dw' : holdS t - holdS f = d := HD.out
      by_cases hl : n ≤ 1152921504606846976 / d
      · have hp : 0 < n * d := Int.mul_pos hn hd
        have hm : n * d ≤ 1152921504606846976 := (le_q n d hd).1 hl
        have hh : holdS (n * d) = n * d := by unfold holdS; rw [if_neg (by omega), if_neg (by omega)]
        have ea : areaS n f t = n * d := by unfold areaS mulS; rw [if_neg (by omega), es, if_pos ⟨hn, hd⟩, if_pos hm]
        clear es HD
        go_enter Try.func5, Try.ntmps5
        go_wp2_with (first
          | (go_at_call 25; refine (hold_any _ _).mono ?_; rintro e w' ⟨rfl, rfl⟩)
          | (go_at_call 33; refine (area_any _ _ _ _ (by omega)).mono ?_; rintro e w1 ⟨rfl, hb1⟩)
          | (go_at_call 28; refine (awake_any _).mono ?_; rintro e w5 ⟨rfl, hb5⟩))
        go_ret
        exact ⟨by first | rfl | (simp; omega), below_step hb1 hb5⟩
      · have ea : areaS n f t = 1152921504606846976 := by
          unfold areaS mulS; rw [if_neg (by omega), es, if_pos ⟨hn, hd⟩, if_neg (fun hc => by have := (le_q n d hd).2 hc; omega)]
        clear es HD
        go_enter Try.func5, Try.ntmps5
        go_wp2_with (first
          | (go_at_call 25; refine (hold_any _ _).mono ?_; rintro e w' ⟨rfl, rfl⟩)
          | (go_at_call 33; refine (area_any _ _ _ _ (by omega)).mono ?_; rintro e w1 ⟨rfl, hb1⟩)
          | (go_at_call 28; refine (awake_any _).mono ?_; rintro e w5 ⟨rfl, hb5⟩))
        go_ret
        exact ⟨by first | rfl | (simp; omega), below_step hb1 hb5⟩
    · have ea : areaS n f t = 0 := by
        unfold areaS mulS; rw [if_neg (by omega), if_neg]
        have : subS t f = 0 := by unfold subS; split <;> omega
        omega
      rcases Int.lt_or_eq_of_le (show holdS t - holdS f ≤ 0 by omega) with hd0 | hd0
      · go_enter Try.func5, Try.ntmps5
        go_wp2_with (first
          | (go_at_call 25; refine (hold_any _ _).mono ?_; rintro e w' ⟨rfl, rfl⟩)
          | (go_at_call 33; refine (area_any _ _ _ _ (by omega)).mono ?_; rintro e w1 ⟨rfl, hb1⟩)
          | (go_at_call 28; refine (awake_any _).mono ?_; rintro e w5 ⟨rfl, hb5⟩))
        go_ret
        exact ⟨by first | rfl | (simp; omega), below_step hb1 hb5⟩
      · go_enter Try.func5, Try.ntmps5
        go_wp2_with (first
          | (go_at_call 25; refine (hold_any _ _).mono ?_; rintro e w' ⟨rfl, rfl⟩)
          | (go_at_call 33; refine (area_any _ _ _ _ (by omega)).mono ?_; rintro e w1 ⟨rfl, hb1⟩)
          | (go_at_call 28; refine (awake_any _).mono ?_; rintro e w5 ⟨rfl, hb5⟩))
        go_ret
        exact ⟨by first | rfl | (simp; omega), below_step hb1 hb5⟩
  · have ea : areaS n f t = 0 := by unfold areaS; rw [if_pos (by omega)]
    by_cases hd : holdS t - holdS f < 0 <;>
    · go_enter Try.func5, Try.ntmps5
      go_wp2_with (first
        | (go_at_call 25; refine (hold_any _ _).mono ?_; rintro e w' ⟨rfl, rfl⟩)
        | (go_at_call 33; refine (area_any _ _ _ _ (by omega)).mono ?_; rintro e w1 ⟨rfl, hb1⟩)
        | (go_at_call 28; refine (awake_any _).mono ?_; rintro e w5 ⟨rfl, hb5⟩))
      go_ret
      exact ⟨by first | rfl | (simp; omega), below_step hb1 hb5⟩

/-! ### slowdowns -/
theorem add2_any (a b : Int) (w : World) :
    Calls Try.prog 26 #[.slice (some ⟨w.heap.size, 0, none⟩) 2 2] (w.alloc (.cells #[.int .i64 a, .int .i64 b] 2)) fun e w' => e = .returned (.int .i64 (sumS [a, b])) ∧ Below w.heap.size w w' := by
  have hC : Kd.C (Kd.int .i64) (w.alloc (.cells #[.int .i64 a, .int .i64 b] 2)) (some ⟨w.heap.size, 0, none⟩) [a, b].length [a, b] := by
    refine Kd.C_of_reads (d := (0 : Int)) (h1 := fun _ => rfl) ⟨rfl, by simp, fun _ => ⟨_, rfl, fun j hj => ?_⟩⟩
    simp only [List.length_cons, List.length_nil] at hj
    rcases (by omega : j = 0 ∨ j = 1) with rfl | rfl
    · simp [Addr.add, World.cell?_alloc_new]
    · simp [Addr.add, World.cell?_alloc_new]
  exact (add_any [a, b] _ 2 _ hC (by simp) (by simp)).mono fun e w' ⟨he, hb⟩ => ⟨he, below_step ((Below.refl _ _).alloc (Nat.le_refl _) _) hb⟩

def byS (run bound : Int) : Int := mx (mx run bound) 1
def slowS (wait run bound : Int) : Int := mx (mulS (sumS [wait, run]) 1000 / byS run bound) 1000

set_option maxHeartbeats 1000000 in
theorem slow_any (a b c : Int) (w : World) :
    Calls Try.prog 37 #[.int .i64 a, .int .i64 b, .int .i64 c] w fun e w' => e = .returned (.int .i64 (slowS a b c)) ∧ Below w.heap.size w w' := by
  have hs := sumS_all [a, b]
  have hm := mulS_bd (sumS [a, b]) 1000
  obtain ⟨y, hy⟩ : ∃ y, byS b c = y := ⟨_, rfl⟩
  have hy1 : 1 ≤ y := by rw [← hy]; unfold byS mx; split <;> split <;> omega
  have hy0 : (y == 0) = false := by simp; omega
  have hq0 : 0 ≤ mulS (sumS [a, b]) 1000 / y := Int.ediv_nonneg (by omega) (by omega)
  have hq1 : mulS (sumS [a, b]) 1000 / y ≤ mulS (sumS [a, b]) 1000 := Int.ediv_le_self _ (by omega)
  have e : slowS a b c = if mulS (sumS [a, b]) 1000 / y < 1000 then 1000 else mulS (sumS [a, b]) 1000 / y := by unfold slowS mx; rw [hy]
  have E := Lib.hid e
  clear e
  have hmx : (if (if b < c then c else b) < 1 then 1 else if b < c then c else b) = y := by rw [← hy]; unfold byS mx; rfl
  go_enter Try.func37, Try.ntmps37
  go_wp2_with (first
    | (go_at_call 26; refine (add2_any _ _ _).mono ?_; rintro e w1 ⟨rfl, hb1⟩)
    | (go_at_call 30; refine (mul_any _ _ _ (by omega) (by omega)).mono ?_; rintro e w2 ⟨rfl, rfl⟩))
  all_goals
    go_ret
    exact ⟨ret_i (by rw [E.out]; first | rw [if_pos (by assumption)] | rw [if_neg (by omega)]), hb1⟩

set_option maxHeartbeats 1000000 in
theorem slowlaw_any (a b c : Int) (w : World) :
    Calls Try.prog 38 #[.int .i64 a, .int .i64 b, .int .i64 c] w fun e w' => e = .returned (.int .i64 (slowS a b c)) ∧ Below w.heap.size w w' := by
  have hs := sumS_all [a, b]
  have hm := mulS_bd (sumS [a, b]) 1000
  obtain ⟨y, hy⟩ : ∃ y, byS b c = y := ⟨_, rfl⟩
  have hy1 : 1 ≤ y := by rw [← hy]; unfold byS mx; split <;> split <;> omega
  have hq0 : 0 ≤ mulS (sumS [a, b]) 1000 / y := Int.ediv_nonneg (by omega) (by omega)
  have hq1 : mulS (sumS [a, b]) 1000 / y ≤ mulS (sumS [a, b]) 1000 := Int.ediv_le_self _ (by omega)
  have e : slowS a b c = if mulS (sumS [a, b]) 1000 / y < 1000 then 1000 else mulS (sumS [a, b]) 1000 / y := by unfold slowS mx; rw [hy]
  have E := Lib.hid e
  clear e
  unfold byS mx at hy
  by_cases h1 : b < c
  · rw [if_pos h1] at hy
    by_cases h2 : c < 1
    · rw [if_pos h2] at hy
      subst hy
      by_cases h3 : mulS (sumS [a, b]) 1000 / 1 < 1000 <;>
      · rw [Int.ediv_one] at h3 hq0 hq1
        go_enter Try.func38, Try.ntmps38
        go_wp2_with (first
          | (go_at_call 26; refine (add2_any _ _ _).mono ?_; rintro e w1 ⟨rfl, hb1⟩)
          | (go_at_call 30; refine (mul_any _ _ _ (by omega) (by omega)).mono ?_; rintro e w2 ⟨rfl, rfl⟩))
        go_ret
        exact ⟨ret_i (by rw [E.out, Int.ediv_one]; first | rw [if_pos (by omega)] | rw [if_neg (by omega)]), hb1⟩
    · rw [if_neg h2] at hy
      subst hy
      have hc0 : (c == 0) = false := by simp; omega
      by_cases h3 : mulS (sumS [a, b]) 1000 / c < 1000 <;>
      · go_enter Try.func38, Try.ntmps38
        go_wp2_with (first
          | (go_at_call 26; refine (add2_any _ _ _).mono ?_; rintro e w1 ⟨rfl, hb1⟩)
          | (go_at_call 30; refine (mul_any _ _ _ (by omega) (by omega)).mono ?_; rintro e w2 ⟨rfl, rfl⟩))
        go_ret
        exact ⟨ret_i (by rw [E.out]; first | rw [if_pos (by omega)] | rw [if_neg (by omega)]), hb1⟩
  · rw [if_neg h1] at hy
    by_cases h2 : b < 1
    · rw [if_pos h2] at hy
      subst hy
      by_cases h3 : mulS (sumS [a, b]) 1000 / 1 < 1000 <;>
      · rw [Int.ediv_one] at h3 hq0 hq1
        go_enter Try.func38, Try.ntmps38
        go_wp2_with (first
          | (go_at_call 26; refine (add2_any _ _ _).mono ?_; rintro e w1 ⟨rfl, hb1⟩)
          | (go_at_call 30; refine (mul_any _ _ _ (by omega) (by omega)).mono ?_; rintro e w2 ⟨rfl, rfl⟩))
        go_ret
        exact ⟨ret_i (by rw [E.out, Int.ediv_one]; first | rw [if_pos (by omega)] | rw [if_neg (by omega)]), hb1⟩
    · rw [if_neg h2] at hy
      subst hy
      have hc0 : (b == 0) = false := by simp; omega
      by_cases h3 : mulS (sumS [a, b]) 1000 / b < 1000 <;>
      · go_enter Try.func38, Try.ntmps38
        go_wp2_with (first
          | (go_at_call 26; refine (add2_any _ _ _).mono ?_; rintro e w1 ⟨rfl, hb1⟩)
          | (go_at_call 30; refine (mul_any _ _ _ (by omega) (by omega)).mono ?_; rintro e w2 ⟨rfl, rfl⟩))
        go_ret
        exact ⟨ret_i (by rw [E.out]; first | rw [if_pos (by omega)] | rw [if_neg (by omega)]), hb1⟩

theorem slowaw_any (w : World) : Calls Try.prog 36 #[] w fun e w' => e = .returned (.bool true) ∧ Below w.heap.size w w' := by
  have h : slowS 10 10 1 = 2000 := by decide
  go_enter Try.func36, Try.ntmps36
  go_wp2_with (first | (go_at_call 37; refine (slow_any _ _ _ _).mono ?_; rintro e w1 ⟨rfl, hb1⟩))
  go_ret
  exact ⟨rfl, hb1⟩

def ranS (s t : Int) : Bool := decide (0 ≤ s ∧ s ≤ t)
abbrev jobV (a0 a1 a2 a3 a4 a5 a6 a7 a8 a9 : Int) : Value := .agg #[.int .i64 a0, .int .i64 a1, .int .i64 a2, .int .i64 a3, .int .i64 a4, .int .i64 a5, .int .i64 a6, .int .i64 a7, .int .i64 a8, .int .u64 a9]
theorem alloc_below (w : World) (o : Obj) : Below w.heap.size w (w.alloc o) := (Below.refl _ _).alloc (Nat.le_refl _) _
theorem ran_any (a0 a1 a2 a3 a4 a5 a6 a7 a8 a9 : Int) (w : World) :
    Calls Try.prog 34 #[jobV a0 a1 a2 a3 a4 a5 a6 a7 a8 a9] w fun e w' => e = .returned (.bool (ranS a6 a7)) ∧ Below w.heap.size w w' := by
  by_cases h0 : 0 ≤ a6
  · by_cases h1 : a6 ≤ a7
    · have e : ranS a6 a7 = true := by unfold ranS; simp; omega
      rw [e]; clear e
      go_enter Try.func34, Try.ntmps34
      go_wp2; go_ret; exact ⟨by first | rfl | (simp; omega), alloc_below _ _⟩
    · have e : ranS a6 a7 = false := by unfold ranS; simp; omega
      rw [e]; clear e
      go_enter Try.func34, Try.ntmps34
      go_wp2; go_ret; exact ⟨by first | rfl | (simp; omega), alloc_below _ _⟩
  · have e : ranS a6 a7 = false := by unfold ranS; simp; omega
    rw [e]; clear e
    go_enter Try.func34, Try.ntmps34
    go_wp2; go_ret; exact ⟨by first | rfl | (simp; omega), alloc_below _ _⟩
theorem ranlaw_any (a0 a1 a2 a3 a4 a5 a6 a7 a8 a9 : Int) (w : World) :
    Calls Try.prog 35 #[jobV a0 a1 a2 a3 a4 a5 a6 a7 a8 a9] w fun e w' => e = .returned (.bool (ranS a6 a7)) ∧ Below w.heap.size w w' := by
  by_cases h0 : 0 ≤ a6
  · by_cases h1 : a6 ≤ a7
    · have e : ranS a6 a7 = true := by unfold ranS; simp; omega
      rw [e]; clear e
      go_enter Try.func35, Try.ntmps35
      go_wp2; go_ret; exact ⟨by first | rfl | (simp; omega), alloc_below _ _⟩
    · have e : ranS a6 a7 = false := by unfold ranS; simp; omega
      rw [e]; clear e
      go_enter Try.func35, Try.ntmps35
      go_wp2; go_ret; exact ⟨by first | rfl | (simp; omega), alloc_below _ _⟩
  · have e : ranS a6 a7 = false := by unfold ranS; simp; omega
    rw [e]; clear e
    go_enter Try.func35, Try.ntmps35
    go_wp2; go_ret; exact ⟨by first | rfl | (simp; omega), alloc_below _ _⟩

set_option maxHeartbeats 2000000 in
theorem ScoreSlows_any (a b c a0 a1 a2 a3 a4 a5 a6 a7 a8 a9 : Int) (w : World) :
    Calls Try.prog 6 #[.int .i64 a, .int .i64 b, .int .i64 c, jobV a0 a1 a2 a3 a4 a5 a6 a7 a8 a9] w fun e w' => e = .returned (.bool true) ∧ Below w.heap.size w w' := by
  go_enter Try.func6, Try.ntmps6
  go_upto_region 1 with fail
  go_cut [13] (fun v wx => v = .bool false ∧ Below w.heap.size w wx)
  case first =>
    go_region_with (first
      | (go_at_call 34; refine (ran_any a0 a1 a2 a3 a4 a5 a6 a7 a8 a9 _).mono ?_; rintro e w1 ⟨rfl, hb1⟩; have hC1 := fun (o : Nat) => hb1.cell (p := ⟨w.heap.size, o, none⟩) (by simp))
      | (go_at_call 35; refine (ranlaw_any a0 a1 a2 a3 a4 a5 a6 a7 a8 a9 _).mono ?_; rintro e w2 ⟨rfl, hb2⟩))
    all_goals
      go_wp2_with fail
      go_meet
      exact ⟨by first | rfl | simp, below_step (below_step (by repeat (first | exact Below.refl _ _ | apply below_alloc | apply below_drew1)) hb1) hb2⟩
  case rest =>
    obtain ⟨rfl, hb0⟩ := hcut
    have HB := Lib.hid hb0
    clear hb0
    by_cases ha : a < 0
    · go_wp2_with (go_at_call 36; refine (slowaw_any _).mono ?_; rintro e w1 ⟨rfl, hb1⟩)
      go_ret
      exact ⟨rfl, below_step HB.out hb1⟩
    · by_cases hb : b < 0
      · go_wp2_with (go_at_call 36; refine (slowaw_any _).mono ?_; rintro e w1 ⟨rfl, hb1⟩)
        go_ret
        exact ⟨rfl, below_step HB.out hb1⟩
      · by_cases hc : c < 0
        · go_wp2_with (go_at_call 36; refine (slowaw_any _).mono ?_; rintro e w1 ⟨rfl, hb1⟩)
          go_ret
          exact ⟨rfl, below_step HB.out hb1⟩
        · go_wp2_with (first
            | (go_at_call 37; refine (slow_any _ _ _ _).mono ?_; rintro e w1 ⟨rfl, hb1⟩)
            | (go_at_call 38; refine (slowlaw_any _ _ _ _).mono ?_; rintro e w2 ⟨rfl, hb2⟩)
            | (go_at_call 36; refine (slowaw_any _).mono ?_; rintro e w3 ⟨rfl, hb3⟩))
          go_ret
          exact ⟨rfl, below_step (below_step (below_step HB.out hb1) hb2) hb3⟩
end Go.Proofs.Ytplajmcjkddikaa.Sat
