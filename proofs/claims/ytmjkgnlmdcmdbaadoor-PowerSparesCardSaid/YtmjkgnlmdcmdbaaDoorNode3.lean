/- Package node, by hand walks: nodes claimed, given back, drained; a table that nobody made; law 6's example. -/
import Derived.Test.YtmjkgnlmdcmdbaaDoorNode2
namespace Go.Proofs.YtmjkgnlmdcmdbaaDoor.Node
open Go.RowKit Go.Proofs.YtmjkgnlmdcmdbaaDoorW.PrintWords Go.Proofs.YtmjkgnlmdcmdbaaDoorW.PrintLast Go.Proofs.YtmjkgnlmdcmdbaaDoorW.PrintMore Go.Proofs.YtmjkgnlmdcmdbaaDoor.Row Go.Proofs.YtmjkgnlmdcmdbaaDoor.Sets
set_option linter.unusedVariables false
set_option linter.unusedSimpArgs false
set_option maxRecDepth 100000
def claimE (a u d s : Nat) : Int := if s = 0 then 1 else if minus s (idleS a u d) = 0 then 0 else 11
def claimU (a u d s : Nat) : Nat := if claimE a u d s = 0 then u ||| s else u
theorem Claim_any (b a u d s : Nat) (w : World) (h : NT w b a u d) (hs : Small3 a u d) (h1 : s < 18446744073709551616) :
    Calls Tryd.prog 48 #[.pointer (some ⟨b, 0, none⟩), .int .u64 s] w fun e w' => e = .returned (.int .i64 (claimE a u d s)) ∧ NT w' b a (claimU a u d s) d ∧ Upd b w w' := by
  have K1 := Lib.hid (none_any b a u d w h hs.a0)
  have K2 := Lib.hid (idle_any b a u d w h hs.a1 hs.u1 hs.d1)
  have hlt := h.lt
  have H := Lib.hid h
  have E := minus_val s (idleS a u d) h1 (idleS_lt a u d hs.a1)
  have EO := bits_or_u64_nat u s hs.u1 h1
  by_cases h0 : s = 0
  · obtain ⟨b1, b2⟩ := eq_b s h0
    have e1 : claimE a u d s = 1 := by unfold claimE; rw [if_pos h0]
    have e2 : claimU a u d s = u := by unfold claimU; rw [e1]; rfl
    rw [e1, e2]
    clear e1 e2 h hs h0 E EO
    go_enter Tryd.func48, Tryd.ntmps48
    go_wp2_with (go_at_call 88; refine K1.out.mono ?_; rintro e w2 ⟨rfl, rfl⟩)
    go_ret
    exact ⟨rfl, H.out, Upd.refl _ _⟩
  · obtain ⟨b1, b2⟩ := neq_b s h0
    have c1 := H.out.drew.c1
    have f1 := H.out.drew.f1
    by_cases hq : minus s (idleS a u d) = 0
    · obtain ⟨b3, b4⟩ := eq_b _ hq
      have e1 : claimE a u d s = 0 := by unfold claimE; rw [if_neg h0, if_pos hq]
      have e2 : claimU a u d s = u ||| s := by unfold claimU; rw [e1]; rfl
      rw [e1, e2]
      clear e1 e2 h hs h0 hq
      generalize minus s (idleS a u d) = q at E b3 b4
      go_enter Tryd.func48, Tryd.ntmps48
      go_wp2_with (first | (go_at_call 88; refine K1.out.mono ?_; rintro e w2 ⟨rfl, rfl⟩) | (go_at_call 89; refine K2.out.mono ?_; rintro e w2 ⟨rfl, rfl⟩))
      go_ret
      exact ⟨rfl, H.out.drew.set1 _, ((Upd.refl _ _).drew (Nat.le_of_lt hlt)).setCell 1 _⟩
    · obtain ⟨b3, b4⟩ := neq_b _ hq
      have e1 : claimE a u d s = 11 := by unfold claimE; rw [if_neg h0, if_neg hq]
      have e2 : claimU a u d s = u := by unfold claimU; rw [e1]; rfl
      rw [e1, e2]
      clear e1 e2 h hs h0 hq
      generalize minus s (idleS a u d) = q at E b3 b4
      go_enter Tryd.func48, Tryd.ntmps48
      go_wp2_with (first | (go_at_call 88; refine K1.out.mono ?_; rintro e w2 ⟨rfl, rfl⟩) | (go_at_call 89; refine K2.out.mono ?_; rintro e w2 ⟨rfl, rfl⟩))
      go_ret
      exact ⟨rfl, H.out.drew, (Upd.refl _ _).drew (Nat.le_of_lt hlt)⟩
def giveE (u s : Nat) : Int := if minus s u = 0 then 0 else 11
def giveN (u d s : Nat) : Int := if minus s u = 0 then (lenS (minus s d) : Nat) else 0
def giveU (u s : Nat) : Nat := if minus s u = 0 then minus u s else u
theorem Give_any (b a u d s : Nat) (w : World) (h : NT w b a u d) (hs : Small3 a u d) (h1 : s < 18446744073709551616) :
    Calls Tryd.prog 43 #[.pointer (some ⟨b, 0, none⟩), .int .u64 s] w fun e w' => e = .returned (.tuple #[.int .i64 (giveN u d s), .int .i64 (giveE u s)]) ∧ NT w' b a (giveU u s) d ∧ Upd b w w' := by
  have K1 := Lib.hid (none_any b a u d w h hs.a0)
  have K2 := Lib.hid (fun W => len_any (minus s d) W (minus_lt s d h1))
  have H := Lib.hid h
  have E := minus_val s u h1 hs.u1
  have E2 := minus_val u s hs.u1 h1
  have E3 := minus_val s d h1 hs.d1
  obtain ⟨c0, c1, c2, f0, f1, f2⟩ := id h
  by_cases hq : minus s u = 0
  · obtain ⟨b3, b4⟩ := eq_b _ hq
    have e1 : giveE u s = 0 := by unfold giveE; rw [if_pos hq]
    have e2 : giveU u s = minus u s := by unfold giveU; rw [if_pos hq]
    have e3 : giveN u d s = (lenS (minus s d) : Nat) := by unfold giveN; rw [if_pos hq]
    rw [e1, e2, e3]
    clear e1 e2 e3 h hs hq c0 f0 f2
    generalize minus s u = q at E b3 b4
    generalize minus u s = r at E2 ⊢
    go_enter Tryd.func43, Tryd.ntmps43
    go_wp2_with (first | (go_at_call 88; refine K1.out.mono ?_; rintro e w2 ⟨rfl, rfl⟩) | (go_at_call 32; refine (K2.out _).mono ?_; rintro e w2 ⟨rfl, rfl⟩))
    go_ret2
    exact ⟨rfl, H.out.set1 _, (Upd.refl _ _).setCell 1 _⟩
  · obtain ⟨b3, b4⟩ := neq_b _ hq
    have e1 : giveE u s = 11 := by unfold giveE; rw [if_neg hq]
    have e2 : giveU u s = u := by unfold giveU; rw [if_neg hq]
    have e3 : giveN u d s = 0 := by unfold giveN; rw [if_neg hq]
    rw [e1, e2, e3]
    clear e1 e2 e3 h hs hq c0 f0 f2
    generalize minus s u = q at E b3 b4
    go_enter Tryd.func43, Tryd.ntmps43
    go_wp2_with (go_at_call 88; refine K1.out.mono ?_; rintro e w2 ⟨rfl, rfl⟩)
    go_ret2
    exact ⟨rfl, H.out, Upd.refl _ _⟩
def turnE (a d : Nat) (n : Int) (drain : Bool) : Int := if hasS a n = true then (if hasS d n = drain then 8 else 0) else 11
def turnD (a d : Nat) (n : Int) (drain : Bool) : Nat := if turnE a d n drain = 0 then (if drain = true then withS d n else withoutS d n) else d
theorem Drain_any (b a u d : Nat) (n : Int) (w : World) (h : NT w b a u d) (hs : Small3 a u d) :
    Calls Tryd.prog 37 #[.pointer (some ⟨b, 0, none⟩), .int .i64 n] w fun e w' => e = .returned (.int .i64 (turnE a d n true)) ∧ NT w' b a u (turnD a d n true) ∧ Upd b w w' := by
  have K1 := Lib.hid (none_any b a u d w h hs.a0)
  have KA := Lib.hid (fun W => has_any a n W hs.a1)
  have KD := Lib.hid (fun W => has_any d n W hs.d1)
  have KW := Lib.hid (fun W => with_any d n W hs.d1)
  have H := Lib.hid h
  obtain ⟨c0, c1, c2, f0, f1, f2⟩ := id h
  obtain ⟨x, hx⟩ : ∃ x, hasS a n = x := ⟨_, rfl⟩
  obtain ⟨z, hz⟩ : ∃ z, hasS d n = z := ⟨_, rfl⟩
  have e1 : turnE a d n true = if x = true then (if z = true then 8 else 0) else 11 := by unfold turnE; rw [hx, hz]
  have e2 : turnD a d n true = if turnE a d n true = 0 then withS d n else d := rfl
  rw [e2, e1]
  rw [hx] at KA
  rw [hz] at KD
  clear e1 e2 h hs hx hz c1 f0 f1
  cases x <;> cases z <;>
  · go_enter Tryd.func37, Tryd.ntmps37
    go_wp2_with (first | (go_at_call 88; refine K1.out.mono ?_; rintro e w2 ⟨rfl, rfl⟩) | (go_at_call 29; (with_reducible refine (KA.out _).mono ?_); rintro e w2 ⟨rfl, rfl⟩) | (go_at_call 29; (with_reducible refine (KD.out _).mono ?_); rintro e w2 ⟨rfl, rfl⟩) | (go_at_call 30; refine (KW.out _).mono ?_; rintro e w2 ⟨rfl, rfl⟩))
    go_ret
    exact ⟨rfl, by first | exact H.out | exact H.out.set2 _, by first | exact Upd.refl _ _ | exact (Upd.refl _ _).setCell 2 _⟩
theorem Resume_any (b a u d : Nat) (n : Int) (w : World) (h : NT w b a u d) (hs : Small3 a u d) :
    Calls Tryd.prog 38 #[.pointer (some ⟨b, 0, none⟩), .int .i64 n] w fun e w' => e = .returned (.int .i64 (turnE a d n false)) ∧ NT w' b a u (turnD a d n false) ∧ Upd b w w' := by
  have K1 := Lib.hid (none_any b a u d w h hs.a0)
  have KA := Lib.hid (fun W => has_any a n W hs.a1)
  have KD := Lib.hid (fun W => has_any d n W hs.d1)
  have KW := Lib.hid (fun W => without_any d n W hs.d1)
  have H := Lib.hid h
  obtain ⟨c0, c1, c2, f0, f1, f2⟩ := id h
  obtain ⟨x, hx⟩ : ∃ x, hasS a n = x := ⟨_, rfl⟩
  obtain ⟨z, hz⟩ : ∃ z, hasS d n = z := ⟨_, rfl⟩
  have e1 : turnE a d n false = if x = true then (if z = false then 8 else 0) else 11 := by unfold turnE; rw [hx, hz]
  have e2 : turnD a d n false = if turnE a d n false = 0 then withoutS d n else d := rfl
  rw [e2, e1]
  rw [hx] at KA
  rw [hz] at KD
  clear e1 e2 h hs hx hz c1 f0 f1
  cases x <;> cases z <;>
  · go_enter Tryd.func38, Tryd.ntmps38
    go_wp2_with (first | (go_at_call 88; refine K1.out.mono ?_; rintro e w2 ⟨rfl, rfl⟩) | (go_at_call 29; (with_reducible refine (KA.out _).mono ?_); rintro e w2 ⟨rfl, rfl⟩) | (go_at_call 29; (with_reducible refine (KD.out _).mono ?_); rintro e w2 ⟨rfl, rfl⟩) | (go_at_call 31; refine (KW.out _).mono ?_; rintro e w2 ⟨rfl, rfl⟩))
    go_ret
    exact ⟨rfl, by first | exact H.out | exact H.out.set2 _, by first | exact Upd.refl _ _ | exact (Upd.refl _ _).setCell 2 _⟩
theorem Copy_any (b a u d : Nat) (w : World) (h : NT w b a u d) (hs : Small3 a u d) :
    Calls Tryd.prog 42 #[.pointer (some ⟨b, 0, none⟩)] w fun e w' => e = .returned (.pointer (some ⟨w.heap.size, 0, none⟩)) ∧ NT w' w.heap.size a u d ∧ Below w.heap.size w w' := by
  have K1 := Lib.hid (none_any b a u d w h hs.a0)
  obtain ⟨c0, c1, c2, f0, f1, f2⟩ := id h
  have hl := h.lt
  clear hs
  go_enter Tryd.func42, Tryd.ntmps42
  go_wp2_with (go_at_call 88; refine K1.out.mono ?_; rintro e w2 ⟨rfl, rfl⟩)
  go_ret
  exact ⟨rfl, NT.new w a u d, below_alloc (Below.refl _ _) _⟩
theorem Take_nobody (p : Option Addr) (n : Int) (w : World) (h : Nobody w p) : Calls Tryd.prog 39 #[.pointer p, .int .i64 n] w fun e w' => e = .returned (.tuple #[.int .u64 0, .int .i64 8]) ∧ w = w' := by
  have K := Lib.hid (none_nobody p w h)
  clear h
  go_enter Tryd.func39, Tryd.ntmps39
  go_wp2_with (go_at_call 88; refine K.out.mono ?_; rintro e w2 ⟨rfl, rfl⟩)
  go_ret2
  exact ⟨rfl, rfl⟩
theorem Claim_nobody (p : Option Addr) (s : Nat) (w : World) (h : Nobody w p) : Calls Tryd.prog 48 #[.pointer p, .int .u64 s] w fun e w' => e = .returned (.int .i64 8) ∧ w = w' := by
  have K := Lib.hid (none_nobody p w h)
  clear h
  go_enter Tryd.func48, Tryd.ntmps48
  go_wp2_with (go_at_call 88; refine K.out.mono ?_; rintro e w2 ⟨rfl, rfl⟩)
  go_ret
  exact ⟨rfl, rfl⟩
theorem Give_nobody (p : Option Addr) (s : Nat) (w : World) (h : Nobody w p) : Calls Tryd.prog 43 #[.pointer p, .int .u64 s] w fun e w' => e = .returned (.tuple #[.int .i64 0, .int .i64 8]) ∧ w = w' := by
  have K := Lib.hid (none_nobody p w h)
  clear h
  go_enter Tryd.func43, Tryd.ntmps43
  go_wp2_with (go_at_call 88; refine K.out.mono ?_; rintro e w2 ⟨rfl, rfl⟩)
  go_ret2
  exact ⟨rfl, rfl⟩
theorem Drain_nobody (p : Option Addr) (n : Int) (w : World) (h : Nobody w p) : Calls Tryd.prog 37 #[.pointer p, .int .i64 n] w fun e w' => e = .returned (.int .i64 8) ∧ w = w' := by
  have K := Lib.hid (none_nobody p w h)
  clear h
  go_enter Tryd.func37, Tryd.ntmps37
  go_wp2_with (go_at_call 88; refine K.out.mono ?_; rintro e w2 ⟨rfl, rfl⟩)
  go_ret
  exact ⟨rfl, rfl⟩
theorem Resume_nobody (p : Option Addr) (n : Int) (w : World) (h : Nobody w p) : Calls Tryd.prog 38 #[.pointer p, .int .i64 n] w fun e w' => e = .returned (.int .i64 8) ∧ w = w' := by
  have K := Lib.hid (none_nobody p w h)
  clear h
  go_enter Tryd.func38, Tryd.ntmps38
  go_wp2_with (go_at_call 88; refine K.out.mono ?_; rintro e w2 ⟨rfl, rfl⟩)
  go_ret
  exact ⟨rfl, rfl⟩
theorem State_nobody (p : Option Addr) (n : Int) (w : World) (h : Nobody w p) : Calls Tryd.prog 49 #[.pointer p, .int .i64 n] w fun e w' => e = .returned (.int .i64 0) ∧ w = w' := by
  have K := Lib.hid (none_nobody p w h)
  clear h
  go_enter Tryd.func49, Tryd.ntmps49
  go_wp2_with (go_at_call 88; refine K.out.mono ?_; rintro e w2 ⟨rfl, rfl⟩)
  go_ret
  exact ⟨rfl, rfl⟩
theorem Size_nobody (p : Option Addr) (w : World) (h : Nobody w p) : Calls Tryd.prog 44 #[.pointer p] w fun e w' => e = .returned (.int .i64 0) ∧ w = w' := by
  have K := Lib.hid (none_nobody p w h)
  clear h
  go_enter Tryd.func44, Tryd.ntmps44
  go_wp2_with (go_at_call 88; refine K.out.mono ?_; rintro e w2 ⟨rfl, rfl⟩)
  go_ret
  exact ⟨rfl, rfl⟩
theorem Counts_nobody (p : Option Addr) (w : World) (h : Nobody w p) : Calls Tryd.prog 47 #[.pointer p] w fun e w' => e = .returned (.tuple #[.int .i64 0, .int .i64 0, .int .i64 0]) ∧ w = w' := by
  have K := Lib.hid (none_nobody p w h)
  clear h
  go_enter Tryd.func47, Tryd.ntmps47
  go_wp2_with (go_at_call 88; refine K.out.mono ?_; rintro e w2 ⟨rfl, rfl⟩)
  go_ret3
  exact ⟨rfl, rfl⟩
theorem Idle_nobody (p : Option Addr) (w : World) (h : Nobody w p) : Calls Tryd.prog 40 #[.pointer p] w fun e w' => e = .returned (.int .u64 0) ∧ w = w' := by
  have K := Lib.hid (none_nobody p w h)
  clear h
  go_enter Tryd.func40, Tryd.ntmps40
  go_wp2_with (go_at_call 88; refine K.out.mono ?_; rintro e w2 ⟨rfl, rfl⟩)
  go_ret
  exact ⟨rfl, rfl⟩
theorem Used_nobody (p : Option Addr) (w : World) (h : Nobody w p) : Calls Tryd.prog 41 #[.pointer p] w fun e w' => e = .returned (.int .u64 0) ∧ w = w' := by
  have K := Lib.hid (none_nobody p w h)
  clear h
  go_enter Tryd.func41, Tryd.ntmps41
  go_wp2_with (go_at_call 88; refine K.out.mono ?_; rintro e w2 ⟨rfl, rfl⟩)
  go_ret
  exact ⟨rfl, rfl⟩
theorem Copy_nobody (p : Option Addr) (w : World) (h : Nobody w p) : Calls Tryd.prog 42 #[.pointer p] w fun e w' => e = .returned (.pointer none) ∧ w = w' := by
  have K := Lib.hid (none_nobody p w h)
  clear h
  go_enter Tryd.func42, Tryd.ntmps42
  go_wp2_with (go_at_call 88; refine K.out.mono ?_; rintro e w2 ⟨rfl, rfl⟩)
  go_ret
  exact ⟨rfl, rfl⟩
set_option maxHeartbeats 1000000 in
theorem awake06_any (w : World) (hT : Tab w) : Calls Tryd.prog 36 #[] w fun e w' => e = .returned (.bool true) ∧ Below w.heap.size w w' := by
  have HT := Lib.hid hT
  have sm : ∀ u d, u < 18446744073709551616 → d < 18446744073709551616 → Small3 15 u d := fun u d h1 h2 => ⟨by decide, by decide, h1, h2⟩
  have SM := Lib.hid sm
  have K1 := Lib.hid (new_any 4 w (by decide) (by decide))
  rw [show allS 4 = 15 by decide] at K1
  have K2 := Lib.hid (fun W (h : NT W w.heap.size 15 0 0) (t : Tab W) => Take_any w.heap.size 15 0 0 2 W h (SM.out 0 0 (by decide) (by decide)) t)
  rw [show takeT 15 0 0 2 = 3 by decide +kernel, show takeE 15 0 0 2 = 0 by decide +kernel, show 0 ||| 3 = 3 by decide] at K2
  have K3 := Lib.hid (fun W (h : NT W w.heap.size 15 3 0) => Drain_any w.heap.size 15 3 0 1 W h (SM.out 3 0 (by decide) (by decide)))
  rw [show turnE 15 0 1 true = 0 by decide +kernel, show turnD 15 0 1 true = 2 by decide +kernel] at K3
  have K4 := Lib.hid (fun W (h : NT W w.heap.size 15 3 2) => State_any w.heap.size 15 3 2 1 W h (SM.out 3 2 (by decide) (by decide)))
  rw [show stateS 15 3 2 1 = 3 by decide +kernel] at K4
  have K5 := Lib.hid (fun W (h : NT W w.heap.size 15 3 2) => Give_any w.heap.size 15 3 2 3 W h (SM.out 3 2 (by decide) (by decide)) (by decide))
  rw [show giveN 3 2 3 = 1 by decide +kernel, show giveE 3 3 = 0 by decide +kernel, show giveU 3 3 = 0 by decide +kernel] at K5
  have K6 := Lib.hid (fun W (h : NT W w.heap.size 15 0 2) => State_any w.heap.size 15 0 2 1 W h (SM.out 0 2 (by decide) (by decide)))
  rw [show stateS 15 0 2 1 = 4 by decide +kernel] at K6
  clear sm hT
  have tok : True := trivial
  go_enter Tryd.func36, Tryd.ntmps36
  go_wp2_with (first
    | (go_at_call 35; refine K1.out.mono ?_; rintro e w1 ⟨rfl, hn, hb⟩; have N1 := Lib.hid hn; have B1 := Lib.hid hb; clear hn hb)
    | (go_at_call 39; refine (K2.out _ N1.out (HT.out.below B1.out HT.out.lt)).mono ?_; rintro e w2 ⟨rfl, hn, hb⟩; have N2 := Lib.hid hn; have B2 := Lib.hid (B1.out.trans hb.2); clear hn hb)
    | (go_at_call 37; refine (K3.out _ N2.out).mono ?_; rintro e w3 ⟨rfl, hn, hb⟩; have N3 := Lib.hid hn; have B3 := Lib.hid (B2.out.trans hb.2); clear hn hb)
    | (have _t := tok; go_at_call 49; refine (K4.out _ N3.out).mono ?_; rintro e w4 ⟨rfl, hb⟩; have N4 := Lib.hid (N3.out.below hb N3.out.lt); have B4 := Lib.hid (below_step B3.out hb); clear hb tok _t)
    | (go_at_call 43; refine (K5.out _ N4.out).mono ?_; rintro e w5 ⟨rfl, hn, hb⟩; have N5 := Lib.hid hn; have B5 := Lib.hid (B4.out.trans hb.2); clear hn hb)
    | (go_at_call 49; refine (K6.out _ N5.out).mono ?_; rintro e w6 ⟨rfl, hb⟩; have B6 := Lib.hid (below_step B5.out hb); clear hb))
  go_ret
  exact ⟨rfl, B6.out⟩
set_option maxHeartbeats 1000000 in
theorem NodeNobody_any (n x : Int) (w : World) (hn : (Lit.int .i64 n).wf = true) (hx : (Lit.int .u64 x).wf = true) (hT : Tab w) :
    Calls Tryd.prog 9 #[.int .i64 n, .int .u64 x] w fun e w' => e = .returned (.bool true) ∧ Below w.heap.size w w' := by
  obtain ⟨s, rfl, hs⟩ := u64_out x hx
  have hNT := NT.new w 0 0 0
  have PN : ∀ W, Nobody W none := fun W => .inl rfl
  have PZ : Nobody (w.alloc (.cells #[.int .u64 0, .int .u64 0, .int .u64 0] 64)) (some ⟨w.heap.size, 0, none⟩) := .inr ⟨_, rfl, hNT.c0⟩
  have HN := Lib.hid PN
  have HZ := Lib.hid PZ
  have KW := Lib.hid (awake06_any (w.alloc (.cells #[.int .u64 0, .int .u64 0, .int .u64 0] 64)) (hT.below (below_alloc (Below.refl _ _) _) hT.lt))
  have e0 : bits BinOp.or IntKind.u64 0 0 = 0 := bits_or_u64_nat 0 0 (by decide) (by decide)
  clear hNT PN PZ hn hx hT
  go_enter Tryd.func9, Tryd.ntmps9
  go_wp2_with (first
    | (go_at_call 39; refine (Take_nobody _ _ _ (HN.out _)).mono ?_; rintro e w2 ⟨rfl, rfl⟩)
    | (go_at_call 43; refine (Give_nobody _ _ _ HZ.out).mono ?_; rintro e w2 ⟨rfl, rfl⟩)
    | (go_at_call 47; refine (Counts_nobody _ _ (HN.out _)).mono ?_; rintro e w2 ⟨rfl, rfl⟩)
    | (go_at_call 48; refine (Claim_nobody _ _ _ (HN.out _)).mono ?_; rintro e w2 ⟨rfl, rfl⟩)
    | (go_at_call 37; refine (Drain_nobody _ _ _ HZ.out).mono ?_; rintro e w2 ⟨rfl, rfl⟩)
    | (go_at_call 38; refine (Resume_nobody _ _ _ (HN.out _)).mono ?_; rintro e w2 ⟨rfl, rfl⟩)
    | (go_at_call 49; refine (State_nobody _ _ _ (HN.out _)).mono ?_; rintro e w2 ⟨rfl, rfl⟩)
    | (go_at_call 44; refine (Size_nobody _ _ HZ.out).mono ?_; rintro e w2 ⟨rfl, rfl⟩)
    | (go_at_call 40; refine (Idle_nobody _ _ (HN.out _)).mono ?_; rintro e w2 ⟨rfl, rfl⟩)
    | (go_at_call 41; refine (Used_nobody _ _ HZ.out).mono ?_; rintro e w2 ⟨rfl, rfl⟩)
    | (go_at_call 42; refine (Copy_nobody _ _ (HN.out _)).mono ?_; rintro e w2 ⟨rfl, rfl⟩)
    | (go_at_call 36; refine KW.out.mono ?_; rintro e w3 ⟨rfl, hb3⟩))
  go_ret
  exact ⟨rfl, below_step (below_alloc (Below.refl _ _) _) hb3⟩
end Go.Proofs.YtmjkgnlmdcmdbaaDoor.Node
