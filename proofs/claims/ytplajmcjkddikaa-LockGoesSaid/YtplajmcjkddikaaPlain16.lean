/- The plain locks of the law: they answer as the set does. -/
import Derived.Test.YtplajmcjkddikaaLockLaws
namespace Go.Proofs.Ytplajmcjkddikaa.Lock
open Go.RowKit Go.Proofs.YtplajmcjkddikaaW.PrintWords Go.Proofs.YtplajmcjkddikaaW.PrintLast Go.Proofs.YtplajmcjkddikaaW.PrintMore Go.Proofs.Ytplajmcjkddikaa.Rule
set_option linter.unusedVariables false
set_option linter.unusedSimpArgs false
theorem pfree_arg (b : Nat) (k who : Int) (w : World) (h : k < 0 ∨ 3 ≤ k ∨ who < 1) :
    Calls Try.prog 104 #[.pointer (some ⟨b, 0, none⟩), .int .i64 k, .int .i64 who] w fun e w' => e = .returned (.int .i64 1) ∧ w = w' := by
  rcases (by omega : k < 0 ∨ (0 ≤ k ∧ 3 ≤ k) ∨ (0 ≤ k ∧ k < 3 ∧ who < 1)) with h1 | ⟨h0, h1⟩ | ⟨h0, h1, h2⟩ <;>
  · clear h
    go_enter Try.func104, Try.ntmps104
    go_wp2; go_ret; exact ⟨rfl, rfl⟩
theorem pfree_0 (b : Nat) (x y z t who : Int) (w : World) (h : LS w b x y z t) (hw : 1 ≤ who) :
    Calls Try.prog 104 #[.pointer (some ⟨b, 0, none⟩), .int .i64 0, .int .i64 who] w fun e w' => e = .returned (.int .i64 (if x ≠ who then 8 else 0)) ∧
      (x = who → LS w' b 0 y z t) ∧ (x ≠ who → LS w' b x y z t) ∧ Upd b w w' := by
  have hL := h
  obtain ⟨c0, c1, c2, c3, f0, f1, f2, f3⟩ := h
  by_cases ho : x = who
  · have ho' : (x != who) = false := by simpa using ho
    rw [if_neg (fun h => h ho)]
    have HO := Lib.hid ho
    clear ho
    go_enter Try.func104, Try.ntmps104
    go_wp2
    go_ret
    exact ⟨rfl, fun _ => hL.set0 0, fun h => absurd HO.out h, (Upd.refl b w).setCell 0 _⟩
  · have ho' : (x != who) = true := by simpa using ho
    rw [if_pos ho]
    go_enter Try.func104, Try.ntmps104
    go_wp2
    go_ret
    exact ⟨rfl, fun h => absurd h ho, fun _ => hL, Upd.refl _ _⟩
theorem pfree_1 (b : Nat) (x y z t who : Int) (w : World) (h : LS w b x y z t) (hw : 1 ≤ who) :
    Calls Try.prog 104 #[.pointer (some ⟨b, 0, none⟩), .int .i64 1, .int .i64 who] w fun e w' => e = .returned (.int .i64 (if y ≠ who then 8 else 0)) ∧
      (y = who → LS w' b x 0 z t) ∧ (y ≠ who → LS w' b x y z t) ∧ Upd b w w' := by
  have hL := h
  obtain ⟨c0, c1, c2, c3, f0, f1, f2, f3⟩ := h
  by_cases ho : y = who
  · have ho' : (y != who) = false := by simpa using ho
    rw [if_neg (fun h => h ho)]
    have HO := Lib.hid ho
    clear ho
    go_enter Try.func104, Try.ntmps104
    go_wp2
    go_ret
    exact ⟨rfl, fun _ => hL.set1 0, fun h => absurd HO.out h, (Upd.refl b w).setCell 1 _⟩
  · have ho' : (y != who) = true := by simpa using ho
    rw [if_pos ho]
    go_enter Try.func104, Try.ntmps104
    go_wp2
    go_ret
    exact ⟨rfl, fun h => absurd h ho, fun _ => hL, Upd.refl _ _⟩
theorem pfree_2 (b : Nat) (x y z t who : Int) (w : World) (h : LS w b x y z t) (hw : 1 ≤ who) :
    Calls Try.prog 104 #[.pointer (some ⟨b, 0, none⟩), .int .i64 2, .int .i64 who] w fun e w' => e = .returned (.int .i64 (if z ≠ who then 8 else 0)) ∧
      (z = who → LS w' b x y 0 t) ∧ (z ≠ who → LS w' b x y z t) ∧ Upd b w w' := by
  have hL := h
  obtain ⟨c0, c1, c2, c3, f0, f1, f2, f3⟩ := h
  by_cases ho : z = who
  · have ho' : (z != who) = false := by simpa using ho
    rw [if_neg (fun h => h ho)]
    have HO := Lib.hid ho
    clear ho
    go_enter Try.func104, Try.ntmps104
    go_wp2
    go_ret
    exact ⟨rfl, fun _ => hL.set2 0, fun h => absurd HO.out h, (Upd.refl b w).setCell 2 _⟩
  · have ho' : (z != who) = true := by simpa using ho
    rw [if_pos ho]
    go_enter Try.func104, Try.ntmps104
    go_wp2
    go_ret
    exact ⟨rfl, fun h => absurd h ho, fun _ => hL, Upd.refl _ _⟩
theorem pfree_any (b : Nat) (x y z t k who : Int) (w : World) (h : LS w b x y z t) :
    Calls Try.prog 104 #[.pointer (some ⟨b, 0, none⟩), .int .i64 k, .int .i64 who] w fun e w' => e = .returned (.int .i64 (freeE x y z k who)) ∧
      LS w' b (fr x y z k who).1 (fr x y z k who).2.1 (fr x y z k who).2.2 t ∧ Upd b w w' := by
  by_cases hk : k < 0 ∨ 3 ≤ k ∨ who < 1
  · have E : freeE x y z k who = 1 := by unfold freeE; rw [if_pos hk]
    have E2 : fr x y z k who = (x, y, z) := by unfold fr; rw [E]; rfl
    rw [E, E2]
    refine (pfree_arg b k who w hk).mono ?_
    rintro e w' ⟨rfl, rfl⟩
    exact ⟨rfl, h, Upd.refl _ _⟩
  · rcases (by omega : k = 0 ∨ k = 1 ∨ k = 2) with rfl | rfl | rfl
    · have E : freeE x y z 0 who = if x ≠ who then 8 else 0 := by unfold freeE; rw [if_neg hk]; rfl
      refine (pfree_0 b x y z t who w h (by omega)).mono ?_
      rintro e w' ⟨rfl, h1, h2, h3⟩
      refine ⟨by rw [E], ?_, h3⟩
      by_cases ho : x = who
      · have E2 : fr x y z 0 who = put3 x y z 0 0 := by unfold fr; rw [E, if_neg (c := x ≠ who) (fun h => h ho), if_pos rfl]
        rw [E2]; exact h1 ho
      · have E2 : fr x y z 0 who = (x, y, z) := by unfold fr; rw [E, if_pos (c := x ≠ who) ho, if_neg (by decide)]
        rw [E2]; exact h2 ho
    · have E : freeE x y z 1 who = if y ≠ who then 8 else 0 := by unfold freeE; rw [if_neg hk]; rfl
      refine (pfree_1 b x y z t who w h (by omega)).mono ?_
      rintro e w' ⟨rfl, h1, h2, h3⟩
      refine ⟨by rw [E], ?_, h3⟩
      by_cases ho : y = who
      · have E2 : fr x y z 1 who = put3 x y z 1 0 := by unfold fr; rw [E, if_neg (c := y ≠ who) (fun h => h ho), if_pos rfl]
        rw [E2]; exact h1 ho
      · have E2 : fr x y z 1 who = (x, y, z) := by unfold fr; rw [E, if_pos (c := y ≠ who) ho, if_neg (by decide)]
        rw [E2]; exact h2 ho
    · have E : freeE x y z 2 who = if z ≠ who then 8 else 0 := by unfold freeE; rw [if_neg hk]; rfl
      refine (pfree_2 b x y z t who w h (by omega)).mono ?_
      rintro e w' ⟨rfl, h1, h2, h3⟩
      refine ⟨by rw [E], ?_, h3⟩
      by_cases ho : z = who
      · have E2 : fr x y z 2 who = put3 x y z 2 0 := by unfold fr; rw [E, if_neg (c := z ≠ who) (fun h => h ho), if_pos rfl]
        rw [E2]; exact h1 ho
      · have E2 : fr x y z 2 who = (x, y, z) := by unfold fr; rw [E, if_pos (c := z ≠ who) ho, if_neg (by decide)]
        rw [E2]; exact h2 ho

set_option maxHeartbeats 1000000 in
theorem pall_any (b : Nat) (x y z t who : Int) (w : World) (h : LS w b x y z t) :
    Calls Try.prog 105 #[.pointer (some ⟨b, 0, none⟩), .int .i64 who] w fun e w' => e = .returned (.int .i64 (allN x y z who)) ∧
      LS w' b (allS x y z who).1 (allS x y z who).2.1 (allS x y z who).2.2 t ∧ Upd b w w' := by
  have E1 : allN x y z who = one (freeE x y z 0 who) + one (freeE (fr x y z 0 who).1 (fr x y z 0 who).2.1 (fr x y z 0 who).2.2 1 who) + one (freeE (fr (fr x y z 0 who).1 (fr x y z 0 who).2.1 (fr x y z 0 who).2.2 1 who).1 (fr (fr x y z 0 who).1 (fr x y z 0 who).2.1 (fr x y z 0 who).2.2 1 who).2.1 (fr (fr x y z 0 who).1 (fr x y z 0 who).2.1 (fr x y z 0 who).2.2 1 who).2.2 2 who) := rfl
  have E2 : allS x y z who = fr (fr (fr x y z 0 who).1 (fr x y z 0 who).2.1 (fr x y z 0 who).2.2 1 who).1 (fr (fr x y z 0 who).1 (fr x y z 0 who).2.1 (fr x y z 0 who).2.2 1 who).2.1 (fr (fr x y z 0 who).1 (fr x y z 0 who).2.1 (fr x y z 0 who).2.2 1 who).2.2 2 who := rfl
  rw [E1, E2]
  clear E1 E2
  have h1 := fun w => pfree_any b x y z t 0 who w
  generalize fr x y z 0 who = a at *
  have h2 := fun w => pfree_any b a.1 a.2.1 a.2.2 t 1 who w
  generalize fr a.1 a.2.1 a.2.2 1 who = c at *
  have h3 := fun w => pfree_any b c.1 c.2.1 c.2.2 t 2 who w
  generalize fr c.1 c.2.1 c.2.2 2 who = d at *
  generalize freeE x y z 0 who = e1 at *
  generalize freeE a.1 a.2.1 a.2.2 1 who = e2 at *
  generalize freeE c.1 c.2.1 c.2.2 2 who = e3 at *
  have H1 := Lib.hid h1
  have H2 := Lib.hid h2
  have H3 := Lib.hid h3
  clear h1 h2 h3
  go_enter Try.func105, Try.ntmps105
  go_wp2
  refine wp_loop_rounds 4 ?_
  rw [rounds_succ]
  go_wp2_with (go_at_call 104; refine (H1.out _ h).mono ?_; rintro e w1 ⟨rfl, hl1, hk1⟩)
  all_goals (rw [rounds_succ]; go_wp2_with (go_at_call 104; refine (H2.out _ hl1).mono ?_; rintro e w2 ⟨rfl, hl2, hk2⟩))
  all_goals (rw [rounds_succ]; go_wp2_with (go_at_call 104; refine (H3.out _ hl2).mono ?_; rintro e w3 ⟨rfl, hl3, hk3⟩))
  all_goals (rw [rounds_succ]; go_wp2)
  all_goals
    go_ret
    refine ⟨ret_i (by unfold one; simp_all), hl3, (hk1.trans hk2).trans hk3⟩
theorem ptry_arg (b : Nat) (k who : Int) (w : World) (h : k < 0 ∨ 3 ≤ k ∨ who < 1) :
    Calls Try.prog 103 #[.pointer (some ⟨b, 0, none⟩), .int .i64 k, .int .i64 who] w fun e w' => e = .returned (.int .i64 1) ∧ w = w' := by
  rcases (by omega : k < 0 ∨ (0 ≤ k ∧ 3 ≤ k) ∨ (0 ≤ k ∧ k < 3 ∧ who < 1)) with h1 | ⟨h0, h1⟩ | ⟨h0, h1, h2⟩ <;>
  · clear h
    go_enter Try.func103, Try.ntmps103
    go_wp2; go_ret; exact ⟨rfl, rfl⟩
theorem ptry_0 (b : Nat) (x y z t who : Int) (w : World) (h : LS w b x y z t) (hw : 1 ≤ who) (ht : 0 ≤ t ∧ t < 4611686018427387904) :
    Calls Try.prog 103 #[.pointer (some ⟨b, 0, none⟩), .int .i64 0, .int .i64 who] w fun e w' => e = .returned (.int .i64 (tryE x y z 0 who)) ∧
      (tryE x y z 0 who = 0 → LS w' b who y z (t + 1)) ∧ (tryE x y z 0 who ≠ 0 → LS w' b x y z t) ∧ Upd b w w' := by
  obtain ⟨ht0, ht1⟩ := ht
  have hL := h
  obtain ⟨c0, c1, c2, c3, f0, f1, f2, f3⟩ := h
  by_cases hx : x = who
  · have E : tryE x y z 0 who = 17 := by
      unfold tryE nextS
      rw [if_neg (by omega)]
      simp [hx]
    have ex : (x == who) = true := by simpa using hx
    rw [E]
    clear hx E
    go_enter Try.func103, Try.ntmps103
    go_wp2
    go_rounds 4
    go_ret
    exact ⟨rfl, fun h => absurd h (by decide), fun _ => hL, Upd.refl _ _⟩
  have ex : (x == who) = false := by simpa using hx
  by_cases hy : y = who
  · have E : tryE x y z 0 who = 17 := by
      unfold tryE nextS
      rw [if_neg (by omega)]
      simp [hy, hx]
    have ey : (y == who) = true := by simpa using hy
    rw [E]
    clear hy E
    go_enter Try.func103, Try.ntmps103
    go_wp2
    go_rounds 4
    go_ret
    exact ⟨rfl, fun h => absurd h (by decide), fun _ => hL, Upd.refl _ _⟩
  have ey : (y == who) = false := by simpa using hy
  by_cases hz : z = who
  · have E : tryE x y z 0 who = 17 := by
      unfold tryE nextS
      rw [if_neg (by omega)]
      simp [hz, hx, hy]
    have ez : (z == who) = true := by simpa using hz
    rw [E]
    clear hz E
    go_enter Try.func103, Try.ntmps103
    go_wp2
    go_rounds 4
    go_ret
    exact ⟨rfl, fun h => absurd h (by decide), fun _ => hL, Upd.refl _ _⟩
  have ez : (z == who) = false := by simpa using hz
  have HN : Hid (tryE x y z 0 who = if x ≠ 0 then 18 else 0) := Lib.hid (by
    unfold tryE nextS at3
    rw [if_neg (by omega)]
    simp [hx, hy, hz])
  clear hx hy hz
  by_cases ho : x = 0
  · have E := HN.out.trans (if_neg (fun h => h ho))
    have e9 : (x != 0) = false := by simpa using ho
    rw [E]
    clear ho E HN
    go_enter Try.func103, Try.ntmps103
    go_wp2
    go_rounds 4
    go_ret
    exact ⟨rfl, fun _ => (hL.set0 who).set3 (t + 1), fun h => absurd rfl h, ((Upd.refl b w).setCell 0 _).setCell 3 _⟩
  · have E := HN.out.trans (if_pos ho)
    have e9 : (x != 0) = true := by simpa using ho
    rw [E]
    clear ho E HN
    go_enter Try.func103, Try.ntmps103
    go_wp2
    go_rounds 4
    go_ret
    exact ⟨rfl, fun h => absurd h (by decide), fun _ => hL, Upd.refl _ _⟩
theorem ptry_1 (b : Nat) (x y z t who : Int) (w : World) (h : LS w b x y z t) (hw : 1 ≤ who) (ht : 0 ≤ t ∧ t < 4611686018427387904) :
    Calls Try.prog 103 #[.pointer (some ⟨b, 0, none⟩), .int .i64 1, .int .i64 who] w fun e w' => e = .returned (.int .i64 (tryE x y z 1 who)) ∧
      (tryE x y z 1 who = 0 → LS w' b x who z (t + 1)) ∧ (tryE x y z 1 who ≠ 0 → LS w' b x y z t) ∧ Upd b w w' := by
  obtain ⟨ht0, ht1⟩ := ht
  have hL := h
  obtain ⟨c0, c1, c2, c3, f0, f1, f2, f3⟩ := h
  by_cases hy : y = who
  · have E : tryE x y z 1 who = 17 := by
      unfold tryE nextS
      rw [if_neg (by omega)]
      simp [hy]
    have ey : (y == who) = true := by simpa using hy
    rw [E]
    clear hy E
    go_enter Try.func103, Try.ntmps103
    go_wp2
    go_rounds 4
    go_ret
    exact ⟨rfl, fun h => absurd h (by decide), fun _ => hL, Upd.refl _ _⟩
  have ey : (y == who) = false := by simpa using hy
  by_cases hz : z = who
  · have E : tryE x y z 1 who = 17 := by
      unfold tryE nextS
      rw [if_neg (by omega)]
      simp [hz, hy]
    have ez : (z == who) = true := by simpa using hz
    rw [E]
    clear hz E
    go_enter Try.func103, Try.ntmps103
    go_wp2
    go_rounds 4
    go_ret
    exact ⟨rfl, fun h => absurd h (by decide), fun _ => hL, Upd.refl _ _⟩
  have ez : (z == who) = false := by simpa using hz
  have HN : Hid (tryE x y z 1 who = if y ≠ 0 then 18 else 0) := Lib.hid (by
    unfold tryE nextS at3
    rw [if_neg (by omega)]
    simp [hy, hz])
  clear hy hz
  by_cases ho : y = 0
  · have E := HN.out.trans (if_neg (fun h => h ho))
    have e9 : (y != 0) = false := by simpa using ho
    rw [E]
    clear ho E HN
    go_enter Try.func103, Try.ntmps103
    go_wp2
    go_rounds 4
    go_ret
    exact ⟨rfl, fun _ => (hL.set1 who).set3 (t + 1), fun h => absurd rfl h, ((Upd.refl b w).setCell 1 _).setCell 3 _⟩
  · have E := HN.out.trans (if_pos ho)
    have e9 : (y != 0) = true := by simpa using ho
    rw [E]
    clear ho E HN
    go_enter Try.func103, Try.ntmps103
    go_wp2
    go_rounds 4
    go_ret
    exact ⟨rfl, fun h => absurd h (by decide), fun _ => hL, Upd.refl _ _⟩
theorem ptry_2 (b : Nat) (x y z t who : Int) (w : World) (h : LS w b x y z t) (hw : 1 ≤ who) (ht : 0 ≤ t ∧ t < 4611686018427387904) :
    Calls Try.prog 103 #[.pointer (some ⟨b, 0, none⟩), .int .i64 2, .int .i64 who] w fun e w' => e = .returned (.int .i64 (tryE x y z 2 who)) ∧
      (tryE x y z 2 who = 0 → LS w' b x y who (t + 1)) ∧ (tryE x y z 2 who ≠ 0 → LS w' b x y z t) ∧ Upd b w w' := by
  obtain ⟨ht0, ht1⟩ := ht
  have hL := h
  obtain ⟨c0, c1, c2, c3, f0, f1, f2, f3⟩ := h
  by_cases hz : z = who
  · have E : tryE x y z 2 who = 17 := by
      unfold tryE nextS
      rw [if_neg (by omega)]
      simp [hz]
    have ez : (z == who) = true := by simpa using hz
    rw [E]
    clear hz E
    go_enter Try.func103, Try.ntmps103
    go_wp2
    go_rounds 4
    go_ret
    exact ⟨rfl, fun h => absurd h (by decide), fun _ => hL, Upd.refl _ _⟩
  have ez : (z == who) = false := by simpa using hz
  have HN : Hid (tryE x y z 2 who = if z ≠ 0 then 18 else 0) := Lib.hid (by
    unfold tryE nextS at3
    rw [if_neg (by omega)]
    simp [hz])
  clear hz
  by_cases ho : z = 0
  · have E := HN.out.trans (if_neg (fun h => h ho))
    have e9 : (z != 0) = false := by simpa using ho
    rw [E]
    clear ho E HN
    go_enter Try.func103, Try.ntmps103
    go_wp2
    go_rounds 4
    go_ret
    exact ⟨rfl, fun _ => (hL.set2 who).set3 (t + 1), fun h => absurd rfl h, ((Upd.refl b w).setCell 2 _).setCell 3 _⟩
  · have E := HN.out.trans (if_pos ho)
    have e9 : (z != 0) = true := by simpa using ho
    rw [E]
    clear ho E HN
    go_enter Try.func103, Try.ntmps103
    go_wp2
    go_rounds 4
    go_ret
    exact ⟨rfl, fun h => absurd h (by decide), fun _ => hL, Upd.refl _ _⟩
theorem ptry_any (b : Nat) (x y z t k who : Int) (w : World) (h : LS w b x y z t) (ht : 0 ≤ t ∧ t < 4611686018427387904) :
    Calls Try.prog 103 #[.pointer (some ⟨b, 0, none⟩), .int .i64 k, .int .i64 who] w fun e w' => e = .returned (.int .i64 (tryE x y z k who)) ∧
      (tryE x y z k who = 0 → LS w' b (put3 x y z k who).1 (put3 x y z k who).2.1 (put3 x y z k who).2.2 (t + 1)) ∧ (tryE x y z k who ≠ 0 → LS w' b x y z t) ∧ Upd b w w' := by
  by_cases hk : k < 0 ∨ 3 ≤ k ∨ who < 1
  · have E : tryE x y z k who = 1 := by unfold tryE; rw [if_pos hk]
    rw [E]
    refine (ptry_arg b k who w hk).mono ?_
    rintro e w' ⟨rfl, rfl⟩
    exact ⟨rfl, fun h => absurd h (by decide), fun _ => h, Upd.refl _ _⟩
  · rcases (by omega : k = 0 ∨ k = 1 ∨ k = 2) with rfl | rfl | rfl
    · exact ptry_0 b x y z t who w h (by omega) ht
    · exact ptry_1 b x y z t who w h (by omega) ht
    · exact ptry_2 b x y z t who w h (by omega) ht
end Go.Proofs.Ytplajmcjkddikaa.Lock
