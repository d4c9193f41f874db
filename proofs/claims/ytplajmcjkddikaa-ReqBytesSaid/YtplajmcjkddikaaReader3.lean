/- The reader's methods Bool, Text, End; and Read. -/
import Derived.Test.YtplajmcjkddikaaReader2
namespace Go.Proofs.Ytplajmcjkddikaa.Reader
open Go.RowKit Go.Proofs.YtplajmcjkddikaaW.PrintWords Go.Proofs.YtplajmcjkddikaaW.PrintLast Go.Proofs.YtplajmcjkddikaaW.PrintMore Go.Proofs.Ytplajmcjkddikaa.Leb Go.Proofs.Ytplajmcjkddikaa.Wire Go.Proofs.Ytplajmcjkddikaa.Lock
set_option linter.unusedVariables false
set_option linter.unusedSimpArgs false
theorem byteS_lt (xs : List Int) (hx : ∀ c ∈ xs, 0 ≤ c ∧ c < 256) (e : Int) : 0 ≤ (byteS e xs).1 ∧ (byteS e xs).1 < 256 := by
  cases xs with
  | nil => simp [byteS]
  | cons x t =>
    have := hx x (by simp)
    simp only [byteS]
    split
    · exact this
    · exact ⟨by simp, by simp⟩
theorem byteS_bytes (xs : List Int) (hx : ∀ c ∈ xs, 0 ≤ c ∧ c < 256) (e : Int) : ∀ c ∈ (byteS e xs).2.2, 0 ≤ c ∧ c < 256 := by
  cases xs with
  | nil => intro c hc; simp [byteS] at hc
  | cons x t =>
    intro c hc
    simp only [byteS] at hc
    split at hc
    · exact hx c (List.mem_cons_of_mem _ hc)
    · exact hx c hc
set_option maxRecDepth 100000 in
theorem bool_rd (w0 w : World) (g : Nat) (xs : List Int) (e : Int) (hx : ∀ c ∈ xs, 0 ≤ c ∧ c < 256) (h : RS w0 w g xs e) :
    Calls Try.prog 51 #[.pointer (some ⟨g, 0, none⟩)] w fun r w' => r = .returned (.bool (boolS e xs).1) ∧ RS w0 w' g (boolS e xs).2.2 (boolS e xs).2.1 ∧ Upd g w w' := by
  have hB := byte_any w0 w g xs e h
  have hc := byteS_lt xs hx e
  unfold boolS
  generalize byteS e xs = r at hB hc ⊢
  obtain ⟨c, er, rest⟩ := r
  simp only at hB hc ⊢
  clear h hx
  by_cases h1 : c > 1
  · rw [if_pos h1]
    have b1 : decide (c > 1) = true := by simpa using h1
    have b2 : (c == 1) = false := by simp; omega
    have hF := fun w1 (h : RS w0 w1 g rest er) => fail_any w0 w1 g rest er 4 h
    simp only
    generalize (if er = 0 then 4 else er) = e2 at hF ⊢
    go_enter Try.func51, Try.ntmps51
    go_wp2_with (first
      | (go_at_call 101; refine hB.mono ?_; rintro r w1 ⟨rfl, hr1, hu1⟩)
      | (go_at_call 100; refine (hF _ hr1).mono ?_; rintro r w2 ⟨rfl, hr2, hu2⟩))
    go_ret
    exact ⟨rfl, hr2, hu1.trans hu2⟩
  · rw [if_neg h1]
    have b1 : decide (c > 1) = false := by simpa using h1
    go_enter Try.func51, Try.ntmps51
    go_wp2_with (go_at_call 101; refine hB.mono ?_; rintro r w1 ⟨rfl, hr1, hu1⟩)
    go_ret
    exact ⟨rfl, hr1, hu1⟩

def endS (e : Int) (xs : List Int) : Int := if e = 0 ∧ xs ≠ [] then 3 else e
set_option maxRecDepth 100000 in
theorem end_rd (w0 w : World) (g : Nat) (xs : List Int) (e : Int) (h : RS w0 w g xs e) :
    Calls Try.prog 54 #[.pointer (some ⟨g, 0, none⟩)] w fun r w' => r = .returned (.int .i64 (endS e xs)) ∧ RS w0 w' g xs (endS e xs) ∧ Upd g w w' := by
  have hu := Try.underlying123
  have hL := left_any w0 w g xs e h
  unfold endS
  by_cases h1 : e = 0 ∧ xs ≠ []
  · rw [if_pos h1]
    have hl : (if e = 0 then (xs.length : Int) else 0) = xs.length := if_pos h1.1
    rw [hl] at hL
    have hp : 0 < xs.length := List.length_pos_iff.2 h1.2
    have b1 : decide ((xs.length : Int) > 0) = true := by simp; omega
    have hF := fail_any w0 w g xs e 3 h
    rw [if_pos h1.1] at hF
    clear h1 hl
    go_enter Try.func54, Try.ntmps54
    go_wp2_with (first
      | (go_at_call 53; refine hL.mono ?_; rintro r w1 ⟨rfl, rfl⟩)
      | (go_at_call 100; refine hF.mono ?_; rintro r w2 ⟨rfl, hr2, hu2⟩; obtain ⟨A1, c1, hbk, _, _⟩ := hr2.ex; have hce : w2.cell? ⟨g, 1, none⟩ = some (.int .i64 3) := (blk_cell hbk 1).trans rfl))
    go_ret
    exact ⟨rfl, hr2, hu2⟩
  · rw [if_neg h1]
    have hl : (if e = 0 then (xs.length : Int) else 0) = 0 := by
      split
      · have : xs = [] := Classical.byContradiction fun hn => h1 ⟨by assumption, hn⟩
        rw [this]; rfl
      · rfl
    rw [hl] at hL
    obtain ⟨A1, c1, hbk, _, _⟩ := h.ex
    have hce : w.cell? ⟨g, 1, none⟩ = some (.int .i64 e) := (blk_cell hbk 1).trans rfl
    clear h1 hl
    go_enter Try.func54, Try.ntmps54
    go_wp2_with (go_at_call 53; refine hL.mono ?_; rintro r w1 ⟨rfl, rfl⟩)
    go_ret
    exact ⟨rfl, h, Upd.refl _ _⟩

theorem info_u8 : (Try.prog.info? 5).map (fun i => (i.zero, i.size, i.bytes)) = some (some (.int .u8 0), 1, 1) := by kernel_rfl
theorem cut_rd {P : Program} {t e : TypeId} {i : TypeInfo} (ht : P.underlying t = some (.slice e)) (hi : P.info? e = some i) (hsz : i.size = 1) (A : Option Addr) (c : Nat) (ys : List Int) (m : Nat) (hm : m ≤ ys.length) (hc : ys.length ≤ c) {w : World} (hC : Kd.C (Kd.int .u8) w A ys.length ys) :
    ∃ A2, (∀ W : World, (Instr.slice t (.slice A ys.length c) (some (.int .i64 (m : Int))) none none).run P W = .ok (.slice A2 (ys.length - m) (c - m)) W) ∧ Kd.C (Kd.int .u8) w A2 (ys.drop m).length (ys.drop m) := by
  have h1 := cut_from (P := P) t e .i64 ht hi 1 hsz A ys.length c (m : Int) (by omega) (by omega)
  rw [Int.toNat_natCast] at h1
  exact ⟨_, h1, Kd.C_drop hC hm hc⟩
theorem conv_rd {P : Program} {t e d : TypeId} (ht : P.underlying t = some (.slice e)) (he : P.underlying e = some (.int .u8)) (hd : P.underlying d = some .string) {A : Option Addr} {ys : List Int} {w w1 : World} (hC : Kd.C (Kd.int .u8) w A ys.length ys) (hb : Below w.heap.size w w1) {m : Nat} (hm : m ≤ ys.length) (c : Nat) :
    (convert t d (.slice A m c)).run P w1 = .ok (.string (strOfNums (ys.take m))) w1 := by
  have := Kd.C_string (c := c) ht he hd (Kd.C_take (Kd.C_below hC hb) hm)
  rwa [show (ys.take m).length = m by rw [List.length_take]; omega] at this
/-- what a text is read as: its bytes, the error, what is left -/
def textS (most e : Int) (xs : List Int) : List Int × Int × List Int :=
  if (numS e xs).2.1 ≠ 0 then ([], (numS e xs).2.1, (numS e xs).2.2)
  else if (numS e xs).1 > most then ([], 3, (numS e xs).2.2)
  else if (numS e xs).1 > (numS e xs).2.2.length then ([], 2, (numS e xs).2.2)
  else ((numS e xs).2.2.take (numS e xs).1.toNat, 0, (numS e xs).2.2.drop (numS e xs).1.toNat)
theorem numS_pos (e : Int) (xs : List Int) : 0 ≤ (numS e xs).1 := by unfold numS; split <;> simp
set_option maxRecDepth 100000 in
set_option maxHeartbeats 1000000 in
theorem text_rd (w0 w : World) (g : Nat) (xs : List Int) (e most : Int) (hx : ∀ c ∈ xs, 0 ≤ c ∧ c < 256) (h : RS w0 w g xs e) :
    Calls Try.prog 52 #[.pointer (some ⟨g, 0, none⟩), .int .i64 most] w fun r w' => r = .returned (.string (strOfNums (textS most e xs).1)) ∧ RS w0 w' g (textS most e xs).2.2 (textS most e xs).2.1 ∧ Upd g w w' := by
  have hu := Try.underlying123
  have U1 := Try.underlying38
  have U2 := Try.underlying5
  have U3 := Try.underlying9
  have hN := num_rd w0 w g xs e hx h
  have h0 := numS_pos e xs
  unfold textS
  generalize numS e xs = r at hN h0 ⊢
  obtain ⟨n, er, ys⟩ := r
  simp only at hN h0 ⊢
  clear h hx
  by_cases he : er = 0
  · subst he
    have b0 : ((0 : Int) != 0) = false := rfl
    rw [if_neg (by simp)]
    by_cases h1 : n > most
    · rw [if_pos h1]
      have b1 : decide (n > most) = true := by simpa using h1
      have hF := fun w1 (h : RS w0 w1 g ys 0) => fail_any w0 w1 g ys 0 3 h
      simp only [if_true] at hF
      go_enter Try.func52, Try.ntmps52
      go_wp2_with (first
        | (go_at_call 50; refine hN.mono ?_; rintro r w1 ⟨rfl, hr1, hu1⟩; obtain ⟨A1, c1, hbk, _, _⟩ := hr1.ex; have hcs : w1.cell? ⟨g, 0, none⟩ = some (.slice A1 ys.length c1) := (blk_cell hbk 0).trans rfl; have hce : w1.cell? ⟨g, 1, none⟩ = some (.int .i64 0) := (blk_cell hbk 1).trans rfl)
        | (go_at_call 100; refine (hF _ hr1).mono ?_; rintro r w2 ⟨rfl, hr2, hu2⟩))
      go_ret
      exact ⟨rfl, hr2, hu1.trans hu2⟩
    · rw [if_neg h1]
      have b1 : decide (n > most) = false := by simpa using h1
      by_cases h2 : n > (ys.length : Int)
      · rw [if_pos h2]
        have b2 : decide (n > (ys.length : Int)) = true := by simpa using h2
        have hF := fun w1 (h : RS w0 w1 g ys 0) => fail_any w0 w1 g ys 0 2 h
        simp only [if_true] at hF
        go_enter Try.func52, Try.ntmps52
        go_wp2_with (first
          | (go_at_call 50; refine hN.mono ?_; rintro r w1 ⟨rfl, hr1, hu1⟩; obtain ⟨A1, c1, hbk, _, _⟩ := hr1.ex; have hcs : w1.cell? ⟨g, 0, none⟩ = some (.slice A1 ys.length c1) := (blk_cell hbk 0).trans rfl; have hce : w1.cell? ⟨g, 1, none⟩ = some (.int .i64 0) := (blk_cell hbk 1).trans rfl)
          | (go_at_call 100; refine (hF _ hr1).mono ?_; rintro r w2 ⟨rfl, hr2, hu2⟩))
        go_ret
        exact ⟨rfl, hr2, hu1.trans hu2⟩
      · rw [if_neg h2]
        have b2 : decide (n > (ys.length : Int)) = false := by simpa using h2
        obtain ⟨m, rfl⟩ := Int.eq_ofNat_of_zero_le h0
        have hm : m ≤ ys.length := by omega
        rw [Int.toNat_natCast]
        obtain ⟨i0, hi, hz0, hz1, hz2⟩ := info_parts info_u8
        have htl : (ys.take m).length = m := by rw [List.length_take]; omega
        have HT := Lib.hid htl
        clear htl
        go_enter Try.func52, Try.ntmps52
        go_wp2_with (go_at_call 50; refine hN.mono ?_; rintro r w1 ⟨rfl, hr1, hu1⟩; obtain ⟨A1, c1, hbk, hC, hc⟩ := hr1.ex; have hcs : w1.cell? ⟨g, 0, none⟩ = some (.slice A1 ys.length c1) := (blk_cell hbk 0).trans rfl; have hce : w1.cell? ⟨g, 1, none⟩ = some (.int .i64 0) := (blk_cell hbk 1).trans rfl; have hf := blk_frozen hbk 0; have k1 := cut_to (P := Try.prog) 38 5 .i64 U1 hi A1 ys.length c1 (m : Int) (by omega) (by omega) hc; obtain ⟨A2, k2, hA2⟩ := cut_rd U1 hi hz1 A1 c1 ys m hm hc hC; have k3 := conv_rd U1 U2 U3 hC hr1.low hm c1)
        go_ret
        exact ⟨rfl, ⟨⟨A2, c1 - m, by simpa [List.length_drop] using blk_set hbk 0 (.slice A2 (ys.length - m) (c1 - m)), hA2, by rw [List.length_drop]; omega⟩, hr1.base, hr1.low.setCell hr1.base _⟩, hu1.setCell 0 _⟩
  · rw [if_pos he]
    have b0 : (er != 0) = true := by simpa using he
    go_enter Try.func52, Try.ntmps52
    go_wp2_with (go_at_call 50; refine hN.mono ?_; rintro r w1 ⟨rfl, hr1, hu1⟩; obtain ⟨A1, c1, hbk, _, _⟩ := hr1.ex; have hce : w1.cell? ⟨g, 1, none⟩ = some (.int .i64 er) := (blk_cell hbk 1).trans rfl)
    go_ret
    exact ⟨rfl, hr1, hu1⟩
set_option maxRecDepth 100000 in
theorem read_rd (w : World) (A : Option Addr) (c : Nat) (xs : List Int) (hC : Kd.C (Kd.int .u8) w A xs.length xs) (hc : xs.length ≤ c) :
    Calls Try.prog 48 #[.slice A xs.length c] w fun r w' => r = .returned (.pointer (some ⟨w.heap.size, 0, none⟩)) ∧ RS w w' w.heap.size xs 0 := by
  have hu := Try.underlying123
  go_enter Try.func48, Try.ntmps48
  go_wp2
  go_ret
  exact ⟨rfl, ⟨⟨A, c, by simpa using blk_new _ _, hC, hc⟩, Nat.le_refl _, by go_grown⟩⟩
end Go.Proofs.Ytplajmcjkddikaa.Reader
