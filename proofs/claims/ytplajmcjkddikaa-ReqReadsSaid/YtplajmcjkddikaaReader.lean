/- The reader: what each of its methods does with what is left and with the first error. -/
import Derived.Test.YtplajmcjkddikaaLock
import Derived.Test.YtplajmcjkddikaaWire
import Derived.Lib.Hide
import Derived.RegionTactic
import Derived.Deep.RegionWith
import Derived.Deep.DeepCutAuto
import Derived.Deep.CutBlock
import Derived.OpenShut
import Derived.Laws.Bits64b
import Derived.Handy
namespace Go.Proofs.Ytplajmcjkddikaa.Reader
open Go.RowKit Go.Proofs.YtplajmcjkddikaaW.PrintWords Go.Proofs.YtplajmcjkddikaaW.PrintLast Go.Proofs.YtplajmcjkddikaaW.PrintMore Go.Proofs.Ytplajmcjkddikaa.Leb Go.Proofs.Ytplajmcjkddikaa.Wire Go.Proofs.Ytplajmcjkddikaa.Lock
set_option linter.unusedVariables false
set_option linter.unusedSimpArgs false

/-- The reader at block g: xs is left, e its error; the bytes lie in the memory that was there at w0. -/
structure RS (w0 w : World) (g : Nat) (xs : List Int) (e : Int) : Prop where
  ex : ∃ A c, w.heap[g]? = some (.cells #[.slice A xs.length c, .int .i64 e] 123 (0, 0)) ∧ Kd.C (Kd.int .u8) w0 A xs.length xs ∧ xs.length ≤ c
  base : w0.heap.size ≤ g
  low : Below w0.heap.size w0 w
theorem RS.lt {w0 w : World} {g : Nat} {xs : List Int} {e : Int} (h : RS w0 w g xs e) : g < w.heap.size := by obtain ⟨A, c, hb, _⟩ := h.ex; exact blk_lt hb
theorem RS.below {w0 w w' : World} {g : Nat} {xs : List Int} {e : Int} (h : RS w0 w g xs e) (hb : Below w.heap.size w w') : RS w0 w' g xs e := by
  obtain ⟨A, c, h1, h2, h3⟩ := h.ex
  exact ⟨⟨A, c, blk_below h1 hb, h2, h3⟩, h.base, below_step h.low hb⟩
theorem RS.set1 {w0 w : World} {g : Nat} {xs : List Int} {e : Int} (h : RS w0 w g xs e) (v : Int) : RS w0 (w.setCell ⟨g, 1, none⟩ (.int .i64 v)) g xs v := by
  obtain ⟨A, c, h1, h2, h3⟩ := h.ex
  exact ⟨⟨A, c, by simpa using blk_set h1 1 (.int .i64 v), h2, h3⟩, h.base, h.low.setCell h.base _⟩

set_option maxRecDepth 100000 in
theorem fail_any (w0 w : World) (g : Nat) (xs : List Int) (e v : Int) (h : RS w0 w g xs e) :
    Calls Try.prog 100 #[.pointer (some ⟨g, 0, none⟩), .int .i64 v] w fun r w' => r = .returned (.tuple #[]) ∧ RS w0 w' g xs (if e = 0 then v else e) ∧ Upd g w w' := by
  obtain ⟨A, c, h1, h2, h3⟩ := h.ex
  have hc0 : w.cell? ⟨g, 0, none⟩ = some (.slice A xs.length c) := (blk_cell h1 0).trans rfl
  have hc1 : w.cell? ⟨g, 1, none⟩ = some (.int .i64 e) := (blk_cell h1 1).trans rfl
  have hf := blk_frozen h1 1
  have hu := Try.underlying123
  clear h1
  by_cases he : e = 0
  · have b0 : (e == 0) = true := by simpa using he
    rw [if_pos he]
    go_enter Try.func100, Try.ntmps100
    go_wp2
    go_end0
    exact ⟨rfl, h.set1 v, (Upd.refl g w).setCell 1 _⟩
  · have b0 : (e == 0) = false := by simpa using he
    rw [if_neg he]
    go_enter Try.func100, Try.ntmps100
    go_wp2
    go_end0
    exact ⟨rfl, h, Upd.refl g w⟩
set_option maxRecDepth 100000 in
theorem left_any (w0 w : World) (g : Nat) (xs : List Int) (e : Int) (h : RS w0 w g xs e) :
    Calls Try.prog 53 #[.pointer (some ⟨g, 0, none⟩)] w fun r w' => r = .returned (.int .i64 (if e = 0 then xs.length else 0)) ∧ w = w' := by
  obtain ⟨A, c, h1, h2, h3⟩ := h.ex
  have hc0 : w.cell? ⟨g, 0, none⟩ = some (.slice A xs.length c) := (blk_cell h1 0).trans rfl
  have hc1 : w.cell? ⟨g, 1, none⟩ = some (.int .i64 e) := (blk_cell h1 1).trans rfl
  have hu := Try.underlying123
  clear h1
  by_cases he : e = 0
  · have b0 : (e != 0) = false := by simpa using he
    rw [if_pos he]
    go_enter Try.func53, Try.ntmps53
    go_wp2
    go_ret
    exact ⟨rfl, rfl⟩
  · have b0 : (e != 0) = true := by simpa using he
    rw [if_neg he]
    go_enter Try.func53, Try.ntmps53
    go_wp2
    go_ret
    exact ⟨rfl, rfl⟩
def byteS (e : Int) : List Int → Int × Int × List Int
  | [] => (0, if e = 0 then 2 else e, [])
  | x :: xs => if e = 0 then (x, 0, xs) else (0, e, x :: xs)
set_option maxRecDepth 100000 in
theorem byte_any (w0 w : World) (g : Nat) (xs : List Int) (e : Int) (h : RS w0 w g xs e) :
    Calls Try.prog 101 #[.pointer (some ⟨g, 0, none⟩)] w fun r w' => r = .returned (.int .u8 (byteS e xs).1) ∧ RS w0 w' g (byteS e xs).2.2 (byteS e xs).2.1 ∧ Upd g w w' := by
  have hu := Try.underlying123
  have U1 := Try.underlying38
  have U2 := Try.underlying5
  have hu := Try.underlying123
  have HR := Lib.hid h
  by_cases hp : e = 0 ∧ xs ≠ []
  · obtain ⟨rfl, hx⟩ := hp
    obtain ⟨x, t, rfl⟩ := List.exists_cons_of_ne_nil hx
    obtain ⟨A, c, h1, h2, h3⟩ := h.ex
    have hb : (byteS 0 (x :: t)) = (x, 0, t) := rfl
    rw [hb]
    obtain ⟨ad, rfl, hx0⟩ := Kd.at_int (Kd.C_below h2 h.low) 0 (by omega) (by simp)
    have hc0 : w.cell? ⟨g, 0, none⟩ = some (.slice (some ad) (x :: t).length c) := (blk_cell h1 0).trans rfl
    have hc1 : w.cell? ⟨g, 1, none⟩ = some (.int .i64 0) := (blk_cell h1 1).trans rfl
    have hx1 : w.cell? (ad.add 0) = some (.int .u8 x) := hx0
    rw [Addr.add_zero'] at hx1
    have hz : ((t.length : Int) + 1 == 0) = false := by simp; omega
    have hf := blk_frozen h1 0
    have hlen : (x :: t).length = t.length + 1 := rfl
    rw [hlen] at hc0 h3
    clear hx0
    have hL : Calls Try.prog 53 #[.pointer (some ⟨g, 0, none⟩)] w fun r w' => r = .returned (.int .i64 ((t.length + 1 : Nat) : Int)) ∧ w = w' := left_any w0 w g (x :: t) 0 h
    go_enter Try.func101, Try.ntmps101
    go_wp2_with (go_at_call 53; refine hL.mono ?_; rintro r w1 ⟨rfl, rfl⟩)
    rotate_left
    · have hc1n := h
      go_ret
      have hd := Kd.C_drop (m := 1) (c := c) h2 (by simp) (by rw [hlen]; omega)
      rw [if_neg hc1n, Nat.one_mul, show (Kd.int .u8).sz = 1 from rfl] at hd
      exact ⟨rfl, ⟨⟨_, c - 1, by simpa using blk_set h1 0 (.slice (some ⟨ad.block, ad.off + 1, none⟩) t.length (c - 1)), by simpa [Addr.add] using hd, by omega⟩, HR.out.base, HR.out.low.setCell HR.out.base _⟩, (Upd.refl g w).setCell 0 _⟩
    · have hc1y := h
      clear h
      subst hc1y
      go_ret
      have hd := Kd.C_drop (m := 1) (c := 1) h2 (by simp) (by rw [hlen]; omega)
      rw [if_pos rfl] at hd
      exact ⟨rfl, ⟨⟨_, 0, by simpa using blk_set h1 0 (.slice (some ad) t.length 0), hd, by omega⟩, HR.out.base, HR.out.low.setCell HR.out.base _⟩, (Upd.refl g w).setCell 0 _⟩
  · have hl : (if e = 0 then (xs.length : Int) else 0) = 0 := by
      split
      · have : xs = [] := by
          apply Classical.byContradiction; intro hn; exact hp ⟨by assumption, hn⟩
        rw [this]; rfl
      · rfl
    have hb : byteS e xs = (0, if e = 0 then 2 else e, xs) := by
      cases xs with
      | nil => rfl
      | cons x t => have he : ¬ e = 0 := fun he => hp ⟨he, by simp⟩; simp [byteS, he]
    rw [hb]
    have hL : Calls Try.prog 53 #[.pointer (some ⟨g, 0, none⟩)] w fun r w' => r = .returned (.int .i64 0) ∧ w = w' := by have := left_any w0 w g xs e h; rw [hl] at this; exact this
    have hF := fail_any w0 w g xs e 2 h
    generalize (if e = 0 then 2 else e) = e2 at hF ⊢
    clear hl hb h HR
    go_enter Try.func101, Try.ntmps101
    go_wp2_with (first
      | (go_at_call 53; refine hL.mono ?_; rintro r w1 ⟨rfl, rfl⟩)
      | (go_at_call 100; refine hF.mono ?_; rintro r w1 ⟨rfl, hr1, hu1⟩))
    go_ret
    exact ⟨rfl, hr1, hu1⟩
def rawS (e : Int) (xs : List Int) : Int × Nat × List Int := if e = 0 then raw 0 xs else (e, 0, xs)
/-- what a loop that stands before group i, with u so far, will give -/
def fin (i u : Nat) (r : Int × Nat × List Int) : Int × Nat × List Int := (r.1, if r.1 = 0 then u + 128 ^ i * r.2.1 else 0, r.2.2)
set_option maxRecDepth 100000 in
set_option maxHeartbeats 2000000 in
theorem raw_bad (w0 w : World) (g : Nat) (xs : List Int) (e : Int) (he : e ≠ 0) (h : RS w0 w g xs e) :
    Calls Try.prog 99 #[.pointer (some ⟨g, 0, none⟩)] w fun r w' => r = .returned (.int .u64 0) ∧ RS w0 w' g xs e ∧ Upd g w w' := by
  have hu := Try.underlying123
  have hb : byteS e xs = (0, e, xs) := by cases xs <;> simp [byteS, he]
  have hB := byte_any w0 w g xs e h
  rw [hb] at hB
  have b0 : (e != 0) = true := by simpa using he
  clear hb h
  go_enter Try.func99, Try.ntmps99
  go_wp2
  refine wp_loop_rounds 1 ?_
  rw [rounds_succ]
  go_wp2_with (go_at_call 101; refine hB.mono ?_; rintro r w1 ⟨rfl, hr1, hu1⟩; obtain ⟨A1, c1, hbk, _, _⟩ := hr1.ex; have hce : w1.cell? ⟨g, 1, none⟩ = some (.int .i64 e) := (blk_cell hbk 1).trans rfl)
  go_ret
  exact ⟨rfl, hr1, hu1⟩
theorem and_127 (c : Int) (h : 0 ≤ c ∧ c < 256) : Go.bits .and .u8 c 127 = ((c.toNat % 128 : Nat) : Int) := by
  have key : ∀ n : Nat, n < 256 → Go.bits .and .u8 (n : Int) 127 = ((n % 128 : Nat) : Int) := by decide +kernel
  have := key c.toNat (by omega)
  rwa [Int.toNat_of_nonneg h.1] at this
theorem pow_7 (i : Nat) : 2 ^ (7 * i) = 128 ^ i := by rw [Nat.pow_mul]
theorem or_group (i n : Nat) (c : Int) (hi : i ≤ 9) (hn : n < 128 ^ i) (hc : 0 ≤ c ∧ c < 256) (h9 : i = 9 → c ≤ 1) :
    Go.bits .or .u64 (n : Int) (IntKind.u64.wrap (IntKind.u64.wrap (Go.bits .and .u8 c 127) * 2 ^ (7 * i))) = ((n + 128 ^ i * (c.toNat % 128) : Nat) : Int) := by
  rw [and_127 c hc]
  have hm : (c.toNat % 128) < 128 := Nat.mod_lt _ (by omega)
  have h9' : i = 9 → c.toNat % 128 ≤ 1 := fun h => by have := h9 h; omega
  generalize c.toNat % 128 = m at hm h9'
  have hw : IntKind.u64.wrap ((m : Nat) : Int) = ((m : Nat) : Int) := by rw [IntKind.wrap_u64]; omega
  rw [hw]
  have hp : ((m : Nat) : Int) * 2 ^ (7 * i) = ((m * 2 ^ (7 * i) : Nat) : Int) := by push_cast; rfl
  have hlt : m * 2 ^ (7 * i) < 18446744073709551616 ∧ 128 ^ i ≤ 9223372036854775808 := by
    rw [pow_7]
    rcases (by omega : i = 0 ∨ i = 1 ∨ i = 2 ∨ i = 3 ∨ i = 4 ∨ i = 5 ∨ i = 6 ∨ i = 7 ∨ i = 8 ∨ i = 9) with rfl | rfl | rfl | rfl | rfl | rfl | rfl | rfl | rfl | rfl <;> (try have := h9' rfl) <;> omega
  rw [hp, IntKind.wrap_u64]
  rw [show (((m * 2 ^ (7 * i) : Nat) : Int) % 18446744073709551616) = ((m * 2 ^ (7 * i) : Nat) : Int) by omega]
  rw [bits_or_u64_nat _ _ (by omega) (by omega)]
  congr 1
  rw [Nat.or_comm, ← Nat.shiftLeft_eq, ← Nat.shiftLeft_add_eq_or_of_lt (by rw [pow_7]; exact hn), Nat.shiftLeft_eq, pow_7, Nat.mul_comm, Nat.add_comm]
theorem fin_next (i n : Nat) (c : Int) (t : List Int) (hc : 0 ≤ c ∧ c < 256) (hb : ¬ ((i = 9 ∧ c > 1) ∨ (i > 0 ∧ c = 0))) (hl : ¬ c < 128) : fin (i + 1) (n + 128 ^ i * (c.toNat % 128)) (raw (i + 1) t) = fin i n (raw i (c :: t)) := by
  have e : raw i (c :: t) = if (raw (i + 1) t).1 = 0 then (0, c.toNat - 128 + 128 * (raw (i + 1) t).2.1, (raw (i + 1) t).2.2) else ((raw (i + 1) t).1, 0, (raw (i + 1) t).2.2) := by
    rw [raw, if_neg hb, if_neg hl]
  rw [e]
  generalize raw (i + 1) t = r
  obtain ⟨er, m, rest⟩ := r
  have hm : c.toNat % 128 = c.toNat - 128 := by omega
  rw [hm]
  by_cases h : er = 0
  · subst h
    simp only [fin, if_true, Nat.mul_add, Nat.pow_succ, Nat.mul_assoc, Nat.add_assoc]
  · simp only [fin, if_neg h]
theorem fin_end (i n : Nat) (c : Int) (t : List Int) (hc : 0 ≤ c ∧ c < 256) (hb : ¬ ((i = 9 ∧ c > 1) ∨ (i > 0 ∧ c = 0))) (hl : c < 128) : fin i n (raw i (c :: t)) = (0, n + 128 ^ i * (c.toNat % 128), t) := by
  rw [raw, if_neg hb, if_pos hl]
  have hm : c.toNat % 128 = c.toNat := by omega
  simp only [fin, if_true, hm]
theorem fin_zero (r : Int × Nat × List Int) (h : r.1 ≠ 0 → r.2.1 = 0) : fin 0 0 r = r := by
  obtain ⟨er, m, rest⟩ := r
  by_cases he : er = 0
  · simp [fin, he]
  · have h0 : m = 0 := h he
    subst h0
    simp only [fin, if_neg he]
theorem raw_zero : ∀ (xs : List Int) (i : Nat), (raw i xs).1 ≠ 0 → (raw i xs).2.1 = 0
  | [], i, h => rfl
  | c :: t, i, h => by
    unfold raw at h ⊢
    split
    · rfl
    · split
      · rename_i h1 h2; rw [if_neg h1, if_pos h2] at h; exact absurd rfl h
      · rename_i h1 h2
        rw [if_neg h1, if_neg h2] at h
        split
        · rename_i h3; rw [if_pos h3] at h; exact absurd rfl h
        · rfl
set_option maxRecDepth 100000 in
set_option maxHeartbeats 2000000 in
theorem raw_ok (w0 w : World) (g : Nat) (xs : List Int) (hx : ∀ c ∈ xs, 0 ≤ c ∧ c < 256) (h : RS w0 w g xs 0) :
    Calls Try.prog 99 #[.pointer (some ⟨g, 0, none⟩)] w fun r w' => r = .returned (.int .u64 (raw 0 xs).2.1) ∧ RS w0 w' g (raw 0 xs).2.2 (raw 0 xs).1 ∧ Upd g w w' := by
  have hu := Try.underlying123
  go_enter Try.func99, Try.ntmps99
  go_wp2
  go_loopw [3, 4] (fun u s w1 => ∃ (i n : Nat) (ys : List Int), i ≤ 9 ∧ s = .int .i64 ((7 * i : Nat) : Int) ∧ u = .int .u64 n ∧ n < 128 ^ i ∧ Aside0 (fin i n (raw i ys) = raw 0 xs) ∧ (∀ c ∈ ys, 0 ≤ c ∧ c < 256) ∧ Aside0 (RS w0 w1 g ys 0) ∧ Aside0 (Upd g w w1)) (fun _ s _ => 70 - (intOf s).toNat)
  case atStart => exact ⟨0, 0, xs, by omega, rfl, rfl, by simp, ⟨fin_zero _ (raw_zero _ _)⟩, hx, ⟨h⟩, ⟨Upd.refl g w⟩⟩
  case round =>
    obtain ⟨i, n, ys, hi, rfl, rfl, hn, hfin, hy, HR, HU⟩ := hrel
    cases ys with
    | nil =>
      have hB : Calls Try.prog 101 #[.pointer (some ⟨g, 0, none⟩)] wr fun r w' => r = .returned (.int .u8 0) ∧ RS w0 w' g [] 2 ∧ Upd g wr w' := byte_any w0 wr g [] 0 HR.out
      have hr := Lib.hid (show raw 0 xs = (2, 0, []) by rw [← hfin.out]; rfl)
      clear hfin
      go_wp2_with (go_at_call 101; refine hB.mono ?_; rintro r w1 ⟨rfl, hr1, hu1⟩; obtain ⟨A1, c1, hbk, _, _⟩ := hr1.ex; have hce : w1.cell? ⟨g, 1, none⟩ = some (.int .i64 2) := (blk_cell hbk 1).trans rfl)
      go_ret
      rw [hr.out]
      exact ⟨rfl, hr1, HU.out.trans hu1⟩
    | cons c t =>
      have hc := hy c (by simp)
      have ht : ∀ c ∈ t, 0 ≤ c ∧ c < 256 := fun d hd => hy d (List.mem_cons_of_mem _ hd)
      have hB : Calls Try.prog 101 #[.pointer (some ⟨g, 0, none⟩)] wr fun r w' => r = .returned (.int .u8 c) ∧ RS w0 w' g t 0 ∧ Upd g wr w' := byte_any w0 wr g (c :: t) 0 HR.out
      clear hy
      by_cases hbad : (i = 9 ∧ c > 1) ∨ (i > 0 ∧ c = 0)
      · have hr := Lib.hid (show raw 0 xs = (4, 0, t) by rw [← hfin.out]; unfold raw; rw [if_pos hbad]; rfl)
        clear hfin
        have hF : ∀ w1, RS w0 w1 g t 0 → Calls Try.prog 100 #[.pointer (some ⟨g, 0, none⟩), .int .i64 4] w1 fun r w' => r = .returned (.tuple #[]) ∧ RS w0 w' g t 4 ∧ Upd g w1 w' := fun w1 h => fail_any w0 w1 g t 0 4 h
        by_cases hi0 : i = 9 ∧ c > 1
        · have b1 : (((7 * i : Nat) : Int) == 63) = true := by simp; omega
          have b2 : decide (c > 1) = true := by simp; omega
          go_wp2_with (first
            | (go_at_call 101; refine hB.mono ?_; rintro r w1 ⟨rfl, hr1, hu1⟩; obtain ⟨A1, c1, hbk, _, _⟩ := hr1.ex; have hce : w1.cell? ⟨g, 1, none⟩ = some (.int .i64 0) := (blk_cell hbk 1).trans rfl)
            | (go_at_call 100; refine (hF _ hr1).mono ?_; rintro r w2 ⟨rfl, hr2, hu2⟩))
          go_ret
          rw [hr.out]
          exact ⟨rfl, hr2, (HU.out.trans hu1).trans hu2⟩
        · have hi1 : 0 < i ∧ c = 0 := hbad.resolve_left hi0
          obtain ⟨hi1, rfl⟩ := hi1
          have b3 : decide (((7 * i : Nat) : Int) > 0) = true := by simp; omega
          by_cases hi9 : i = 9
          · subst hi9
            go_wp2_with (first
              | (go_at_call 101; refine hB.mono ?_; rintro r w1 ⟨rfl, hr1, hu1⟩; obtain ⟨A1, c1, hbk, _, _⟩ := hr1.ex; have hce : w1.cell? ⟨g, 1, none⟩ = some (.int .i64 0) := (blk_cell hbk 1).trans rfl)
              | (go_at_call 100; refine (hF _ hr1).mono ?_; rintro r w2 ⟨rfl, hr2, hu2⟩))
            go_ret
            rw [hr.out]
            exact ⟨rfl, hr2, (HU.out.trans hu1).trans hu2⟩
          · have b1 : (((7 * i : Nat) : Int) == 63) = false := by simp; omega
            go_wp2_with (first
              | (go_at_call 101; refine hB.mono ?_; rintro r w1 ⟨rfl, hr1, hu1⟩; obtain ⟨A1, c1, hbk, _, _⟩ := hr1.ex; have hce : w1.cell? ⟨g, 1, none⟩ = some (.int .i64 0) := (blk_cell hbk 1).trans rfl)
              | (go_at_call 100; refine (hF _ hr1).mono ?_; rintro r w2 ⟨rfl, hr2, hu2⟩))
            go_ret
            rw [hr.out]
            exact ⟨rfl, hr2, (HU.out.trans hu1).trans hu2⟩
      · have g9 : i = 9 → c ≤ 1 := fun h => by omega
        have g0 : 0 < i → c ≠ 0 := fun h => by omega
        have hor := Lib.hid (or_group i n c hi hn hc g9)
        have hlt := Lib.hid (show n + 128 ^ i * (c.toNat % 128) < 128 ^ (i + 1) by
          have h1 : c.toNat % 128 ≤ 127 := by omega
          have h2 := Nat.mul_le_mul_left (128 ^ i) h1
          rw [Nat.pow_succ]; omega)
        by_cases hi9 : i = 9
        · have hor := Lib.hid (show Go.bits .or .u64 (n : Int) (IntKind.u64.wrap (IntKind.u64.wrap (Go.bits .and .u8 c 127) * 9223372036854775808)) = ((n + 128 ^ i * (c.toNat % 128) : Nat) : Int) from by
            have h := hor.out
            rw [hi9] at h
            rw [show (2 : Int) ^ (7 * 9) = 9223372036854775808 from by decide] at h
            rw [hi9]
            exact h)
          have b1 : (((7 * i : Nat) : Int) == 63) = true := by simp; omega
          have b2 : decide (c > 1) = false := by have := g9 hi9; simp; omega
          have b3 : decide (((7 * i : Nat) : Int) > 0) = true := by simp; omega
          have b4 : (c == 0) = false := by have := g0 (by omega); simp; omega
          by_cases hl : c < 128
          · have hr := Lib.hid (show raw 0 xs = (0, n + 128 ^ i * (c.toNat % 128), t) by rw [← hfin.out]; exact fin_end i n c t hc hbad hl)
            go_wp2_with (go_at_call 101; refine hB.mono ?_; rintro r w1 ⟨rfl, hr1, hu1⟩; obtain ⟨A1, c1, hbk, _, _⟩ := hr1.ex; have hce : w1.cell? ⟨g, 1, none⟩ = some (.int .i64 0) := (blk_cell hbk 1).trans rfl)
            go_ret
            rw [hr.out]
            exact ⟨congrArg (fun z : Int => Ending.returned (Value.int .u64 z)) hor.out, hr1, HU.out.trans hu1⟩
          · omega
        · have b1 : (((7 * i : Nat) : Int) == 63) = false := by simp; omega
          by_cases hi0 : i = 0
          · have hor := Lib.hid (show Go.bits .or .u64 (n : Int) (IntKind.u64.wrap (IntKind.u64.wrap (Go.bits .and .u8 c 127))) = ((n + 128 ^ i * (c.toNat % 128) : Nat) : Int) from by
              have h := hor.out
              rw [hi0] at h
              rw [show (2 : Int) ^ (7 * 0) = 1 from by decide, Int.mul_one] at h
              rw [hi0]
              exact h)
            have b3 : decide (((7 * i : Nat) : Int) > 0) = false := by simp; omega
            by_cases hl : c < 128
            · have hr := Lib.hid (show raw 0 xs = (0, n + 128 ^ i * (c.toNat % 128), t) by rw [← hfin.out]; exact fin_end i n c t hc hbad hl)
              go_wp2_with (go_at_call 101; refine hB.mono ?_; rintro r w1 ⟨rfl, hr1, hu1⟩; obtain ⟨A1, c1, hbk, _, _⟩ := hr1.ex; have hce : w1.cell? ⟨g, 1, none⟩ = some (.int .i64 0) := (blk_cell hbk 1).trans rfl)
              go_ret
              rw [hr.out]
              exact ⟨congrArg (fun z : Int => Ending.returned (Value.int .u64 z)) hor.out, hr1, HU.out.trans hu1⟩
            · go_wp2_with (go_at_call 101; refine hB.mono ?_; rintro r w1 ⟨rfl, hr1, hu1⟩; obtain ⟨A1, c1, hbk, _, _⟩ := hr1.ex; have hce : w1.cell? ⟨g, 1, none⟩ = some (.int .i64 0) := (blk_cell hbk 1).trans rfl)
              go_round
              case rel => exact ⟨i + 1, n + 128 ^ i * (c.toNat % 128), t, by omega, by go_num, congrArg (Value.int .u64) hor.out, hlt.out, ⟨by rw [fin_next i n c t hc hbad (by omega)]; exact hfin.out⟩, ht, ⟨hr1⟩, ⟨HU.out.trans hu1⟩⟩
              case measure => simp only [intOf]; omega
          · have b3 : decide (((7 * i : Nat) : Int) > 0) = true := by simp; omega
            have b4 : (c == 0) = false := by simp; omega
            by_cases hl : c < 128
            · have hr := Lib.hid (show raw 0 xs = (0, n + 128 ^ i * (c.toNat % 128), t) by rw [← hfin.out]; exact fin_end i n c t hc hbad hl)
              go_wp2_with (go_at_call 101; refine hB.mono ?_; rintro r w1 ⟨rfl, hr1, hu1⟩; obtain ⟨A1, c1, hbk, _, _⟩ := hr1.ex; have hce : w1.cell? ⟨g, 1, none⟩ = some (.int .i64 0) := (blk_cell hbk 1).trans rfl)
              go_ret
              rw [hr.out]
              exact ⟨congrArg (fun z : Int => Ending.returned (Value.int .u64 z)) hor.out, hr1, HU.out.trans hu1⟩
            · go_wp2_with (go_at_call 101; refine hB.mono ?_; rintro r w1 ⟨rfl, hr1, hu1⟩; obtain ⟨A1, c1, hbk, _, _⟩ := hr1.ex; have hce : w1.cell? ⟨g, 1, none⟩ = some (.int .i64 0) := (blk_cell hbk 1).trans rfl)
              go_round
              case rel => exact ⟨i + 1, n + 128 ^ i * (c.toNat % 128), t, by omega, by go_num, congrArg (Value.int .u64) hor.out, hlt.out, ⟨by rw [fin_next i n c t hc hbad (by omega)]; exact hfin.out⟩, ht, ⟨hr1⟩, ⟨HU.out.trans hu1⟩⟩
              case measure => simp only [intOf]; omega
theorem raw_lt (xs : List Int) (hx : ∀ c ∈ xs, 0 ≤ c ∧ c < 256) (e : Int) : (rawS e xs).2.1 < 18446744073709551616 := by
  unfold rawS
  split
  · by_cases h : (raw 0 xs).1 = 0
    · have := raw_back xs 0 (raw 0 xs).2.1 (raw 0 xs).2.2 (by omega) hx (by rw [← h])
      have h2 := this.2.1
      rwa [lim0] at h2
    · rw [raw_zero _ _ h]; omega
  · simp
theorem rawS_bytes (xs : List Int) (hx : ∀ c ∈ xs, 0 ≤ c ∧ c < 256) (e : Int) : ∀ c ∈ (rawS e xs).2.2, 0 ≤ c ∧ c < 256 := by
  have key : ∀ (xs : List Int) (i : Nat), (∀ c ∈ xs, 0 ≤ c ∧ c < 256) → ∀ c ∈ (raw i xs).2.2, 0 ≤ c ∧ c < 256 := by
    intro xs
    induction xs with
    | nil => intro i _ c hc; simp [raw] at hc
    | cons b t ih =>
      intro i h c hc
      have ht : ∀ c ∈ t, 0 ≤ c ∧ c < 256 := fun d hd => h d (List.mem_cons_of_mem _ hd)
      unfold raw at hc
      split at hc
      · exact ht c hc
      · split at hc
        · exact ht c hc
        · split at hc
          · exact ih (i + 1) ht c hc
          · exact ih (i + 1) ht c hc
  unfold rawS
  split
  · exact key xs 0 hx
  · exact hx
theorem raw_any (w0 w : World) (g : Nat) (xs : List Int) (e : Int) (hx : ∀ c ∈ xs, 0 ≤ c ∧ c < 256) (h : RS w0 w g xs e) :
    Calls Try.prog 99 #[.pointer (some ⟨g, 0, none⟩)] w fun r w' => r = .returned (.int .u64 (rawS e xs).2.1) ∧ RS w0 w' g (rawS e xs).2.2 (rawS e xs).1 ∧ Upd g w w' := by
  by_cases he : e = 0
  · subst he
    exact raw_ok w0 w g xs hx h
  · have hr : rawS e xs = (e, 0, xs) := by unfold rawS; rw [if_neg he]
    rw [hr]
    exact raw_bad w0 w g xs e he h
end Go.Proofs.Ytplajmcjkddikaa.Reader
