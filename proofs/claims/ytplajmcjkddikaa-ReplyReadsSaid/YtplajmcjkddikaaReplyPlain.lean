/- The reply's plain law: what is put is read again; what is read was put. No walk in this text. -/
import Derived.Test.YtplajmcjkddikaaReplyRead
namespace Go.Proofs.Ytplajmcjkddikaa.ReplyPlain
open Go.Proofs.Ytplajmcjkddikaa.Leb Go.Proofs.Ytplajmcjkddikaa.Wire Go.Proofs.Ytplajmcjkddikaa.Reader Go.Proofs.Ytplajmcjkddikaa.Reply Go.Proofs.Ytplajmcjkddikaa.ReplyRead
set_option linter.unusedVariables false
set_option linter.unusedSimpArgs false
def fv (v : Int) : List Int := if v = 0 then [] else sgn v
def rs (l : List Int) : List Int := l.flatMap fv
theorem rs_snoc (l : List Int) (v : Int) : rs (l ++ [v]) = rs l ++ fv v := by simp [rs, List.flatMap_append]
theorem out_rs (x : List Int) (h : x.length = 9) : ∀ n, n ≤ 9 → out x n = 184 :: (enc (mk x 9) ++ rs (x.take n))
  | 0, _ => by simp [out, rs]
  | n + 1, hn => by
    have ht : x.take (n + 1) = x.take n ++ [x.getD n 0] := by
      rw [List.take_succ_eq_append_getElem (by omega), List.getD_eq_getElem?_getD, List.getElem?_eq_getElem (by omega)]; rfl
    rw [out, out_rs x h n (by omega), ht, rs_snoc, fv]
    simp
theorem out9 (x : List Int) (h : x.length = 9) : out x 9 = 184 :: (enc (mk x 9) ++ rs x) := by
  have := out_rs x h 9 (by omega)
  rwa [List.take_of_length_le (by omega)] at this
theorem mk_bit (x : List Int) (i : Nat) (hi : i < 9) : mk x 9 / 2 ^ i % 2 = if x.getD i 0 = 0 then 0 else 1 := by
  have key : ∀ n, n ≤ 9 → i < n → mk x n / 2 ^ i % 2 = if x.getD i 0 = 0 then 0 else 1 := by
    intro n
    induction n with
    | zero => intro _ h; omega
    | succ n ih =>
      intro hn hlt
      have hl := mk_lt x n
      rcases Nat.lt_or_eq_of_le (Nat.le_of_lt_succ hlt) with h | rfl
      · rw [← ih (by omega) h, mk]
        split
        · simp
        · obtain ⟨k, rfl⟩ : ∃ k, n = i + 1 + k := ⟨n - i - 1, by omega⟩
          have e : 2 ^ (i + 1 + k) = 2 ^ i * (2 * 2 ^ k) := by rw [Nat.pow_add, Nat.pow_succ, Nat.mul_assoc]
          rw [e, Nat.add_mul_div_left _ _ (Nat.pow_pos (by omega))]
          omega
      · rw [mk]
        split
        · rename_i h0; simp only [Nat.add_zero]; rw [Nat.div_eq_of_lt hl]
        · rename_i h0; rw [Nat.add_div_right _ (Nat.pow_pos (by omega)), Nat.div_eq_of_lt hl]
  exact key 9 (by omega) hi
/-- a list of nine, of which the first n are x's -/
def upd (x : List Int) (n : Nat) : List Int := x.take n ++ List.replicate (9 - n) 0
theorem upd_len (x : List Int) (h : x.length = 9) (n : Nat) (hn : n ≤ 9) : (upd x n).length = 9 := by simp [upd]; omega
theorem upd_set (x : List Int) (h : x.length = 9) (n : Nat) (hn : n < 9) : (upd x n).set n (x.getD n 0) = upd x (n + 1) := by
  have ht : x.take (n + 1) = x.take n ++ [x.getD n 0] := by
    rw [List.take_succ_eq_append_getElem (by omega), List.getD_eq_getElem?_getD, List.getElem?_eq_getElem (by omega)]; rfl
  have hr : List.replicate (9 - n) (0 : Int) = 0 :: List.replicate (9 - (n + 1)) 0 := by
    rw [show 9 - n = (9 - (n + 1)) + 1 by omega, List.replicate_succ]
  have hl : (x.take n).length = n := by rw [List.length_take]; omega
  rw [upd, upd, ht, hr, List.set_append_right _ _ (by omega), hl, Nat.sub_self, List.set_cons_zero, List.append_assoc]
  rfl
theorem upd_skip (x : List Int) (h : x.length = 9) (n : Nat) (hn : n < 9) (h0 : x.getD n 0 = 0) : upd x n = upd x (n + 1) := by
  rw [← upd_set x h n hn, h0]
  have hl : (x.take n).length = n := by rw [List.length_take]; omega
  rw [upd, List.set_append_right _ _ (by omega), hl, Nat.sub_self]
  congr 1
  rw [show 9 - n = (9 - (n + 1)) + 1 by omega, List.replicate_succ, List.set_cons_zero]
theorem rs_drop (x : List Int) (h : x.length = 9) (n : Nat) (hn : n < 9) : rs (x.drop n) = fv (x.getD n 0) ++ rs (x.drop (n + 1)) := by
  rw [List.drop_eq_getElem_cons (by omega), List.getD_eq_getElem?_getD, List.getElem?_eq_getElem (by omega)]
  rfl
theorem raw_sgn (v : Int) (h : In64 v) (rest : List Int) : rawS 0 (sgn v ++ rest) = (0, zig v, rest) := by
  unfold rawS sgn
  rw [if_pos rfl, raw_enc rest (zig v) 0 (by omega) (by rw [lim0]; exact zig_lt v h) (by omega)]
theorem sts_out (x : List Int) (h : x.length = 9) (hx : ∀ n, In64 (x.getD n 0)) : ∀ n, n ≤ 9 → sts (mk x 9) (upd x 0, 0, rs x) n = (upd x n, 0, rs (x.drop n))
  | 0, _ => rfl
  | n + 1, hn => by
    rw [sts, sts_out x h hx n (by omega), stp, mk_bit x n (by omega), rs_drop x h n (by omega), fv]
    by_cases h0 : x.getD n 0 = 0
    · simp only [h0, if_true, List.nil_append]
      rw [upd_skip x h n (by omega) h0]
    · simp only [h0, if_false]
      rw [if_neg (by omega), raw_sgn _ (hx n)]
      simp only [zag_zig]
      rw [upd_set x h n (by omega), if_neg h0]
theorem nums_enc (u : Nat) (h : u < 9223372036854775808) (rest : List Int) : numS 0 (enc u ++ rest) = ((u : Int), 0, rest) := by
  have : rawS 0 (enc u ++ rest) = (0, u, rest) := by
    unfold rawS
    rw [if_pos rfl, raw_enc rest u 0 (by omega) (by rw [lim0]; omega) (by omega)]
  unfold numS
  rw [this, if_pos h]
theorem read_out (x : List Int) (h : x.length = 9) (hx : ∀ n, In64 (x.getD n 0)) : readE (out x 9) = 0 ∧ readR (out x 9) = x := by
  have hm := mk_lt x 9
  have hb : byteS 0 (out x 9) = (184, 0, enc (mk x 9) ++ rs x) := by rw [out9 x h]; rfl
  have hh : headE (out x 9) = 0 := by unfold headE; rw [hb]; rfl
  have hM : maskN (out x 9) = (((mk x 9 : Nat) : Int), 0, rs x) := by
    unfold maskN
    rw [hh, hb]
    exact nums_enc _ (by omega) _
  have hE : maskE (out x 9) = 0 := by
    unfold maskE
    rw [hM, if_neg]
    show ¬ ((mk x 9 : Nat) : Int) ≥ 512
    have : (2 : Nat) ^ 9 = 512 := rfl
    omega
  have hN : nineS (out x 9) = (x, 0, []) := by
    unfold nineS
    rw [hE, hM]
    have := sts_out x h hx 9 (by omega)
    rw [show upd x 0 = [0, 0, 0, 0, 0, 0, 0, 0, 0] by simp [upd, List.replicate]] at this
    rw [Int.toNat_natCast, this]
    rw [List.drop_of_length_le (by omega)]
    simp [upd, rs]
    exact List.take_of_length_le (by omega)
  have hR : readE (out x 9) = 0 := by unfold readE; rw [hN]; rfl
  exact ⟨hR, by unfold readR; rw [if_pos hR, hN]⟩
/-! ### back -/
theorem errS_zero {e v : Int} (hv : v ≠ 0) : errS e v ≠ 0 := by unfold errS; split <;> assumption
theorem rawS_stick (e : Int) (xs : List Int) (h : e ≠ 0) : (rawS e xs).1 ≠ 0 := by unfold rawS; rw [if_neg h]; exact h
theorem stp_stick (m i : Nat) (s : List Int × Int × List Int) (h : s.2.1 ≠ 0) : (stp m i s).2.1 ≠ 0 := by
  unfold stp; split
  · exact h
  · have := rawS_stick s.2.1 s.2.2 h
    show (if _ then _ else _) ≠ _
    split
    · exact errS_zero (by decide)
    · exact this
/-- one number that was read well -/
theorem stp_ok (m i : Nat) (l l2 : List Int) (e : Int) (ys ys2 : List Int) (hb : ∀ c ∈ ys, 0 ≤ c ∧ c < 256) (h : stp m i (l, e, ys) = (l2, 0, ys2)) :
    e = 0 ∧ ((m / 2 ^ i % 2 = 0 ∧ l2 = l ∧ ys2 = ys) ∨ (m / 2 ^ i % 2 ≠ 0 ∧ ∃ v, v ≠ 0 ∧ l2 = l.set i v ∧ ys = sgn v ++ ys2 ∧ In64 v)) := by
  have he : e = 0 := by
    apply Classical.byContradiction
    intro hn
    have := stp_stick m i (l, e, ys) hn
    rw [h] at this
    exact this rfl
  subst he
  refine ⟨rfl, ?_⟩
  unfold stp at h
  split at h
  · rename_i h0
    simp only [Prod.mk.injEq] at h
    exact .inl ⟨h0, h.1.symm, h.2.2.symm⟩
  · rename_i h0
    simp only [Prod.mk.injEq] at h
    obtain ⟨h1, h2, h3⟩ := h
    refine .inr ⟨h0, _, ?_, h1.symm, ?_⟩
    · intro hz
      rw [if_pos hz] at h2
      exact errS_zero (by decide) h2
    · have hv : zag (rawS 0 ys).2.1 ≠ 0 := by
        intro hz
        rw [if_pos hz] at h2
        exact errS_zero (by decide) h2
      rw [if_neg hv] at h2
      unfold rawS at h2 h3 ⊢
      rw [if_pos rfl] at h2 h3 ⊢
      have hr : raw 0 ys = (0, (raw 0 ys).2.1, ys2) := by rw [← h2, ← h3]
      obtain ⟨h4, h5, _⟩ := raw_back ys 0 (raw 0 ys).2.1 ys2 (by omega) hb hr
      rw [lim0] at h5
      refine ⟨?_, zag_range _ h5⟩
      rw [sgn, zig_zag]
      exact h4
theorem sts_ok (m : Nat) (zs : List Int) (e : Int) (hb : ∀ c ∈ zs, 0 ≤ c ∧ c < 256) : ∀ n, n ≤ 9 → ∀ l ys, sts m ([0, 0, 0, 0, 0, 0, 0, 0, 0], e, zs) n = (l, 0, ys) →
    e = 0 ∧ l.length = 9 ∧ zs = rs (l.take n) ++ ys ∧ (∀ i, i < n → (l.getD i 0 = 0 ↔ m / 2 ^ i % 2 = 0)) ∧ (∀ i, n ≤ i → l.getD i 0 = 0) ∧ (∀ i, In64 (l.getD i 0))
  | 0, _, l, ys, h => by
    simp only [sts, Prod.mk.injEq] at h
    obtain ⟨rfl, rfl, rfl⟩ := h
    have hz : ∀ i, ([0, 0, 0, 0, 0, 0, 0, 0, 0] : List Int).getD i 0 = 0 := by
      intro i
      rw [List.getD_eq_getElem?_getD]
      rcases Nat.lt_or_ge i 9 with hi | hi
      · rcases (by omega : i = 0 ∨ i = 1 ∨ i = 2 ∨ i = 3 ∨ i = 4 ∨ i = 5 ∨ i = 6 ∨ i = 7 ∨ i = 8) with rfl | rfl | rfl | rfl | rfl | rfl | rfl | rfl | rfl <;> rfl
      · rw [List.getElem?_eq_none (by simpa using hi)]; rfl
    exact ⟨rfl, rfl, by simp [rs], by omega, fun i _ => hz i, fun i => by rw [hz i]; unfold In64; omega⟩
  | n + 1, hn, l, ys, h => by
    rw [sts] at h
    obtain ⟨l1, e1, ys1⟩ : List Int × Int × List Int := sts m ([0, 0, 0, 0, 0, 0, 0, 0, 0], e, zs) n
    generalize hs : sts m ([0, 0, 0, 0, 0, 0, 0, 0, 0], e, zs) n = s at h
    obtain ⟨l1, e1, ys1⟩ := s
    have hby : ∀ c ∈ ys1, 0 ≤ c ∧ c < 256 := by
      have := sts_bytes m ([0, 0, 0, 0, 0, 0, 0, 0, 0], e, zs) hb n
      rwa [hs] at this
    obtain ⟨rfl, hc⟩ := stp_ok m n l1 l e1 ys1 ys hby h
    obtain ⟨he, hl, hz, h1, h2, h3⟩ := sts_ok m zs e hb n (by omega) l1 ys1 hs
    rcases hc with ⟨hbit, rfl, rfl⟩ | ⟨hbit, v, hv, rfl, rfl, hv64⟩
    · refine ⟨he, hl, ?_, ?_, fun i hi => h2 i (by omega), h3⟩
      · have ht : l.take (n + 1) = l.take n ++ [l.getD n 0] := by
          rw [List.take_succ_eq_append_getElem (by omega), List.getD_eq_getElem?_getD, List.getElem?_eq_getElem (by omega)]; rfl
        rw [ht, rs_snoc, h2 n (Nat.le_refl n), fv, if_pos rfl, List.append_nil]
        exact hz
      · intro i hi
        rcases Nat.lt_or_eq_of_le (Nat.le_of_lt_succ hi) with h' | rfl
        · exact h1 i h'
        · exact ⟨fun _ => hbit, fun _ => h2 i (Nat.le_refl i)⟩
    · have hg : ∀ i, (l1.set n v).getD i 0 = if i = n then v else l1.getD i 0 := by
        intro i
        rw [List.getD_eq_getElem?_getD, List.getD_eq_getElem?_getD, List.getElem?_set]
        by_cases hi : n = i
        · subst hi; simp [hl, show n < 9 by omega]
        · rw [if_neg hi, if_neg (fun e => hi e.symm)]
      refine ⟨he, by simpa using hl, ?_, ?_, ?_, ?_⟩
      · have ht : (l1.set n v).take (n + 1) = l1.take n ++ [v] := by
          rw [List.take_succ_eq_append_getElem (by simp; omega), List.take_set_of_le (Nat.le_refl n)]
          simp
        rw [ht, rs_snoc, fv, if_neg hv, hz, List.append_assoc]
      · intro i hi
        rw [hg]
        by_cases hin : i = n
        · subst hin; simp only [if_true]; exact ⟨fun h => absurd h hv, fun h => absurd h hbit⟩
        · rw [if_neg hin]; exact h1 i (by omega)
      · intro i hi
        rw [hg, if_neg (by omega)]; exact h2 i (by omega)
      · intro i
        rw [hg]; split
        · exact hv64
        · exact h3 i
theorem mk_of_bits (l : List Int) (m : Nat) (hm : m < 512) (h : ∀ i, i < 9 → (l.getD i 0 = 0 ↔ m / 2 ^ i % 2 = 0)) : mk l 9 = m := by
  have hl := mk_lt l 9
  have e : (2 : Nat) ^ 9 = 512 := rfl
  apply Nat.eq_of_testBit_eq
  intro i
  by_cases hi : i < 9
  · rw [Nat.testBit_eq_decide_div_mod_eq, Nat.testBit_eq_decide_div_mod_eq, mk_bit l i hi]
    have := h i hi
    by_cases h0 : l.getD i 0 = 0
    · rw [if_pos h0, this.1 h0]
    · have h1 : m / 2 ^ i % 2 = 1 := by
        have : m / 2 ^ i % 2 ≠ 0 := fun hz => h0 (this.2 hz)
        omega
      rw [if_neg h0, h1]
  · have hp : 2 ^ 9 ≤ 2 ^ i := Nat.pow_le_pow_right (by omega) (by omega)
    rw [Nat.testBit_lt_two_pow (by omega), Nat.testBit_lt_two_pow (by omega)]
theorem out_read (b : List Int) (hb : ∀ c ∈ b, 0 ≤ c ∧ c < 256) (h : readE b = 0) : out (readR b) 9 = b ∧ (readR b).length = 9 ∧ ∀ n, In64 ((readR b).getD n 0) := by
  have hR : readR b = (nineS b).1 := by unfold readR; rw [if_pos h]
  rw [hR]
  unfold readE endS at h
  have hn : (nineS b).2.1 = 0 ∧ (nineS b).2.2 = [] := by
    split at h
    · omega
    · rename_i hc
      refine ⟨h, Classical.byContradiction fun hne => hc ⟨h, hne⟩⟩
  generalize hS : nineS b = S at hn
  obtain ⟨l, e, ys⟩ := S
  simp only at hn
  obtain ⟨rfl, rfl⟩ := hn
  unfold nineS at hS
  have hmb : ∀ c ∈ (maskN b).2.2, 0 ≤ c ∧ c < 256 := by
    unfold maskN; exact numS_bytes _ (byteS_bytes b hb 0) _
  obtain ⟨he, hl, hz, hbits, _, h64⟩ := sts_ok _ _ _ hmb 9 (by omega) l [] hS
  rw [List.append_nil, List.take_of_length_le (by omega)] at hz
  unfold maskE at he
  have h5 : (maskN b).1 < 512 ∧ (maskN b).2.1 = 0 := by
    split at he
    · exact absurd he (errS_zero (by decide))
    · exact ⟨by omega, he⟩
  have hpos : 0 ≤ (maskN b).1 := by unfold maskN; exact numS_pos _ _
  -- the mask
  have hnum : (maskN b).2.1 = 0 → headE b = 0 ∧ (byteS 0 b).2.2 = enc (maskN b).1.toNat ++ (maskN b).2.2 := by
    unfold maskN numS
    generalize hxs : (byteS 0 b).2.2 = xs
    have hxb : ∀ c ∈ xs, 0 ≤ c ∧ c < 256 := by rw [← hxs]; exact byteS_bytes b hb 0
    intro h0
    have hhe : headE b = 0 := by
      apply Classical.byContradiction
      intro hne
      have hst := rawS_stick (headE b) xs hne
      split at h0
      · exact hst h0
      · simp only at h0
        first
          | exact hst h0
          | (split at h0
             · exact hst (by assumption)
             · exact hst h0)
    refine ⟨hhe, ?_⟩
    rw [hhe] at h0 ⊢
    unfold rawS at h0 ⊢
    rw [if_pos rfl] at h0 ⊢
    split at h0
    · rename_i hlt
      rw [if_pos hlt]
      simp only at h0
      have hr : raw 0 xs = (0, (raw 0 xs).2.1, (raw 0 xs).2.2) := by rw [← h0]
      obtain ⟨h4, _, _⟩ := raw_back xs 0 (raw 0 xs).2.1 (raw 0 xs).2.2 (by omega) hxb hr
      rw [Int.toNat_natCast]
      exact h4
    · simp only at h0
      split at h0
      · omega
      · rename_i hne; exact absurd h0 hne
  obtain ⟨hhe, henc⟩ := hnum h5.2
  have hb1 : b = 184 :: (byteS 0 b).2.2 := by
    unfold headE at hhe
    cases b with
    | nil => simp [byteS, errS] at hhe
    | cons c t =>
      simp only [byteS, if_true] at hhe ⊢
      split at hhe
      · exact absurd hhe (errS_zero (by decide))
      · rename_i hc
        have : c = 184 := Classical.byContradiction fun hn => hc hn
        rw [this]
  have hmk : mk l 9 = (maskN b).1.toNat := mk_of_bits l _ (by omega) (fun i hi => by
    have := hbits i hi
    exact this)
  refine ⟨?_, hl, h64⟩
  show out l 9 = b
  have ho : out l 9 = 184 :: (enc (maskN b).1.toNat ++ (maskN b).2.2) := by rw [out9 l hl, hmk, hz]
  rw [ho, ← henc]
  exact hb1.symm
theorem readE_kinds (b : List Int) : readE b = 0 ∨ readE b = 2 ∨ readE b = 3 ∨ readE b = 4 := by
  have hbyte : (byteS 0 b).2.1 = 0 ∨ (byteS 0 b).2.1 = 2 := by
    cases b with
    | nil => right; rfl
    | cons c t => left; rfl
  have hraw : ∀ e xs, (e = 0 ∨ e = 2 ∨ e = 4) → ((rawS e xs).1 = 0 ∨ (rawS e xs).1 = 2 ∨ (rawS e xs).1 = 4) := by
    intro e xs h
    unfold rawS; split
    · exact raw_err xs 0
    · exact h
  have herr : ∀ e, (e = 0 ∨ e = 2 ∨ e = 4) → (errS e 4 = 0 ∨ errS e 4 = 2 ∨ errS e 4 = 4) := by
    intro e h; unfold errS; split <;> omega
  have hh : headE b = 0 ∨ headE b = 2 ∨ headE b = 4 := by
    unfold headE; split
    · exact herr _ (by omega)
    · omega
  have hn : (maskN b).2.1 = 0 ∨ (maskN b).2.1 = 2 ∨ (maskN b).2.1 = 4 := by
    unfold maskN numS
    have := hraw (headE b) (byteS 0 b).2.2 hh
    split
    · exact this
    · by_cases h0 : (rawS (headE b) (byteS 0 b).2.2).1 = 0
      · simp [h0]
      · simp only [h0, if_false, false_or] at this ⊢
        exact this
  have hm : maskE b = 0 ∨ maskE b = 2 ∨ maskE b = 4 := by
    unfold maskE; split
    · exact herr _ hn
    · exact hn
  have hs : ∀ n m s, (s.2.1 = 0 ∨ s.2.1 = 2 ∨ s.2.1 = 4) → ((sts m s n).2.1 = 0 ∨ (sts m s n).2.1 = 2 ∨ (sts m s n).2.1 = 4) := by
    intro n m s h
    induction n with
    | zero => exact h
    | succ n ih =>
      rw [sts]
      unfold stp; split
      · exact ih
      · have := hraw _ (sts m s n).2.2 ih
        show (if _ then _ else _) = _ ∨ (if _ then _ else _) = _ ∨ (if _ then _ else _) = _
        split
        · exact herr _ this
        · exact this
  have h9 := hs 9 (maskN b).1.toNat ([0, 0, 0, 0, 0, 0, 0, 0, 0], maskE b, (maskN b).2.2) hm
  unfold readE endS nineS
  split <;> omega
theorem readR_zero (b : List Int) (h : readE b ≠ 0) : readR b = [0, 0, 0, 0, 0, 0, 0, 0, 0] := by unfold readR; rw [if_neg h]
theorem out_bytes (x : List Int) : ∀ n, ∀ c ∈ out x n, 0 ≤ c ∧ c < 256
  | 0 => by
    intro c hc
    simp only [out, List.mem_cons] at hc
    rcases hc with rfl | hc
    · omega
    · exact enc_bytes _ c hc
  | n + 1 => by
    intro c hc
    simp only [out, List.mem_append] at hc
    rcases hc with hc | hc
    · exact out_bytes x n c hc
    · split at hc
      · simp at hc
      · exact sgn_bytes _ c hc
end Go.Proofs.Ytplajmcjkddikaa.ReplyPlain
