/- The plain law of numbers in groups of seven bits: what is put is read, and what is read was put. No Go in this text. -/
import Init
namespace Go.Proofs.Ytplajmcjkddikaa.Leb

/-- A number in groups of seven bits, the lowest first. -/
def enc (u : Nat) : List Int := if _h : u < 128 then [(u : Int)] else ((u % 128 + 128 : Nat) : Int) :: enc (u / 128)
termination_by u
decreasing_by omega

theorem enc_small {u : Nat} (h : u < 128) : enc u = [(u : Int)] := by rw [enc, dif_pos h]
theorem enc_big {u : Nat} (h : ¬ u < 128) : enc u = ((u % 128 + 128 : Nat) : Int) :: enc (u / 128) := by rw [enc, dif_neg h]

theorem enc_len (n : Nat) : ∀ u, u < 2 ^ (7 * n) → 0 < n → (enc u).length ≤ n := by
  induction n with
  | zero => intro u _ h; omega
  | succ n ih =>
    intro u hu _
    by_cases h : u < 128
    · rw [enc_small h]; simp
    · rw [enc_big h, List.length_cons]
      have : u / 128 < 2 ^ (7 * n) := by
        rw [Nat.div_lt_iff_lt_mul (by omega)]
        have e : 2 ^ (7 * (n + 1)) = 2 ^ (7 * n) * 128 := by rw [Nat.mul_add, Nat.pow_add]
        omega
      have hn : 0 < n := by
        rcases Nat.eq_zero_or_pos n with rfl | h'
        · simp at hu; omega
        · exact h'
      have := ih _ this hn
      omega
theorem enc_len10 (u : Nat) (h : u < 18446744073709551616) : (enc u).length ≤ 10 :=
  enc_len 10 u (by simp; omega) (by omega)
theorem enc_pos (u : Nat) : 0 < (enc u).length := by
  by_cases h : u < 128
  · rw [enc_small h]; simp
  · rw [enc_big h]; simp
theorem enc_bytes : ∀ u, ∀ c ∈ enc u, 0 ≤ c ∧ c < 256 := by
  intro u
  induction u using Nat.strongRecOn with
  | ind u ih =>
    by_cases h : u < 128
    · rw [enc_small h]; intro c hc; simp at hc; subst hc; omega
    · rw [enc_big h]; intro c hc
      rcases List.mem_cons.1 hc with rfl | hc
      · omega
      · exact ih (u / 128) (by omega) c hc

/-- What a reader makes of bytes, from the i-th group on: an error (0: none), a number, what is left. -/
def raw (i : Nat) : List Int → Int × Nat × List Int
  | [] => (2, 0, [])
  | c :: bs =>
    if (i = 9 ∧ c > 1) ∨ (i > 0 ∧ c = 0) then (4, 0, bs)
    else if c < 128 then (0, c.toNat, bs)
    else if (raw (i + 1) bs).1 = 0 then (0, c.toNat - 128 + 128 * (raw (i + 1) bs).2.1, (raw (i + 1) bs).2.2)
    else ((raw (i + 1) bs).1, 0, (raw (i + 1) bs).2.2)

/-- the first number that does not fit behind i groups -/
def lim (i : Nat) : Nat := 2 * 128 ^ (9 - i)
theorem lim0 : lim 0 = 18446744073709551616 := by unfold lim; rfl
theorem lim_succ {i : Nat} (h : i < 9) : lim i = 128 * lim (i + 1) := by
  unfold lim
  obtain ⟨k, hk⟩ : ∃ k, 9 - i = k + 1 := ⟨8 - i, by omega⟩
  have : 9 - (i + 1) = k := by omega
  rw [hk, this, Nat.pow_succ]; omega

theorem raw_enc (rest : List Int) : ∀ u i, i ≤ 9 → u < lim i → (0 < i → 0 < u) → raw i (enc u ++ rest) = (0, u, rest) := by
  intro u
  induction u using Nat.strongRecOn with
  | ind u ih =>
    intro i hi hl hp
    by_cases h : u < 128
    · rw [enc_small h, List.singleton_append, raw]
      have h9 : i = 9 → u ≤ 1 := by rintro rfl; unfold lim at hl; simp at hl; omega
      rw [if_neg (by omega), if_pos (by omega)]
      simp
    · rw [enc_big h, List.cons_append, raw]
      have hi9 : i < 9 := by
        rcases Nat.lt_or_eq_of_le hi with h' | rfl
        · exact h'
        · unfold lim at hl; simp at hl; omega
      have hs := lim_succ hi9
      have hr := ih (u / 128) (by omega) (i + 1) (by omega) (by omega) (by omega)
      rw [if_neg (by omega), if_neg (by omega), hr]
      simp only [if_true]
      have e : (((u % 128 + 128 : Nat) : Int)).toNat = u % 128 + 128 := by omega
      rw [e]
      have e2 : u % 128 + 128 - 128 + 128 * (u / 128) = u := by omega
      rw [e2]

theorem raw_back : ∀ (bs : List Int) (i u : Nat) (rest : List Int), i ≤ 9 → (∀ c ∈ bs, 0 ≤ c ∧ c < 256) → raw i bs = (0, u, rest) → bs = enc u ++ rest ∧ u < lim i ∧ (0 < i → 0 < u) := by
  intro bs
  induction bs with
  | nil => intro i u rest _ _ h; simp [raw] at h
  | cons c bs ih =>
    intro i u rest hi hb h
    have hc := hb c (by simp)
    rw [raw] at h
    by_cases h1 : (i = 9 ∧ c > 1) ∨ (i > 0 ∧ c = 0)
    · rw [if_pos h1] at h; simp at h
    · rw [if_neg h1] at h
      by_cases h2 : c < 128
      · rw [if_pos h2] at h
        simp only [Prod.mk.injEq, true_and] at h
        obtain ⟨rfl, rfl⟩ := h
        refine ⟨?_, ?_, ?_⟩
        · rw [enc_small (by omega)]; simp; omega
        · rcases Nat.lt_or_eq_of_le hi with h' | rfl
          · have hs := lim_succ h'
            have : 0 < lim (i + 1) := by unfold lim; exact Nat.mul_pos (by omega) (Nat.pow_pos (by omega))
            omega
          · have : lim 9 = 2 := by unfold lim; rfl
            omega
        · intro hi0; omega
      · rw [if_neg h2] at h
        have hi9 : i < 9 := by omega
        by_cases h3 : (raw (i + 1) bs).1 = 0
        · rw [if_pos h3] at h
          simp only [Prod.mk.injEq, true_and] at h
          obtain ⟨hu, hr⟩ := h
          obtain ⟨e1, e2, e3⟩ := ih (i + 1) (raw (i + 1) bs).2.1 (raw (i + 1) bs).2.2 (by omega) (fun c hc => hb c (List.mem_cons_of_mem _ hc)) (by rw [← h3])
          have hs := lim_succ hi9
          have hv := e3 (by omega)
          have hcn : c.toNat = u % 128 + 128 := by omega
          have hv2 : u / 128 = (raw (i + 1) bs).2.1 := by omega
          refine ⟨?_, by omega, by omega⟩
          rw [enc_big (by omega), hv2, List.cons_append, ← hr, ← e1]
          congr 1; omega
        · rw [if_neg h3] at h
          simp only [Prod.mk.injEq] at h
          exact absurd h.1 h3

theorem enc_inj (a b : Nat) (ha : a < lim 0) (hb : b < lim 0) (r s : List Int) (h : enc a ++ r = enc b ++ s) : a = b ∧ r = s := by
  have h1 := raw_enc r a 0 (by omega) ha (by omega)
  have h2 := raw_enc s b 0 (by omega) hb (by omega)
  rw [h, h2] at h1
  simp only [Prod.mk.injEq, true_and] at h1
  exact ⟨h1.1.symm, h1.2.symm⟩

/-- An error of a reader is ErrShort or ErrForm. -/
theorem raw_err : ∀ (bs : List Int) (i : Nat), (raw i bs).1 = 0 ∨ (raw i bs).1 = 2 ∨ (raw i bs).1 = 4 := by
  intro bs
  induction bs with
  | nil => intro i; simp [raw]
  | cons c bs ih =>
    intro i; rw [raw]
    split
    · simp
    · split
      · simp
      · split
        · simp
        · exact ih _

/-- twice a number, or, below 0, twice what it lacks to -1, and one -/
def zig (v : Int) : Nat := if v < 0 then (-2 * v - 1).toNat else (2 * v).toNat
theorem zig_lt (v : Int) (h : -9223372036854775808 ≤ v ∧ v ≤ 9223372036854775807) : zig v < 18446744073709551616 := by unfold zig; split <;> omega
/-- and back -/
def zag (u : Nat) : Int := if u % 2 = 1 then -((u / 2 : Nat) : Int) - 1 else ((u / 2 : Nat) : Int)
theorem zag_zig (v : Int) : zag (zig v) = v := by unfold zag zig; split <;> split <;> omega
theorem zig_zag (u : Nat) : zig (zag u) = u := by unfold zag zig; split <;> split <;> omega
theorem zig_inj {v w : Int} (h : zig v = zig w) : v = w := by rw [← zag_zig v, h, zag_zig]
theorem zag_range (u : Nat) (h : u < 18446744073709551616) : -9223372036854775808 ≤ zag u ∧ zag u ≤ 9223372036854775807 := by unfold zag; split <;> omega

end Go.Proofs.Ytplajmcjkddikaa.Leb
