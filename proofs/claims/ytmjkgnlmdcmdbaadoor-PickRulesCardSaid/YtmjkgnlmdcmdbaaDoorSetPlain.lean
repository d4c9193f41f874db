/- Sets of nodes as the bits of a number: their nodes, how many, the lowest, the highest. No walk in this text. -/
import Derived.Lib.BitFns
import Derived.Lib.TrailingZeros
namespace Go.Proofs.YtmjkgnlmdcmdbaaDoor.Sets
set_option linter.unusedVariables false
set_option linter.unusedSimpArgs false
/-- the nodes of a set, rising -/
def nodes (s : Nat) : List Nat := (List.range 64).filter fun i => s.testBit i
theorem mem_nodes (s i : Nat) : i ∈ nodes s ↔ i < 64 ∧ s.testBit i = true := by simp [nodes]
theorem pop_eq (n : Nat) : ∀ x, Lib.popAux n x = ((List.range n).filter fun i => x.testBit i).length := by
  induction n with
  | zero => intro x; rfl
  | succ n ih =>
    intro x
    have e : ∀ i, x.testBit (i + 1) = (x / 2).testBit i := fun i => Nat.testBit_succ x i
    rw [Lib.popAux, ih (x / 2), List.range_succ_eq_map, List.filter_cons, List.filter_map, Nat.testBit_zero]
    have e2 : ((fun i => x.testBit i) ∘ Nat.succ) = fun i => (x / 2).testBit i := by funext i; exact e i
    rw [e2]
    by_cases h : x % 2 = 1
    · simp [h]; omega
    · have : x % 2 = 0 := by omega
      simp [this]
theorem and_step (k x y : Nat) : x &&& y = (x % 2 ^ k &&& y % 2 ^ k) + 2 ^ k * ((x / 2 ^ k) &&& (y / 2 ^ k)) := by
  rw [← Nat.and_mod_two_pow, ← Nat.and_div_two_pow, Nat.mod_add_div]
def mask (m b : Nat) : Nat → Nat
  | 0 => 0
  | n + 1 => m + b * mask m b n
theorem mask5 : mask 1 4 32 = 6148914691236517205 := by decide +kernel
theorem mask3 : mask 3 16 16 = 3689348814741910323 := by decide +kernel
theorem mask0f : mask 15 256 8 = 1085102592571150095 := by decide +kernel
def s1 : Nat → Nat → Nat
  | 0, _ => 0
  | n + 1, x => (x / 2 % 2 + x % 2) + 4 * s1 n (x / 4)
def s2 : Nat → Nat → Nat
  | 0, _ => 0
  | n + 1, x => (x / 4 % 4 + x % 4) + 16 * s2 n (x / 16)
def s3 : Nat → Nat → Nat
  | 0, _ => 0
  | n + 1, x => (x / 16 % 16 + x % 16) + 256 * s3 n (x / 256)
theorem s1_eq (n : Nat) : ∀ x, (x / 2 &&& mask 1 4 n) + (x &&& mask 1 4 n) = s1 n x := by
  induction n with
  | zero => intro x; simp [mask, s1]
  | succ n ih =>
    intro x
    have hm : mask 1 4 (n + 1) % 2 ^ 2 = 1 := by simp only [mask]; omega
    have hd : mask 1 4 (n + 1) / 2 ^ 2 = mask 1 4 n := by simp only [mask]; omega
    have h1 := and_step 2 (x / 2) (mask 1 4 (n + 1))
    have h2 := and_step 2 x (mask 1 4 (n + 1))
    rw [hm, hd, Nat.and_one_is_mod] at h1 h2
    have h3 := ih (x / 4)
    have e : x / 2 / 2 ^ 2 = x / 4 / 2 := by omega
    have e2 : x / 2 ^ 2 = x / 4 := by omega
    rw [e] at h1
    rw [e2] at h2
    rw [h1, h2, s1, ← h3]
    omega
theorem and3 (x : Nat) : x &&& 3 = x % 4 := Nat.and_two_pow_sub_one_eq_mod x 2
theorem and15 (x : Nat) : x &&& 15 = x % 16 := Nat.and_two_pow_sub_one_eq_mod x 4
theorem s2_eq (n : Nat) : ∀ x, (x / 4 &&& mask 3 16 n) + (x &&& mask 3 16 n) = s2 n x := by
  induction n with
  | zero => intro x; simp [mask, s2]
  | succ n ih =>
    intro x
    have hm : mask 3 16 (n + 1) % 2 ^ 4 = 3 := by simp only [mask]; omega
    have hd : mask 3 16 (n + 1) / 2 ^ 4 = mask 3 16 n := by simp only [mask]; omega
    have h1 := and_step 4 (x / 4) (mask 3 16 (n + 1))
    have h2 := and_step 4 x (mask 3 16 (n + 1))
    rw [hm, hd, and3] at h1 h2
    have h3 := ih (x / 16)
    have e : x / 4 / 2 ^ 4 = x / 16 / 4 := by omega
    have e2 : x / 2 ^ 4 = x / 16 := by omega
    rw [e] at h1
    rw [e2] at h2
    rw [h1, h2, s2, ← h3]
    omega
/-- all n digits of base b are at most m -/
def dig (b m : Nat) : Nat → Nat → Prop
  | 0, x => x = 0
  | n + 1, x => x % b ≤ m ∧ dig b m n (x / b)
def dsum (b : Nat) : Nat → Nat → Nat
  | 0, _ => 0
  | n + 1, x => x % b + dsum b n (x / b)
theorem s1_dig (n : Nat) : ∀ x, dig 4 2 n (s1 n x) ∧ dsum 4 n (s1 n x) = Lib.popAux (2 * n) x := by
  induction n with
  | zero => intro x; exact ⟨rfl, rfl⟩
  | succ n ih =>
    intro x
    obtain ⟨h1, h2⟩ := ih (x / 4)
    have e1 : s1 (n + 1) x % 4 = x / 2 % 2 + x % 2 := by simp only [s1]; omega
    have e2 : s1 (n + 1) x / 4 = s1 n (x / 4) := by simp only [s1]; omega
    have e3 : 2 * (n + 1) = 2 * n + 1 + 1 := by omega
    have e4 : x / 2 / 2 = x / 4 := by omega
    refine ⟨⟨by rw [e1]; omega, by rw [e2]; exact h1⟩, ?_⟩
    rw [dsum, e1, e2, h2, e3, Lib.popAux, Lib.popAux, e4]
    omega
theorem s2_dig (n : Nat) : ∀ x, dig 4 2 (2 * n) x → dig 16 4 n (s2 n x) ∧ dsum 16 n (s2 n x) = dsum 4 (2 * n) x := by
  induction n with
  | zero => intro x _; exact ⟨rfl, rfl⟩
  | succ n ih =>
    intro x h
    have e3 : 2 * (n + 1) = 2 * n + 1 + 1 := by omega
    rw [e3] at h
    obtain ⟨a, b, c⟩ := h
    have e4 : x / 4 / 4 = x / 16 := by omega
    rw [e4] at c
    obtain ⟨h1, h2⟩ := ih (x / 16) c
    have e1 : s2 (n + 1) x % 16 = x / 4 % 4 + x % 4 := by simp only [s2]; omega
    have e2 : s2 (n + 1) x / 16 = s2 n (x / 16) := by simp only [s2]; omega
    refine ⟨⟨by rw [e1]; omega, by rw [e2]; exact h1⟩, ?_⟩
    rw [e3, dsum, e1, e2, h2, dsum, dsum, e4]
    omega
theorem s3_dig (n : Nat) : ∀ x, dig 16 4 (2 * n) x → dig 256 8 n (s3 n x) ∧ dsum 256 n (s3 n x) = dsum 16 (2 * n) x := by
  induction n with
  | zero => intro x _; exact ⟨rfl, rfl⟩
  | succ n ih =>
    intro x h
    have e3 : 2 * (n + 1) = 2 * n + 1 + 1 := by omega
    rw [e3] at h
    obtain ⟨a, b, c⟩ := h
    have e4 : x / 16 / 16 = x / 256 := by omega
    rw [e4] at c
    obtain ⟨h1, h2⟩ := ih (x / 256) c
    have e1 : s3 (n + 1) x % 256 = x / 16 % 16 + x % 16 := by simp only [s3]; omega
    have e2 : s3 (n + 1) x / 256 = s3 n (x / 256) := by simp only [s3]; omega
    refine ⟨⟨by rw [e1]; omega, by rw [e2]; exact h1⟩, ?_⟩
    rw [e3, dsum, e1, e2, h2, dsum, dsum, e4]
    omega
theorem s3_eq (n : Nat) : ∀ x, dig 16 4 (2 * n) x → (x / 16 + x) &&& mask 15 256 n = s3 n x := by
  induction n with
  | zero => intro x _; simp [mask, s3]
  | succ n ih =>
    intro x h
    have e3 : 2 * (n + 1) = 2 * n + 1 + 1 := by omega
    rw [e3] at h
    obtain ⟨a, b, c⟩ := h
    have e4 : x / 16 / 16 = x / 256 := by omega
    rw [e4] at c
    have h3 := ih (x / 256) c
    have hm : mask 15 256 (n + 1) % 2 ^ 8 = 15 := by simp only [mask]; omega
    have hd : mask 15 256 (n + 1) / 2 ^ 8 = mask 15 256 n := by simp only [mask]; omega
    have h1 := and_step 8 (x / 16 + x) (mask 15 256 (n + 1))
    rw [hm, hd, and15] at h1
    have c0 : x / 256 % 16 ≤ 4 := by
      cases n with
      | zero => have : x / 256 = 0 := c; omega
      | succ n => exact c.1
    have e5 : (x / 16 + x) / 2 ^ 8 = x / 256 / 16 + x / 256 := by omega
    rw [e5] at h1
    rw [h1, s3, ← h3]
    omega
theorem dig_out (n y : Nat) (h : dig 256 8 (n + 1) y) : ∃ d z, y = d + 256 * z ∧ d ≤ 8 ∧ dig 256 8 n z ∧ dsum 256 (n + 1) y = d + dsum 256 n z :=
  ⟨y % 256, y / 256, by omega, h.1, h.2, rfl⟩
theorem fold_digits (d0 d1 d2 d3 d4 d5 d6 d7 y : Nat) (b0 : d0 ≤ 8) (b1 : d1 ≤ 8) (b2 : d2 ≤ 8) (b3 : d3 ≤ 8) (b4 : d4 ≤ 8) (b5 : d5 ≤ 8) (b6 : d6 ≤ 8) (b7 : d7 ≤ 8)
    (hy : y = (d0 + 256 * d1) + 65536 * ((d2 + 256 * d3) + 65536 * ((d4 + 256 * d5) + 65536 * (d6 + 256 * d7)))) :
    y + y / 256 < 18446744073709551616 ∧ (y + y / 256) + (y + y / 256) / 65536 < 18446744073709551616 ∧
    (y + y / 256) + (y + y / 256) / 65536 + ((y + y / 256) + (y + y / 256) / 65536) / 4294967296 < 9223372036854775808 ∧
    ((y + y / 256) + (y + y / 256) / 65536 + ((y + y / 256) + (y + y / 256) / 65536) / 4294967296) % 128 = d0 + d1 + d2 + d3 + d4 + d5 + d6 + d7 := by
  have a0 : y / 256 = (d1 + 256 * d2) + 65536 * ((d3 + 256 * d4) + 65536 * ((d5 + 256 * d6) + 65536 * d7)) := by omega
  have a1 : y + y / 256 = (d0 + d1 + 256 * (d1 + d2)) + 65536 * ((d2 + d3 + 256 * (d3 + d4)) + 65536 * ((d4 + d5 + 256 * (d5 + d6)) + 65536 * (d6 + d7 + 256 * d7))) := by omega
  clear a0 hy
  generalize y + y / 256 = z at a1 ⊢
  obtain ⟨q0, p0⟩ : ∃ q, q = d0 + d1 + 256 * (d1 + d2) := ⟨_, rfl⟩
  obtain ⟨q1, p1⟩ : ∃ q, q = d2 + d3 + 256 * (d3 + d4) := ⟨_, rfl⟩
  obtain ⟨q2, p2⟩ : ∃ q, q = d4 + d5 + 256 * (d5 + d6) := ⟨_, rfl⟩
  obtain ⟨q3, p3⟩ : ∃ q, q = d6 + d7 + 256 * d7 := ⟨_, rfl⟩
  rw [← p0, ← p1, ← p2, ← p3] at a1
  have c0 : q0 ≤ 4112 := by omega
  have c1 : q1 ≤ 4112 := by omega
  have c2 : q2 ≤ 4112 := by omega
  have c3 : q3 ≤ 4112 := by omega
  have key : (q0 + q1 + q2 + q3) % 128 = d0 + d1 + d2 + d3 + d4 + d5 + d6 + d7 := by omega
  clear p0 p1 p2 p3 b0 b1 b2 b3 b4 b5 b6 b7
  rw [← key]
  clear key
  subst a1
  have e0 : (q0 + 65536 * (q1 + 65536 * (q2 + 65536 * q3))) / 65536 = q1 + 65536 * (q2 + 65536 * q3) := by omega
  rw [e0]
  have e1 : (q0 + 65536 * (q1 + 65536 * (q2 + 65536 * q3)) + (q1 + 65536 * (q2 + 65536 * q3))) / 4294967296 = (q2 + q3) + 65536 * q3 := by omega
  rw [e1]
  exact ⟨by omega, by omega, by omega, by omega⟩
theorem fold8 (y : Nat) (h : dig 256 8 8 y) : y + y / 256 < 18446744073709551616 ∧ (y + y / 256) + (y + y / 256) / 65536 < 18446744073709551616 ∧
    (y + y / 256) + (y + y / 256) / 65536 + ((y + y / 256) + (y + y / 256) / 65536) / 4294967296 < 9223372036854775808 ∧
    ((y + y / 256) + (y + y / 256) / 65536 + ((y + y / 256) + (y + y / 256) / 65536) / 4294967296) % 128 = dsum 256 8 y := by
  obtain ⟨d0, y0, e0, b0, h, t0⟩ := dig_out 7 y h
  obtain ⟨d1, y1, e1, b1, h, t1⟩ := dig_out 6 y0 h
  obtain ⟨d2, y2, e2, b2, h, t2⟩ := dig_out 5 y1 h
  obtain ⟨d3, y3, e3, b3, h, t3⟩ := dig_out 4 y2 h
  obtain ⟨d4, y4, e4, b4, h, t4⟩ := dig_out 3 y3 h
  obtain ⟨d5, y5, e5, b5, h, t5⟩ := dig_out 2 y4 h
  obtain ⟨d6, y6, e6, b6, h, t6⟩ := dig_out 1 y5 h
  obtain ⟨d7, y7, e7, b7, h, t7⟩ := dig_out 0 y6 h
  obtain rfl : y7 = 0 := h
  have ts : dsum 256 8 y = d0 + (d1 + (d2 + (d3 + (d4 + (d5 + (d6 + (d7 + 0))))))) :=
    t0.trans (congrArg (d0 + ·) (t1.trans (congrArg (d1 + ·) (t2.trans (congrArg (d2 + ·) (t3.trans (congrArg (d3 + ·) (t4.trans (congrArg (d4 + ·) (t5.trans (congrArg (d5 + ·) (t6.trans (congrArg (d6 + ·) t7)))))))))))))
  clear t0 t1 t2 t3 t4 t5 t6 t7
  have k := fold_digits d0 d1 d2 d3 d4 d5 d6 d7 y b0 b1 b2 b3 b4 b5 b6 b7 (by clear ts; omega)
  refine ⟨k.1, k.2.1, k.2.2.1, ?_⟩
  rw [k.2.2.2, ts]
  simp only [Nat.add_assoc, Nat.add_zero]
/-- math/bits.OnesCount64's sums, over numbers -/
theorem swar (x : Nat) (hx : x < 18446744073709551616) :
    ∃ a b y, (x / 2 &&& 6148914691236517205) + (x &&& 6148914691236517205) = a ∧ a < 18446744073709551616 ∧ (a / 4 &&& 3689348814741910323) + (a &&& 3689348814741910323) = b ∧ b < 18446744073709551616 ∧ b / 16 + b < 18446744073709551616 ∧ (b / 16 + b) &&& 1085102592571150095 = y ∧
      y + y / 256 < 18446744073709551616 ∧ (y + y / 256) + (y + y / 256) / 65536 < 18446744073709551616 ∧
      (y + y / 256) + (y + y / 256) / 65536 + ((y + y / 256) + (y + y / 256) / 65536) / 4294967296 < 9223372036854775808 ∧
      ((y + y / 256) + (y + y / 256) / 65536 + ((y + y / 256) + (y + y / 256) / 65536) / 4294967296) % 128 = (nodes x).length := by
  have k1 := s1_eq 32 x
  obtain ⟨d1, t1⟩ := s1_dig 32 x
  have k2 := s2_eq 16 (s1 32 x)
  obtain ⟨d2, t2⟩ := s2_dig 16 _ d1
  have k3 := s3_eq 8 _ d2
  obtain ⟨d3, t3⟩ := s3_dig 8 _ d2
  have k4 := fold8 _ d3
  rw [mask5] at k1
  rw [mask3] at k2
  rw [mask0f] at k3
  have small : ∀ (b m : Nat), 0 < b → m < b → ∀ n y, dig b m n y → y < b ^ n := by
    intro b m hb hm n
    induction n with
    | zero => intro y hy; have : y = 0 := hy; simp [this]
    | succ n ih =>
      intro y hy
      have := ih _ hy.2
      rw [Nat.pow_succ]
      exact (Nat.div_lt_iff_lt_mul hb).1 this
  have l1 := small 4 2 (by omega) (by omega) 32 _ d1
  have l2 := small 16 4 (by omega) (by omega) 16 _ d2
  have top : s2 16 (s1 32 x) / 16 + s2 16 (s1 32 x) < 18446744073709551616 := by
    have hd : ∀ n y, dig 16 4 n y → 15 * y + 4 ≤ 4 * 16 ^ n := by
      intro n
      induction n with
      | zero => intro y hy; have : y = 0 := hy; simp [this]
      | succ n ih =>
        intro y hy
        have := ih _ hy.2
        have h0 := hy.1
        rw [Nat.pow_succ]
        omega
    have := hd 16 _ d2
    generalize s2 16 (s1 32 x) = z at this ⊢
    omega
  refine ⟨_, _, _, k1, by omega, k2, by omega, top, k3, k4.1, k4.2.1, k4.2.2.1, ?_⟩
  rw [k4.2.2.2, t3, t2, t1, pop_eq]
  rfl
/- lists of nodes -/
def mk (l : List Nat) : Nat := l.foldl (fun a i => a ||| 2 ^ i) 0
theorem mk_snoc (l : List Nat) (k : Nat) : mk (l ++ [k]) = mk l ||| 2 ^ k := by simp [mk]
theorem fold_bit (l : List Nat) : ∀ a i, (l.foldl (fun a i => a ||| 2 ^ i) a).testBit i = (a.testBit i || decide (i ∈ l)) := by
  induction l with
  | nil => intro a i; simp
  | cons k l ih =>
    intro a i
    rw [List.foldl_cons, ih, Nat.testBit_or, Nat.testBit_two_pow]
    by_cases h : k = i
    · subst h; simp
    · have h' : ¬ i = k := fun e => h e.symm
      simp [h, h']
theorem mk_bit (l : List Nat) (i : Nat) : (mk l).testBit i = decide (i ∈ l) := by rw [mk, fold_bit]; simp
theorem lt_of_bits (s : Nat) (h : ∀ i, 64 ≤ i → s.testBit i = false) : s < 18446744073709551616 := by
  have := Nat.lt_pow_two_of_testBit (n := 64) s h
  omega
theorem bit_out (s i : Nat) (h : s < 18446744073709551616) (hi : 64 ≤ i) : s.testBit i = false := Nat.testBit_lt_two_pow (Nat.lt_of_lt_of_le (show s < 2 ^ 64 by omega) (Nat.pow_le_pow_right (by omega) hi))
theorem mk_lt (l : List Nat) (h : ∀ i ∈ l, i < 64) : mk l < 18446744073709551616 := lt_of_bits _ fun i hi => by
  rw [mk_bit, decide_eq_false_iff_not]
  intro hm
  have := h i hm
  omega
theorem eq_of_bits (s t : Nat) (hs : s < 18446744073709551616) (ht : t < 18446744073709551616) (h : ∀ i, i < 64 → s.testBit i = t.testBit i) : s = t := by
  apply Nat.eq_of_testBit_eq
  intro i
  by_cases hi : i < 64
  · exact h i hi
  · rw [bit_out s i hs (by omega), bit_out t i ht (by omega)]
theorem nodes_lt (s i : Nat) (h : i ∈ nodes s) : i < 64 := ((mem_nodes s i).1 h).1
theorem mk_nodes (s : Nat) (h : s < 18446744073709551616) : mk (nodes s) = s :=
  eq_of_bits _ _ (mk_lt _ (fun i hi => nodes_lt s i hi)) h fun i hi => by
    rw [mk_bit]
    by_cases hb : s.testBit i = true
    · rw [hb, decide_eq_true_eq, mem_nodes]; exact ⟨hi, hb⟩
    · have hb' : s.testBit i = false := by simpa using hb
      rw [hb', decide_eq_false_iff_not, mem_nodes]; exact fun hh => hb hh.2
theorem nodes_ext (s t : Nat) (h : ∀ i, i < 64 → s.testBit i = t.testBit i) : nodes s = nodes t := by
  unfold nodes
  apply List.filter_congr
  intro i hi
  exact h i (List.mem_range.1 hi)
theorem filter_none (p : Nat → Bool) (n : Nat) (h : ∀ i, i < n → p i = false) : (List.range n).filter p = [] := by
  rw [List.filter_eq_nil_iff]
  intro i hi
  rw [h i (List.mem_range.1 hi)]
  simp
theorem filter_first (p : Nat → Bool) (k : Nat) (h : ∀ i, i < k → p i = false) (hk : p k = true) :
    ∀ n, k < n → (List.range n).filter p = k :: (List.range n).filter (fun i => p i && decide (i ≠ k)) := by
  intro n
  induction n with
  | zero => intro h; omega
  | succ n ih =>
    intro hn
    rw [List.range_succ, List.filter_append, List.filter_append]
    by_cases hkn : k < n
    · rw [ih hkn]
      have hne : (n ≠ k) := by omega
      simp [List.filter_cons, hne]
    · obtain rfl : k = n := by omega
      rw [filter_none p k h, filter_none _ k (fun i hi => by rw [h i hi]; rfl)]
      simp [List.filter_cons, hk]
theorem low_bits (s : Nat) (h0 : s ≠ 0) (h : s < 18446744073709551616) : Lib.ctz 64 s < 64 ∧ s.testBit (Lib.ctz 64 s) = true ∧ (∀ i, i < Lib.ctz 64 s → s.testBit i = false) ∧
    ∀ i, (s &&& (s - 1)).testBit i = (s.testBit i && decide (i ≠ Lib.ctz 64 s)) := by
  obtain ⟨m, hm, hk⟩ := Lib.ctzFrom_spec 64 s (by omega) (by omega)
  have e : Lib.ctz 64 s = Lib.ctzFrom 64 s := by simp [Lib.ctz, h0]
  rw [e]
  generalize Lib.ctzFrom 64 s = k at hm hk
  subst hm
  have bit : ∀ i, (2 ^ k * (2 * m + 1)).testBit i = (decide (k ≤ i) && (2 * m + 1).testBit (i - k)) := fun i => by rw [Nat.mul_comm, Nat.testBit_mul_two_pow]
  have e1 : 2 ^ k * (2 * m + 1) - 1 = 2 ^ k * (2 * m) + (2 ^ k - 1) := by
    have := Nat.two_pow_pos k
    rw [Nat.mul_add]; omega
  have bit1 : ∀ i, (2 ^ k * (2 * m) + (2 ^ k - 1)).testBit i = if i < k then true else (2 * m).testBit (i - k) := fun i => by
    rw [Nat.testBit_two_pow_mul_add _ (by have := Nat.two_pow_pos k; omega)]
    split
    · rename_i hi; simp [hi]
    · rfl
  refine ⟨hk, by rw [bit]; simp, fun i hi => by rw [bit]; simp; omega, fun i => ?_⟩
  rw [Nat.testBit_and, e1, bit, bit1]
  by_cases hi : i < k
  · have : ¬ k ≤ i := by omega
    simp [hi, this]
  · rw [if_neg hi]
    have hki : k ≤ i := by omega
    by_cases hik : i = k
    · subst hik; simp
    · obtain ⟨j, rfl⟩ : ∃ j, i = k + (j + 1) := ⟨i - k - 1, by omega⟩
      have e3 : k + (j + 1) - k = j + 1 := by omega
      rw [e3, Nat.testBit_succ, Nat.testBit_succ]
      have d1 : (2 * m + 1) / 2 = m := by omega
      have d2 : 2 * m / 2 = m := by omega
      rw [d1, d2]
      simp
theorem nodes_low (s : Nat) (h0 : s ≠ 0) (h : s < 18446744073709551616) : nodes s = Lib.ctz 64 s :: nodes (s &&& (s - 1)) := by
  obtain ⟨a, b, c, d⟩ := low_bits s h0 h
  unfold nodes
  rw [filter_first (fun i => s.testBit i) (Lib.ctz 64 s) c b 64 a]
  congr 1
  apply List.filter_congr
  intro i _
  rw [d i]
theorem nodes_zero : nodes 0 = [] := by decide
theorem nodes_eq_nil (s : Nat) (h : s < 18446744073709551616) : nodes s = [] ↔ s = 0 := by
  constructor
  · intro hn
    have := mk_nodes s h
    rw [hn] at this
    exact this.symm
  · rintro rfl; exact nodes_zero
/-- without the lowest -/
theorem drop_low (s t : Nat) (h0 : s ≠ 0) (h : s < 18446744073709551616) (ht : ∀ i, i < 64 → t.testBit i = (s.testBit i && decide (i ≠ Lib.ctz 64 s))) : nodes s = Lib.ctz 64 s :: nodes t := by
  rw [nodes_low s h0 h]
  congr 1
  exact nodes_ext _ _ fun i hi => by rw [(low_bits s h0 h).2.2.2 i, ht i hi]
/-- how many nodes lie below -/
def rank (p : Nat → Bool) (n : Nat) : Nat := ((List.range n).filter p).length
theorem take_rank (p : Nat → Bool) (j : Nat) : ∀ n, ((List.range n).filter p).take j = (List.range n).filter (fun i => p i && decide (rank p i < j)) := by
  intro n
  induction n with
  | zero => simp
  | succ n ih =>
    rw [List.range_succ, List.filter_append, List.filter_append, List.take_append, ih]
    congr 1
    have hr : rank p n = ((List.range n).filter p).length := rfl
    by_cases h : p n = true
    · by_cases hj : rank p n < j
      · obtain ⟨d, hd⟩ : ∃ d, j - ((List.range n).filter p).length = d + 1 := ⟨j - ((List.range n).filter p).length - 1, by omega⟩
        simp [List.filter_cons, h, hj, hd]
      · have hd : j - ((List.range n).filter p).length = 0 := by omega
        simp [List.filter_cons, h, hj, hd]
    · simp [List.filter_cons, h]
theorem mem_take (s j i : Nat) : i ∈ (nodes s).take j ↔ i < 64 ∧ s.testBit i = true ∧ rank (fun i => s.testBit i) i < j := by
  unfold nodes
  rw [take_rank]
  simp
/-- the number whose bits are a list of truths -/
def ofB (p : Nat → Bool) : Nat → Nat
  | 0 => 0
  | n + 1 => ofB p n + if p n = true then 2 ^ n else 0
theorem ofB_lt (p : Nat → Bool) (n : Nat) : ofB p n < 2 ^ n := by
  induction n with
  | zero => simp [ofB]
  | succ n ih => rw [ofB, Nat.pow_succ]; split <;> omega
theorem ofB_bit (p : Nat → Bool) : ∀ n i, (ofB p n).testBit i = (decide (i < n) && p i) := by
  intro n
  induction n with
  | zero => intro i; simp [ofB]
  | succ n ih =>
    intro i
    have hl := ofB_lt p n
    have e : ofB p (n + 1) = 2 ^ n * (if p n = true then 1 else 0) + ofB p n := by
      rw [ofB]; split <;> simp [Nat.add_comm]
    rw [e, Nat.testBit_two_pow_mul_add _ hl]
    by_cases h1 : i < n
    · rw [if_pos h1, ih i]
      have : i < n + 1 := by omega
      simp [h1, this]
    · rw [if_neg h1]
      by_cases h2 : i = n
      · subst h2
        by_cases hp : p i = true
        · simp [hp]
        · simp [hp]
      · have h3 : ¬ i < n + 1 := by omega
        obtain ⟨j, hj⟩ : ∃ j, i - n = j + 1 := ⟨i - n - 1, by omega⟩
        rw [hj]
        simp only [h3, decide_false, Bool.false_and]
        by_cases hp : p n = true
        · simp [hp, Nat.testBit_succ]
        · simp [hp]
theorem row_bit (k n i : Nat) : ((2 ^ n - 1) * 2 ^ k).testBit i = (decide (k ≤ i) && decide (i < k + n)) := by
  rw [Nat.testBit_mul_two_pow, Nat.testBit_two_pow_sub_one]
  by_cases h : k ≤ i
  · have : (i - k < n) = (i < k + n) := by rw [eq_iff_iff]; omega
    simp only [this]
  · simp [h]
end Go.Proofs.YtmjkgnlmdcmdbaaDoor.Sets
