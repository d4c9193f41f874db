/- PickTight: by the rule of rows nothing that is picked lies further apart than it must, if there is a row that is long enough: for every set and every number. -/
import Derived.Test.YtmjkgnlmdcmdbaaDoorPick38
import Derived.Test.YtmjkgnlmdcmdbaaDoorSetNodes
import Derived.Test.YtmjkgnlmdcmdbaaDoorSetFirsts
namespace Go.Proofs.YtmjkgnlmdcmdbaaDoor.Pick
open Go.RowKit Go.Proofs.YtmjkgnlmdcmdbaaDoorW.PrintWords Go.Proofs.YtmjkgnlmdcmdbaaDoorW.PrintLast Go.Proofs.YtmjkgnlmdcmdbaaDoorW.PrintMore Go.Proofs.YtmjkgnlmdcmdbaaDoor.Row Go.Proofs.YtmjkgnlmdcmdbaaDoor.Sets
set_option linter.unusedVariables false
set_option linter.unusedSimpArgs false
theorem nodes_rise (s : Nat) : (nodes s).Pairwise (· < ·) := List.pairwise_lt_range.filter _
/-- a row that is long enough stands among the rows -/
theorem row_long (n : Nat) (hn : 1 ≤ n) (k : Nat) : ∀ (L : List (Nat × Nat)) (l : List Nat), l.Pairwise (· < ·) → RowsOf l L → (∀ i, i < n → (k + i) ∈ l) → ∃ p, p ∈ L ∧ n ≤ p.2
  | [], l, _, h, hk => by
    have h : l = [] := h
    have := hk 0 (by omega)
    rw [h] at this
    cases this
  | (a, m) :: L, l, hp, h, hk => by
    obtain ⟨h1, r, rfl, h2, h3⟩ := h
    simp only at h1 h2
    obtain ⟨-, hpr, hlt⟩ := List.pairwise_append.1 hp
    by_cases hka : k ∈ List.range' a m
    · rw [List.mem_range'] at hka
      obtain ⟨q, hq, rfl⟩ := hka
      rw [Nat.one_mul] at hk
      refine ⟨(a, m), List.mem_cons_self, ?_⟩
      show n ≤ m
      rcases Nat.lt_or_ge m n with h | h
      · exfalso
        have h5 := hk (m - q) (by omega)
        rw [show a + q + (m - q) = a + m by omega] at h5
        rcases List.mem_append.1 h5 with h6 | h6
        · rw [List.mem_range'] at h6
          obtain ⟨q2, h7, h8⟩ := h6
          omega
        · exact h2 h6
      · exact h
    · have hkr : k ∈ r := by
        have := hk 0 (by omega)
        rw [Nat.add_zero] at this
        exact (List.mem_append.1 this).resolve_left hka
      have hge : ∀ q, q < m → a + q < k := fun q hq => hlt (a + q) (List.mem_range'.2 ⟨q, hq, by omega⟩) k hkr
      obtain ⟨p, hp1, hp2⟩ := row_long n hn k L r hpr h3 (fun i hi => by
        refine (List.mem_append.1 (hk i hi)).resolve_left (fun h6 => ?_)
        rw [List.mem_range'] at h6
        obtain ⟨q2, h7, h8⟩ := h6
        have := hge q2 h7
        omega)
      exact ⟨p, List.mem_cons_of_mem _ hp1, hp2⟩
theorem rise_eq : ∀ (l1 l2 : List Nat), l1.Pairwise (· < ·) → l2.Pairwise (· < ·) → (∀ i, i ∈ l1 ↔ i ∈ l2) → l1 = l2
  | [], [], _, _, _ => rfl
  | [], y :: l2, _, _, h => by have := (h y).2 List.mem_cons_self; cases this
  | x :: l1, [], _, _, h => by have := (h x).1 List.mem_cons_self; cases this
  | x :: l1, y :: l2, h1, h2, h => by
    obtain ⟨a1, b1⟩ := List.pairwise_cons.1 h1
    obtain ⟨a2, b2⟩ := List.pairwise_cons.1 h2
    have e : x = y := by
      rcases List.mem_cons.1 ((h x).1 List.mem_cons_self) with e | e
      · exact e
      · rcases List.mem_cons.1 ((h y).2 List.mem_cons_self) with e2 | e2
        · exact e2.symm
        · have := a2 x e; have := a1 y e2; omega
    subst e
    rw [rise_eq l1 l2 b1 b2 (fun i => by
      constructor
      · intro hi
        rcases List.mem_cons.1 ((h i).1 (List.mem_cons_of_mem _ hi)) with e | e
        · subst e; have := a1 i hi; omega
        · exact e
      · intro hi
        rcases List.mem_cons.1 ((h i).2 (List.mem_cons_of_mem _ hi)) with e | e
        · subst e; have := a2 i hi; omega
        · exact e)]
theorem range_rise : ∀ (m a : Nat), (List.range' a m).Pairwise (· < ·)
  | 0, a => List.Pairwise.nil
  | m + 1, a => by
    show (a :: List.range' (a + 1) m).Pairwise (· < ·)
    refine List.pairwise_cons.2 ⟨fun i hi => ?_, range_rise m (a + 1)⟩
    rw [List.mem_range'] at hi
    obtain ⟨q, hq, rfl⟩ := hi
    omega
theorem range_take : ∀ (q m a : Nat), q ≤ m → (List.range' a m).take q = List.range' a q
  | 0, m, a, _ => by simp
  | q + 1, 0, a, h => absurd h (by omega)
  | q + 1, m + 1, a, h => by
    show (a :: List.range' (a + 1) m).take (q + 1) = a :: List.range' (a + 1) q
    rw [List.take_succ_cons, range_take q m (a + 1) (by omega)]
theorem nodes_row (a m : Nat) (h : a + m ≤ 64) : nodes (rowSet (a, m)) = List.range' a m := by
  refine rise_eq _ _ (nodes_rise _) (range_rise m a) fun i => ?_
  unfold rowSet
  rw [mem_nodes, mk_bit, decide_eq_true_iff]
  refine ⟨fun h => h.2, fun h2 => ⟨?_, h2⟩⟩
  rw [List.mem_range'] at h2
  obtain ⟨q, hq, rfl⟩ := h2
  omega
theorem lenS_row (p : Nat × Nat) (h : p.1 + p.2 ≤ 64) : lenS (rowSet p) = p.2 := by
  unfold lenS
  rw [nodes_row p.1 p.2 h, List.length_range']
theorem rowBest_in (n : Int) (L : List (Nat × Nat)) (hL : ∀ p ∈ L, p.1 + p.2 ≤ 64) (h1 : 1 ≤ n) : ∀ k, k ≤ L.length →
    (rowBest n (L.map rowSet) k = 0 ∧ ∀ j p, j < k → L[j]? = some p → ¬ n ≤ (p.2 : Int)) ∨ (∃ p, p ∈ L ∧ rowBest n (L.map rowSet) k = rowSet p ∧ n ≤ (p.2 : Int))
  | 0, _ => .inl ⟨rfl, fun j p hj => absurd hj (by omega)⟩
  | k + 1, hk => by
    have ih := rowBest_in n L hL h1 k (by omega)
    obtain ⟨p, hp⟩ : ∃ p, L[k]? = some p := ⟨_, List.getElem?_eq_getElem (by omega)⟩
    have hx : (L.map rowSet).getD k 0 = rowSet p := by rw [List.getD_eq_getElem?_getD, List.getElem?_map, hp]; rfl
    have hpm := List.mem_of_getElem? hp
    have hpl := lenS_row p (hL p hpm)
    unfold rowBest rowStep
    rw [hx, hpl]
    by_cases c : n ≤ (p.2 : Int)
    · split
      · exact .inr ⟨p, hpm, rfl, c⟩
      · rename_i hc
        rcases ih with ⟨h2, -⟩ | h2
        · exact absurd ⟨c, .inl h2⟩ hc
        · exact .inr h2
    · rw [if_neg (fun hh => c hh.1)]
      rcases ih with ⟨h2, h3⟩ | h2
      · refine .inl ⟨h2, fun j p2 hj hp2 => ?_⟩
        by_cases e : j = k
        · subst e; rw [hp] at hp2; injection hp2 with hp2; subst hp2; exact c
        · exact h3 j p2 (by omega) hp2
      · exact .inr h2
theorem rowPick_tight (s : Nat) (n : Int) (L : List (Nat × Nat)) (hro : RowsOf (nodes s) L) (hL : ∀ p ∈ L, p.1 + p.2 ≤ 64) (h1 : 1 ≤ n) (k : Nat) (hk : (k : Int) + n ≤ 64) (hr : rowIn s k n.toNat) :
    ∃ a : Nat, (a : Int) + n ≤ 64 ∧ rowPick s n L = mk (List.range' a n.toNat) := by
  obtain ⟨q, hq, hqn⟩ := row_long n.toNat (by omega) k L (nodes s) (nodes_rise s) hro (fun i hi => (mem_nodes _ _).2 ⟨by omega, hr i hi⟩)
  rcases rowBest_in n L hL h1 L.length (Nat.le_refl _) with ⟨-, h2⟩ | ⟨p, hp, h2, h3⟩
  · obtain ⟨j, hj⟩ := List.getElem?_of_mem hq
    exact absurd (by omega) (h2 j q (List.getElem?_eq_some_iff.1 hj).1 hj)
  · have hp64 := hL p hp
    refine ⟨p.1, by omega, ?_⟩
    have hne : rowSet p ≠ 0 := fun e => by
      have := lenS_row p hp64
      rw [e] at this
      have h0 : lenS 0 = 0 := by decide
      omega
    unfold rowPick
    rw [h2, if_neg hne]
    unfold firstS
    rw [lenS_row p hp64, if_neg (by omega), nodes_row p.1 p.2 hp64, range_take _ _ _ (by omega)]
theorem spread_row (a n : Nat) (hn : 1 ≤ n) (h : a + n ≤ 64) : mk (List.range' a n) ≠ 0 ∧ lowS (mk (List.range' a n)) = (a : Int) ∧ highS (mk (List.range' a n)) = ((a + n - 1 : Nat) : Int) := by
  have hl := rowSet_lt a n h
  have hb : ∀ i, (mk (List.range' a n)).testBit i = true ↔ a ≤ i ∧ i < a + n := fun i => by
    rw [mk_bit, decide_eq_true_iff, List.mem_range']
    constructor
    · rintro ⟨q, hq, rfl⟩; omega
    · rintro ⟨h1, h2⟩; exact ⟨i - a, by omega, by omega⟩
  obtain ⟨h0, h1⟩ := low_is (mk (List.range' a n)) a hl ((hb a).2 (by omega)) (fun i hi => by
    cases hc : (mk (List.range' a n)).testBit i
    · rfl
    · have := (hb i).1 hc; omega)
  obtain ⟨b1, b2, b3, b4⟩ := high_bits _ h0 hl
  have h4 := (hb _).1 b3
  have h5 : a + n - 1 < Lib.bitLen (mk (List.range' a n)) := by
    rcases Nat.lt_or_ge (a + n - 1) (Lib.bitLen (mk (List.range' a n))) with h | h
    · exact h
    · have h6 := b4 (a + n - 1) h
      rw [(hb _).2 (by omega)] at h6
      cases h6
  refine ⟨h0, by rw [lowS_at _ h0, h1], ?_⟩
  unfold highS
  rw [if_neg h0]
  omega
theorem Spread_any (s : Nat) (w : World) (hs : s < 18446744073709551616) (h0 : s ≠ 0) (hT : Tab w) (x : Int) (hx : highS s - lowS s = x) (h1 : -100 ≤ x) (h2 : x ≤ 100) :
    Calls Tryd.prog 73 #[.int .u64 (s : Int)] w fun e w' => e = .returned (.int .i64 x) ∧ w = w' := by
  have KL := Lib.hid (low_any s w hs hT)
  have KH := Lib.hid (high_any s w hs)
  have b0 : ((s : Int) == 0) = false := (neqb s h0).2
  obtain ⟨l, hl⟩ : ∃ l, lowS s = l := ⟨_, rfl⟩
  obtain ⟨h, hh⟩ : ∃ l, highS s = l := ⟨_, rfl⟩
  rw [hl] at KL hx
  rw [hh] at KH hx
  subst hx
  have w1 : wrap64 (h - l) = h - l := by unfold wrap64; omega
  have w2 : IntKind.i64.wrap (h - l) = h - l := by rw [IntKind.wrap_i64]; omega
  clear hl hh hT
  go_enter Tryd.func73, Tryd.ntmps73
  go_wp2_with (first
    | (go_at_call 34; refine KH.out.mono ?_; rintro e w2 ⟨rfl, rfl⟩)
    | (go_at_call 33; refine KL.out.mono ?_; rintro e w2 ⟨rfl, rfl⟩))
  go_ret; exact ⟨rfl, rfl⟩
set_option maxHeartbeats 1000000 in
theorem PickTight_any (x n : Int) (w : World) (hx : (Lit.int .u64 x).wf = true) (hn : (Lit.int .i64 n).wf = true) (hT : Tab w) :
    Calls Tryd.prog 15 #[.int .u64 x, .int .i64 n] w fun e w' => e = .returned (.bool true) ∧ Below w.heap.size w w' := by
  obtain ⟨s, rfl, hs⟩ := u64_out x hx
  have HT := Lib.hid hT
  have HW := Lib.hid (fun W (h : Below w.heap.size w W) => awake38_any W (HT.out.below h HT.out.lt))
  have kr := fun W => run_any s n W hs
  unfold RanTo at kr
  have KR := Lib.hid kr
  clear hx hn hT kr
  by_cases h0 : n < 1 ∨ (lenS s : Int) < n
  · have KO := Lib.hid (fun W => Of_none 3 s n W hs (by omega))
    have hno : ∀ r b, RunIs s n r b → (n < 1 ∨ b = false) := fun r b h => by
      rcases h0 with h1 | h1
      · exact .inl h1
      · exact .inr (run_none s n r b h (.inr h1)).2
    have HNO := Lib.hid hno
    clear h0 hno
    go_enter Tryd.func15, Tryd.ntmps15
    by_cases h1 : n < 1
    · have d1 : decide (n < 1) = true := decide_eq_true h1
      go_wp2_with (first
        | (go_at_call 63; refine (KO.out _).mono ?_; rintro e w2 ⟨rfl, rfl⟩)
        | (go_at_call 20; refine (KR.out _).mono ?_; rintro e w2 ⟨r, b, rfl, hrl, hri, rfl⟩)
        | (go_at_call 65; refine (HW.out _ (Below.refl _ _)).mono ?_; rintro e w3 ⟨rfl, hb3⟩))
      go_ret
      exact ⟨rfl, hb3⟩
    · have d1 : decide (n < 1) = false := decide_eq_false h1
      go_wp2_with (first
        | (go_at_call 63; refine (KO.out _).mono ?_; rintro e w2 ⟨rfl, rfl⟩)
        | (go_at_call 20; refine (KR.out _).mono ?_; rintro e w2 ⟨r, b, rfl, hrl, hri, rfl⟩; obtain rfl : b = false := (HNO.out r b hri).resolve_left (by omega))
        | (go_at_call 65; refine (HW.out _ (Below.refl _ _)).mono ?_; rintro e w3 ⟨rfl, hb3⟩))
      go_ret
      exact ⟨rfl, hb3⟩
  · have n1 : 1 ≤ n := by omega
    have n2 : n ≤ (lenS s : Int) := by omega
    have KO := Lib.hid (Of_row s n w hs HT.out n1 n2)
    have hl64 := lenS_le s
    have d1 : decide (n < 1) = false := decide_eq_false (by omega)
    have w1 : wrap64 (n - 1) = n - 1 := by unfold wrap64; omega
    have w2 : IntKind.i64.wrap (n - 1) = n - 1 := by rw [IntKind.wrap_i64]; omega
    have enn : (n - 1 == n - 1) = true := by simp
    clear h0
    go_enter Tryd.func15, Tryd.ntmps15
    go_upto_region 4 with (first
      | (go_at_call 63; refine KO.out.mono ?_; rintro e w2 ⟨L, hro, hle, rfl, hb⟩; have HRO := Lib.hid hro; have HLE := Lib.hid hle; have HB := Lib.hid hb; clear hro hle hb)
      | (go_at_call 20; refine (KR.out _).mono ?_; rintro e w3 ⟨r, b, rfl, hrl, hri, rfl⟩; have HRI := Lib.hid hri; clear hri))
    cases b with
    | false =>
      go_wp2_with (go_at_call 65; refine (HW.out _ HB.out).mono ?_; rintro e w4 ⟨rfl, hb3⟩)
      go_ret
      exact ⟨rfl, below_step HB.out hb3⟩
    | true =>
      obtain ⟨k, hk, hrow⟩ : ∃ k : Nat, (k : Int) + n ≤ 64 ∧ rowIn s k n.toNat := by
        rcases HRI.out with ⟨h1, -⟩ | ⟨-, -, -, k, h1, h2, -⟩
        · cases h1
        · exact ⟨k, h1, h2⟩
      obtain ⟨a, ha, hp⟩ := rowPick_tight s n L HRO.out HLE.out n1 k hk hrow
      rw [hp]
      obtain ⟨g0, g1, g2⟩ := spread_row a n.toNat (by omega) (by omega)
      have KS := Lib.hid (fun W (hW : Tab W) => Spread_any (mk (List.range' a n.toNat)) W (rowSet_lt a n.toNat (by omega)) g0 hW (n - 1) (by rw [g1, g2]; omega) (by omega) (by omega))
      have HTB := Lib.hid (HT.out.below HB.out HT.out.lt)
      clear hp g0 g1 g2 hk hrow ha
      go_wp2_with (first
        | (go_at_call 73; refine (KS.out _ HTB.out).mono ?_; rintro e w4 ⟨rfl, rfl⟩)
        | (go_at_call 65; refine (HW.out _ HB.out).mono ?_; rintro e w5 ⟨rfl, hb3⟩))
      go_ret
      exact ⟨rfl, below_step HB.out hb3⟩
end Go.Proofs.YtmjkgnlmdcmdbaaDoor.Pick
