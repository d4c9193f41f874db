/- Law 42: Right, New; what is counted. -/
import Derived.Test.YtmjkgnlmdcmdbaaDoorPow4
import Derived.Test.YtmjkgnlmdcmdbaaDoorPow5
namespace Go.Proofs.YtmjkgnlmdcmdbaaDoor.Power
open Go.RowKit Go.Proofs.YtmjkgnlmdcmdbaaDoorW.PrintWords Go.Proofs.YtmjkgnlmdcmdbaaDoorW.PrintLast Go.Proofs.YtmjkgnlmdcmdbaaDoorW.PrintMore Go.Proofs.YtmjkgnlmdcmdbaaDoor.Row Go.Proofs.YtmjkgnlmdcmdbaaDoor.Sets Go.Proofs.YtmjkgnlmdcmdbaaDoor.Node Go.Proofs.YtmjkgnlmdcmdbaaDoor.Each
set_option linter.unusedVariables false
set_option linter.unusedSimpArgs false
set_option maxRecDepth 100000
def rightB (I W Sp : Int) : Bool := decide (0 ≤ I ∧ I ≤ 1099511627776 ∧ 0 ≤ W ∧ W ≤ 1099511627776 ∧ 0 ≤ Sp ∧ Sp ≤ 64)
theorem Right_q (I W Sp : Int) (w : World) : Calls Tryd.prog 59 #[.agg #[.int .i64 I, .int .i64 W, .int .i64 Sp]] w fun e w' => e = .returned (.bool (rightB I W Sp)) ∧ Below w.heap.size w w' := by
  by_cases h0 : 0 ≤ I
  · have d0 : decide (0 ≤ I) = true := decide_eq_true h0
    by_cases h1 : I ≤ 1099511627776
    · have d1 : decide (I ≤ 1099511627776) = true := decide_eq_true h1
      by_cases h2 : 0 ≤ W
      · have d2 : decide (0 ≤ W) = true := decide_eq_true h2
        by_cases h3 : W ≤ 1099511627776
        · have d3 : decide (W ≤ 1099511627776) = true := decide_eq_true h3
          by_cases h4 : 0 ≤ Sp
          · have d4 : decide (0 ≤ Sp) = true := decide_eq_true h4
            by_cases h5 : Sp ≤ 64
            · have d5 : decide (Sp ≤ 64) = true := decide_eq_true h5
              rw [show rightB I W Sp = true by unfold rightB; exact decide_eq_true ⟨h0, h1, h2, h3, h4, h5⟩]
              go_enter Tryd.func59, Tryd.ntmps59
              go_wp2; go_ret; exact ⟨rfl, below_alloc (Below.refl _ _) _⟩
            · have d5 : decide (Sp ≤ 64) = false := decide_eq_false h5
              rw [show rightB I W Sp = false by unfold rightB; exact decide_eq_false (by omega)]
              go_enter Tryd.func59, Tryd.ntmps59
              go_wp2; go_ret; exact ⟨rfl, below_alloc (Below.refl _ _) _⟩
          · have d4 : decide (0 ≤ Sp) = false := decide_eq_false h4
            rw [show rightB I W Sp = false by unfold rightB; exact decide_eq_false (by omega)]
            go_enter Tryd.func59, Tryd.ntmps59
            go_wp2; go_ret; exact ⟨rfl, below_alloc (Below.refl _ _) _⟩
        · have d3 : decide (W ≤ 1099511627776) = false := decide_eq_false h3
          rw [show rightB I W Sp = false by unfold rightB; exact decide_eq_false (by omega)]
          go_enter Tryd.func59, Tryd.ntmps59
          go_wp2; go_ret; exact ⟨rfl, below_alloc (Below.refl _ _) _⟩
      · have d2 : decide (0 ≤ W) = false := decide_eq_false h2
        rw [show rightB I W Sp = false by unfold rightB; exact decide_eq_false (by omega)]
        go_enter Tryd.func59, Tryd.ntmps59
        go_wp2; go_ret; exact ⟨rfl, below_alloc (Below.refl _ _) _⟩
    · have d1 : decide (I ≤ 1099511627776) = false := decide_eq_false h1
      rw [show rightB I W Sp = false by unfold rightB; exact decide_eq_false (by omega)]
      go_enter Tryd.func59, Tryd.ntmps59
      go_wp2; go_ret; exact ⟨rfl, below_alloc (Below.refl _ _) _⟩
  · have d0 : decide (0 ≤ I) = false := decide_eq_false h0
    rw [show rightB I W Sp = false by unfold rightB; exact decide_eq_false (by omega)]
    go_enter Tryd.func59, Tryd.ntmps59
    go_wp2; go_ret; exact ⟨rfl, below_alloc (Below.refl _ _) _⟩
theorem zeros_at (o n k : Nat) (e : (Tryd.zeroCells84.toList.drop o).take n = List.replicate n (Value.int .i64 0)) (hk : k < n) : Tryd.zeroCells84[o + k]? = some (.int .i64 0) := by
  have h1 : ((Tryd.zeroCells84.toList.drop o).take n)[k]? = some (.int .i64 0) := by rw [e, List.getElem?_replicate, if_pos hk]
  rw [List.getElem?_take, if_pos hk, List.getElem?_drop] at h1
  rw [← Array.getElem?_toList]
  exact h1
def newP (I W Sp : Int) (N : Nat) : Pl := ⟨I, W, Sp, N, 0, 0, 0, fun _ => 0, fun _ => 0, 0⟩
theorem newP_ok (I W Sp : Int) (N : Nat) (h : rightB I W Sp = true) (hN : 1 ≤ N ∧ N ≤ 64) : PlOk (newP I W Sp N) := by
  have h := of_decide_eq_true h
  exact ⟨⟨h.1, h.2.1⟩, ⟨h.2.2.1, h.2.2.2.1⟩, ⟨h.2.2.2.2.1, h.2.2.2.2.2⟩, hN, ⟨by show (0 : Int) ≤ 0; omega, by show (0 : Int) ≤ _; omega⟩, by show (0 : Nat) < _; decide, by show (0 : Nat) < _; decide, fun k => ⟨by show (0 : Int) ≤ 0; omega, by show (0 : Int) ≤ _; omega⟩, fun k => ⟨by show (0 : Int) ≤ 0; omega, by show (0 : Int) ≤ _; omega⟩, ⟨by show (0 : Int) ≤ 0; omega, by show (0 : Int) ≤ _; omega⟩⟩
theorem QT.new (w : World) (I W Sp : Int) (N : Nat) : QT (w.alloc (.cells ((((Tryd.zeroCells84.setIfInBounds 0 (.int .i64 I)).setIfInBounds 1 (.int .i64 W)).setIfInBounds 2 (.int .i64 Sp)).setIfInBounds 3 (.int .i64 (N : Int))) 84)) w.heap.size (newP I W Sp N) := by
  have hb := blk_new w (.cells ((((Tryd.zeroCells84.setIfInBounds 0 (.int .i64 I)).setIfInBounds 1 (.int .i64 W)).setIfInBounds 2 (.int .i64 Sp)).setIfInBounds 3 (.int .i64 (N : Int))) 84)
  have far : ∀ o, 4 ≤ o → ((((Tryd.zeroCells84.setIfInBounds 0 (.int .i64 I)).setIfInBounds 1 (.int .i64 W)).setIfInBounds 2 (.int .i64 Sp)).setIfInBounds 3 (.int .i64 (N : Int)))[o]? = Tryd.zeroCells84[o]? := fun o ho => by
    rw [Array.getElem?_setIfInBounds_ne (by omega), Array.getElem?_setIfInBounds_ne (by omega), Array.getElem?_setIfInBounds_ne (by omega), Array.getElem?_setIfInBounds_ne (by omega)]
  exact ⟨(blk_cell hb 0).trans (by rfl), (blk_cell hb 1).trans (by rfl), (blk_cell hb 2).trans (by rfl), (blk_cell hb 3).trans (by rfl), (blk_cell hb 4).trans (by rfl), (blk_cell hb 5).trans (by rfl), (blk_cell hb 6).trans (by rfl),
    fun k hk => (blk_cell hb (7 + k)).trans ((far _ (by omega)).trans (zeros_at 7 64 k (by kernel_rfl) hk)),
    fun k hk => (blk_cell hb (71 + k)).trans ((far _ (by omega)).trans (zeros_at 71 64 k (by kernel_rfl) hk)), (blk_cell hb 135).trans (by rfl), fun o => blk_frozen hb o⟩
theorem New_out (n I W Sp : Int) (w : World) (h : n < 1 ∨ 64 < n ∨ rightB I W Sp = false) : Calls Tryd.prog 50 #[.int .i64 n, .agg #[.int .i64 I, .int .i64 W, .int .i64 Sp]] w fun e w' => e = .returned (.tuple #[.pointer none, .int .i64 1]) ∧ Below w.heap.size w w' := by
  by_cases h1 : n < 1
  · have d1 : decide (n < 1) = true := decide_eq_true h1
    clear h
    go_enter Tryd.func50, Tryd.ntmps50
    go_wp2; go_ret2; exact ⟨rfl, below_alloc (Below.refl _ _) _⟩
  · have d1 : decide (n < 1) = false := decide_eq_false h1
    by_cases h2 : 64 < n
    · have d2 : decide (64 < n) = true := decide_eq_true h2
      clear h
      go_enter Tryd.func50, Tryd.ntmps50
      go_wp2; go_ret2; exact ⟨rfl, below_alloc (Below.refl _ _) _⟩
    · have d2 : decide (64 < n) = false := decide_eq_false h2
      have hr : rightB I W Sp = false := (h.resolve_left h1).resolve_left h2
      have KR0 := fun W0 => Right_q I W Sp W0
      rw [hr] at KR0
      have KR := Lib.hid KR0
      clear h KR0 hr
      go_enter Tryd.func50, Tryd.ntmps50
      go_wp2_with (go_at_call 59; refine (KR.out _).mono ?_; rintro e w2 ⟨rfl, hb⟩; have HB := Lib.hid (below_step (below_alloc (Below.refl w.heap.size w) _) hb); clear hb)
      go_ret2; exact ⟨rfl, HB.out⟩
theorem New_q (N : Nat) (I W Sp : Int) (w : World) (hN : 1 ≤ N ∧ N ≤ 64) (hr : rightB I W Sp = true) : Calls Tryd.prog 50 #[.int .i64 (N : Int), .agg #[.int .i64 I, .int .i64 W, .int .i64 Sp]] w fun e w' => ∃ b, e = .returned (.tuple #[.pointer (some ⟨b, 0, none⟩), .int .i64 0]) ∧ QT w' b (newP I W Sp N) ∧ w.heap.size ≤ b ∧ Below w.heap.size w w' := by
  have d1 : decide ((N : Int) < 1) = false := decide_eq_false (by omega)
  have d2 : decide (64 < (N : Int)) = false := decide_eq_false (by omega)
  have d3 : decide (64 < N) = false := decide_eq_false (by omega)
  have KR0 := fun W0 => Right_q I W Sp W0
  rw [hr] at KR0
  have KR := Lib.hid KR0
  clear KR0 hr hN
  go_enter Tryd.func50, Tryd.ntmps50
  go_wp2_with (go_at_call 59; refine (KR.out _).mono ?_; rintro e w2 ⟨rfl, hb⟩; have h0 := (hb.block w.heap.size (blk_lt (blk_new w _))).trans (blk_new w _); have q0 := (blk_cell h0 0).trans rfl; have q1 := (blk_cell h0 1).trans rfl; have q2 := (blk_cell h0 2).trans rfl; have HB := Lib.hid (below_step (below_alloc (Below.refl w.heap.size w) _) hb); clear hb h0)
  go_ret2
  exact ⟨_, rfl, QT.new w2 I W Sp N, below_size HB.out, below_alloc HB.out _⟩
/-! how many -/
def cnt (s : Nat) : Nat → Nat
  | 0 => 0
  | n + 1 => cnt s n + (if s.testBit n = true then 1 else 0)
theorem cnt_is (s : Nat) : ∀ n, ((List.range n).filter fun i => s.testBit i).length = cnt s n
  | 0 => rfl
  | n + 1 => by
    rw [List.range_succ, List.filter_append, List.length_append, cnt_is s n]
    show _ = cnt s n + (if s.testBit n = true then 1 else 0)
    cases hb : s.testBit n <;> simp [hb]
theorem lenS_cnt (s : Nat) : lenS s = cnt s 64 := cnt_is s 64
theorem cnt_with (o k : Nat) (hk : k < 64) (hb : o.testBit k = false) : ∀ n, n ≤ 64 → cnt (withS o (k : Int)) n = cnt o n + (if k < n then 1 else 0)
  | 0, _ => by unfold cnt; simp
  | n + 1, hn => by
    have ih := cnt_with o k hk hb n (by omega)
    unfold cnt
    rw [ih, withS_bit _ _ _ (by omega)]
    by_cases e : n = k
    · subst e
      rw [hb]
      simp
    · have e1 : decide ((n : Int) = (k : Int)) = false := decide_eq_false (by omega)
      rw [e1, Bool.or_false]
      by_cases h : k < n
      · rw [if_pos h, if_pos (show k < n + 1 by omega)]; omega
      · rw [if_neg h, if_neg (show ¬ k < n + 1 by omega)]; omega
theorem cnt_minus (x o : Nat) (ho : o < 18446744073709551616) (hs : ∀ i, i < 64 → o.testBit i = true → x.testBit i = true) : ∀ n, n ≤ 64 → cnt (minus x o) n + cnt o n = cnt x n
  | 0, _ => rfl
  | n + 1, hn => by
    have ih := cnt_minus x o ho hs n (by omega)
    have h2 := hs n (by omega)
    unfold cnt
    rw [minus_bit x o n ho (by omega)]
    cases hb : o.testBit n
    · cases hc : x.testBit n <;> simp <;> omega
    · rw [h2 hb]; simp; omega
theorem goS_more (p : Pl) (idl L : Nat) (hN : p.N ≤ 64) (hL : L = lenS idl) : ∀ j, j ≤ p.N → (∀ i, i < 64 → (goS p idl L j).1.testBit i = true → idl.testBit i = true ∧ p.N - j ≤ i) ∧ (goS p idl L j).2 = (L : Int) - (lenS (goS p idl L j).1 : Int) ∧ ((goS p idl L j).1 ≠ 0 → p.Sp ≤ (goS p idl L j).2)
  | 0, _ => by
    unfold goS
    refine ⟨fun i _ h => ?_, ?_, fun h => absurd rfl h⟩
    · have h : (0 : Nat).testBit i = true := h
      rw [Nat.zero_testBit] at h; cases h
    · show (L : Int) = L - (lenS 0 : Int)
      rw [show lenS 0 = 0 by decide]; simp
  | j + 1, hj => by
    obtain ⟨a1, a2, a3⟩ := goS_more p idl L hN hL j (by omega)
    unfold goS
    split
    · rename_i hc
      have hk : p.N - 1 - j < 64 := by omega
      have hnb : (goS p idl L j).1.testBit (p.N - 1 - j) = false := by
        cases hb : (goS p idl L j).1.testBit (p.N - 1 - j)
        · rfl
        · have := (a1 _ hk hb).2; omega
      have hcw := cnt_with _ _ hk hnb 64 (by omega)
      rw [if_pos hk, ← lenS_cnt, ← lenS_cnt] at hcw
      refine ⟨fun i hi h => ?_, ?_, fun _ => ?_⟩
      · have h : (withS (goS p idl L j).1 ((p.N - 1 - j : Nat) : Int)).testBit i = true := h
        rw [withS_bit _ _ _ hi] at h
        by_cases e : i = p.N - 1 - j
        · subst e; exact ⟨hc.2.1, by omega⟩
        · rw [decide_eq_false (by omega), Bool.or_false] at h
          have := a1 i hi h
          exact ⟨this.1, by omega⟩
      · show (goS p idl L j).2 - 1 = (L : Int) - (lenS (withS (goS p idl L j).1 ((p.N - 1 - j : Nat) : Int)) : Int)
        rw [hcw]; omega
      · show p.Sp ≤ (goS p idl L j).2 - 1
        have := hc.1; omega
    · exact ⟨fun i hi h => ⟨(a1 i hi h).1, by have := (a1 i hi h).2; omega⟩, a2, a3⟩
/-- what Go lets sleep was awake, and used by nobody; and enough are left -/
theorem goO_in (p : Pl) (now : Int) (ho : PlOk p) : goO p now < 18446744073709551616 ∧ (∀ i, i < 64 → (goO p now).testBit i = true → (goI p now).testBit i = true) ∧ (goO p now ≠ 0 → p.Sp ≤ (lenS (minus (goI p now) (goO p now)) : Int)) := by
  have h1 := goS_in (goT p now) (goI p now) (lenS (goI p now)) p.N
  obtain ⟨a1, a2, a3⟩ := goS_more (goT p now) (goI p now) (lenS (goI p now)) ho.hN.2 rfl p.N (Nat.le_refl _)
  have hc := cnt_minus (goI p now) (goO p now) h1.1 (fun i hi h => (a1 i hi h).1) 64 (Nat.le_refl _)
  rw [← lenS_cnt, ← lenS_cnt, ← lenS_cnt] at hc
  refine ⟨h1.1, fun i hi h => (a1 i hi h).1, fun h => ?_⟩
  have h2 := a3 h
  rw [a2] at h2
  have h3 : p.Sp ≤ (lenS (goI p now) : Int) - (lenS (goO p now) : Int) := h2
  omega
theorem useAt_bit (p : Pl) (s : Nat) (ho : PlOk p) (i : Nat) (hi : i < 64) : ∀ k, k ≤ lenS s → ((useAt p s k).1.s).testBit i = (p.s.testBit i && !decide (i ∈ (nodes s).take k))
  | 0, _ => by unfold useAt; simp
  | k + 1, hk => by
    have ih := useAt_bit p s ho i hi k (by omega)
    have hl : k < (nodes s).length := hk
    have htk : (nodes s).take (k + 1) = (nodes s).take k ++ [(nodes s).getD k 0] := by
      rw [List.take_succ_eq_append_getElem hl, List.getD_eq_getElem?_getD, List.getElem?_eq_getElem hl]; rfl
    have hx := Pick.nodes_at_lt s k
    have e : (useAt p s (k + 1)).1 = useStep (useAt p s k).1 ((nodes s).getD k 0) := rfl
    rw [htk, e]
    generalize (nodes s).getD k 0 = x at hx
    have e2 : decide (i ∈ (nodes s).take k ++ [x]) = (decide (i ∈ (nodes s).take k) || decide (i = x)) := by simp
    rw [e2]
    unfold useStep
    split
    · show (withoutS (useAt p s k).1.s (x : Int)).testBit i = _
      rw [withoutS_bit _ _ _ hi, ih]
      by_cases e : i = x
      · subst e; simp
      · have e3 : decide ((i : Int) ≠ (x : Int)) = true := decide_eq_true (by omega)
        rw [e3, decide_eq_false e]; simp
    · rename_i hb
      rw [ih]
      by_cases e : i = x
      · subst e
        have h0 : (p.s.testBit i && !decide (i ∈ (nodes s).take k)) = false := by
          rw [← ih]
          cases hc : (useAt p s k).1.s.testBit i
          · rfl
          · exact absurd hc hb
        rw [h0]
        cases h1 : p.s.testBit i
        · rfl
        · rw [h1] at h0
          have h2 : decide (i ∈ (nodes s).take k) = true := by
            cases h3 : decide (i ∈ (nodes s).take k)
            · rw [h3] at h0; cases h0
            · rfl
          rw [h2]; rfl
      · rw [decide_eq_false e]; simp
/-- what always holds: nobody who is used sleeps -/
def Apart (p : Pl) : Prop := ∀ i, i < 64 → p.s.testBit i = true → p.u.testBit i = false
theorem useP_ok (p : Pl) (s : Nat) (ho : PlOk p) (hs : s < 18446744073709551616) : PlOk (useP p s) ∧ (useP p s).u = p.u ||| s ∧ (useP p s).Sp = p.Sp := by
  have h := useAt_ok p s ho (lenS s)
  exact ⟨⟨h.hI, h.hW, h.hSp, h.hN, h.ht, or_lt _ _ ho.hu hs, h.hs, h.hwk, h.hsn, h.har⟩, rfl, (useAt_same p s (lenS s)).2.2.1⟩
theorem leaveP_ok (p : Pl) (s : Nat) (ho : PlOk p) : PlOk (leaveP p s) ∧ (leaveP p s).u = minus p.u s ∧ (leaveP p s).Sp = p.Sp := by
  have hsn : ∀ k j, 0 ≤ snS p s k j ∧ snS p s k j ≤ 1099511627776 := fun k => by
    induction k with
    | zero => exact ho.hsn
    | succ k ih =>
      intro j
      show 0 ≤ Power.upd (snS p s k) _ p.t j ∧ Power.upd (snS p s k) _ p.t j ≤ _
      unfold Power.upd
      split
      · exact ho.ht
      · exact ih j
  exact ⟨⟨ho.hI, ho.hW, ho.hSp, ho.hN, ho.ht, minus_lt _ _ ho.hu, ho.hs, ho.hwk, hsn (lenS s), ho.har⟩, rfl, rfl⟩
theorem goP_ok (p : Pl) (now : Int) (ho : PlOk p) (h1 : p.t ≤ now) (h2 : now ≤ 1099511627776) : PlOk (goP p now) ∧ (goP p now).u = p.u ∧ (goP p now).Sp = p.Sp ∧ (goP p now).N = p.N := by
  have h := goT_ok p now ho h1 h2
  have ho2 := goO_in p now ho
  exact ⟨⟨h.hI, h.hW, h.hSp, h.hN, h.ht, h.hu, or_lt _ _ ho.hs ho2.1, h.hwk, h.hsn, h.har⟩, rfl, rfl, rfl⟩
theorem apart_zero (x u : Nat) (hx : x < 18446744073709551616) (h : ∀ i, i < 64 → x.testBit i = true → u.testBit i = false) : x &&& u = 0 :=
  eq_of_bits _ _ (Nat.lt_of_le_of_lt Nat.and_le_left hx) (by decide) fun i hi => by
    rw [Nat.testBit_and, Nat.zero_testBit]
    cases hb : x.testBit i
    · rfl
    · rw [h i hi hb]; rfl
end Go.Proofs.YtmjkgnlmdcmdbaaDoor.Power
