/- PowerPlays: whatever is used, left, and passed, nodes sleep and are awake as in the document's plant: for every number of nodes, every rule, every script (the law reads its first 40 calls). -/
import Derived.Test.YtmjkgnlmdcmdbaaDoorPl7
import Derived.Test.YtmjkgnlmdcmdbaaDoorFlat
namespace Go.Proofs.YtmjkgnlmdcmdbaaDoor.Power
open Go.RowKit Go.WideShapes Go.Proofs.YtmjkgnlmdcmdbaaDoor.Flat Go.Proofs.YtmjkgnlmdcmdbaaDoorW.PrintWords Go.Proofs.YtmjkgnlmdcmdbaaDoorW.PrintLast Go.Proofs.YtmjkgnlmdcmdbaaDoorW.PrintMore Go.Proofs.YtmjkgnlmdcmdbaaDoor.Row Go.Proofs.YtmjkgnlmdcmdbaaDoor.Sets Go.Proofs.YtmjkgnlmdcmdbaaDoor.Node Go.Proofs.YtmjkgnlmdcmdbaaDoor.Each
set_option linter.unusedVariables false
set_option linter.unusedSimpArgs false
set_option maxRecDepth 100000
theorem flatPw {w : World} {A : Option Addr} {n : Nat} {z : List (List Value)} (h : FlatRow w A n [.int .i64, .int .u64, .int .i64] z) (i : Nat) (hi : i < n) :
    ∃ ad a s c, A = some ad ∧ w.cell? (ad.add (i * 3)) = some (.int .i64 a) ∧ w.cell? ⟨(ad.add (i * 3)).block, (ad.add (i * 3)).off + 1, none⟩ = some (.int .u64 ((s : Nat) : Int)) ∧ w.cell? ⟨(ad.add (i * 3)).block, (ad.add (i * 3)).off + 2, none⟩ = some (.int .i64 c) ∧ s < 18446744073709551616 := by
  obtain ⟨h1, h2, h3⟩ := h
  obtain ⟨ad, rfl, h4⟩ := h3 (by omega)
  have hz : z[i]? = some z[i] := List.getElem?_eq_getElem (by omega)
  obtain ⟨c0, d0, e0, l0, m0⟩ := (h2 i _ hz).cons
  obtain ⟨c1, d1, e1, l1, m1⟩ := m0.cons
  obtain ⟨c2, d2, e2, l2, m2⟩ := m1.cons
  obtain rfl := m2.nil
  obtain ⟨a, rfl, -⟩ := l0
  obtain ⟨b, rfl, hw⟩ := l1
  obtain ⟨c, rfl, -⟩ := l2
  subst e2 e1
  rw [e0] at hz
  obtain ⟨s, rfl, hs⟩ := u64_out b hw
  have add1 : ∀ n, ad.add (n + 1) = ⟨(ad.add n).block, (ad.add n).off + 1, none⟩ := fun n => by
    unfold Addr.add
    by_cases h : n = 0
    · subst h; simp
    · simp [h]; omega
  have add2 : ∀ n, ad.add (n + 2) = ⟨(ad.add n).block, (ad.add n).off + 2, none⟩ := fun n => by
    unfold Addr.add
    by_cases h : n = 0
    · subst h; simp
    · simp [h]; omega
  refine ⟨ad, a, s, c, rfl, h4 i _ hz 0 _ rfl, ?_, ?_, hs⟩
  · rw [← add1]; exact h4 i _ hz 1 _ rfl
  · rw [← add2]; exact h4 i _ hz 2 _ rfl
theorem zeros_of (a : Array Value) (v : Value) (o n k : Nat) (e : (a.toList.drop o).take n = List.replicate n v) (hk : k < n) : a[o + k]? = some v := by
  have h1 : ((a.toList.drop o).take n)[k]? = some v := by rw [e, List.getElem?_replicate, if_pos hk]
  rw [List.getElem?_take, if_pos hk, List.getElem?_drop] at h1
  rw [← Array.getElem?_toList]
  exact h1
theorem PU.new (w : World) (I W Sp : Int) (N : Nat) : PU (w.alloc (.cells ((((Tryd.zeroCells91.setIfInBounds 0 (.int .i64 I)).setIfInBounds 1 (.int .i64 W)).setIfInBounds 2 (.int .i64 Sp)).setIfInBounds 3 (.int .i64 (N : Int))) 91)) w.heap.size (newP I W Sp N) := by
  have hb := blk_new w (.cells ((((Tryd.zeroCells91.setIfInBounds 0 (.int .i64 I)).setIfInBounds 1 (.int .i64 W)).setIfInBounds 2 (.int .i64 Sp)).setIfInBounds 3 (.int .i64 (N : Int))) 91)
  have far : ∀ o, 4 ≤ o → ((((Tryd.zeroCells91.setIfInBounds 0 (.int .i64 I)).setIfInBounds 1 (.int .i64 W)).setIfInBounds 2 (.int .i64 Sp)).setIfInBounds 3 (.int .i64 (N : Int)))[o]? = Tryd.zeroCells91[o]? := fun o ho => by
    rw [Array.getElem?_setIfInBounds_ne (by omega), Array.getElem?_setIfInBounds_ne (by omega), Array.getElem?_setIfInBounds_ne (by omega), Array.getElem?_setIfInBounds_ne (by omega)]
  have zb : ∀ k, Nat.testBit 0 k = false := fun k => Nat.zero_testBit k
  exact ⟨(blk_cell hb 0).trans (by rfl), (blk_cell hb 1).trans (by rfl), (blk_cell hb 2).trans (by rfl), (blk_cell hb 3).trans (by rfl), (blk_cell hb 4).trans (by rfl),
    fun k hk => ((blk_cell hb (5 + k)).trans ((far _ (by omega)).trans (zeros_of Tryd.zeroCells91 (.bool false) 5 64 k (by kernel_rfl) hk))).trans (by show _ = some (Value.bool (Nat.testBit 0 k)); rw [zb]),
    fun k hk => ((blk_cell hb (69 + k)).trans ((far _ (by omega)).trans (zeros_of Tryd.zeroCells91 (.bool false) 69 64 k (by kernel_rfl) hk))).trans (by show _ = some (Value.bool (Nat.testBit 0 k)); rw [zb]),
    fun k hk => (blk_cell hb (133 + k)).trans ((far _ (by omega)).trans (zeros_of Tryd.zeroCells91 (.int .i64 0) 133 64 k (by kernel_rfl) hk)),
    fun k hk => (blk_cell hb (197 + k)).trans ((far _ (by omega)).trans (zeros_of Tryd.zeroCells91 (.int .i64 0) 197 64 k (by kernel_rfl) hk)),
    (blk_cell hb 261).trans (by rfl), fun o => blk_frozen hb o⟩
theorem newP_in (I W Sp : Int) (N : Nat) : InN (newP I W Sp N) := fun i _ h => by
  have h : (0 : Nat).testBit i = true := h
  rw [Nat.zero_testBit] at h; cases h
set_option maxHeartbeats 8000000 in
theorem PowerPlays_any (n I Wk Sp : Int) (A : Option Addr) (len cap : Nat) (z : List (List Value)) (w : World) (hn : (Lit.int .i64 n).wf = true) (hI : (Lit.int .i64 I).wf = true) (hW : (Lit.int .i64 Wk).wf = true) (hS : (Lit.int .i64 Sp).wf = true) (hc : len ≤ cap) (hm : cap ≤ maxLen) (hr : FlatRow w A len [.int .i64, .int .u64, .int .i64] z) (hT : Tab w) :
    Calls Tryd.prog 12 #[.int .i64 n, .agg #[.int .i64 I, .int .i64 Wk, .int .i64 Sp], .slice A len cap] w fun e w' => e = .returned (.bool true) ∧ Below w.heap.size w w' := by
  have HS := Lib.hid (flatPw hr)
  have hlen : len ≤ 9223372036854775807 := by unfold maxLen at hm; omega
  have HT := Lib.hid hT
  have HW := Lib.hid (fun W => awake42_any W)
  have KR := Lib.hid (fun W => Right_q I Wk Sp W)
  have KR2 := Lib.hid (fun W => right42_any I Wk Sp W)
  clear hr hn hI hW hS hc hm hT
  by_cases h1 : n < 1
  · have d1 : decide (n < 1) = true := decide_eq_true h1
    have KN := Lib.hid (New_out n I Wk Sp (w.alloc (.cells #[.int .i64 I, .int .i64 Wk, .int .i64 Sp] 71)) (.inl h1))
    go_enter Tryd.func12, Tryd.ntmps12
    have BK := Lib.hid (blk_new w (.cells #[.int .i64 I, .int .i64 Wk, .int .i64 Sp] 71))
    have HB := Lib.hid (below_alloc (Below.refl w.heap.size w) (.cells #[.int .i64 I, .int .i64 Wk, .int .i64 Sp] 71))
    go_upto_region 2 with (go_at_call 50; refine KN.out.mono ?_; rintro e w1 ⟨rfl, hb⟩; have n0_ := Lib.hid (blk_below BK.out hb); have n1_ := Lib.hid (below_step HB.out hb); clear BK HB hb KN; have BK := n0_; have HB := n1_; clear n0_ n1_)
    refine start_ (n := 5) (S := fun w' => w'.cell? ⟨w.heap.size, 0, none⟩ = some (.int .i64 I) ∧ w'.cell? ⟨w.heap.size, 1, none⟩ = some (.int .i64 Wk) ∧ w'.cell? ⟨w.heap.size, 2, none⟩ = some (.int .i64 Sp)) (ds := []) #[false, false, false, false, false] (by kernel_rfl) rfl rfl ⟨((blk_cell BK.out 0).trans rfl), ((blk_cell BK.out 1).trans rfl), ((blk_cell BK.out 2).trans rfl)⟩ (fun hHeld => ?_)
    have n0_ := Lib.hid (blk_drew BK.out)
    have n1_ := Lib.hid (below_drew1 HB.out)
    clear BK HB
    have BK := n0_
    have HB := n1_
    clear n0_ n1_
    generalize w1.drew = w2 at BK HB hHeld ⊢
    refine take_ (i := 0) (N := some 20) (v := ?_) (a' := ?_) #[true, false, false, false, false] rfl rfl (by kernel_rfl) (fun _ _ _ h => h) (Or.inl ⟨by rfl, ?_⟩) hHeld ?_ ?_
    rotate_left
    · rintro w' ⟨s0, s1, s2⟩
      go_simp
      with_reducible rfl
    rotate_left
    · simp only [Act.put, List.setIfInBounds_toArray, List.set_cons_zero, List.set_cons_succ, i64_w, i32_w]
      rfl
    refine take_ (i := 2) (N := some 22) (v := ?_) (a' := ?_) #[true, false, true, false, false] rfl rfl (by kernel_rfl) (fun _ _ _ h => h) (Or.inl ⟨by rfl, ?_⟩) hHeld ?_ ?_
    rotate_left
    · rintro w' ⟨s0, s1, s2⟩
      go_simp
      with_reducible rfl
    rotate_left
    · simp only [Act.put, List.setIfInBounds_toArray, List.set_cons_zero, List.set_cons_succ, i64_w, i32_w]
      rfl
    refine one_ (i := 1) (N := some 21) #[true, true, true, false, false] rfl rfl (by kernel_rfl) (by decide) (fun K hK => ?_)
    refine goes_ Tryd.func59 (by kernel_rfl) rfl #[.agg #[.int .i64 I, .int .i64 Wk, .int .i64 Sp]] (by rfl) rfl rfl (by (try simp only [List.map_toArray, List.map_cons, List.map_nil]); first | done | rfl | (simp only [List.length_drop, List.length_take]; rfl)) ?_
    with_reducible refine (KR.out _).mono ?_
    rintro e w3 ⟨rfl, hb⟩
    refine ⟨_, rfl, ?_⟩
    have n0_ := Lib.hid (blk_below BK.out hb)
    have n1_ := Lib.hid (below_step HB.out hb)
    clear HB
    have HB := n1_
    clear n1_
    clear BK hb
    have BK := n0_
    clear n0_
    refine hK.out _ _ ⟨((blk_cell BK.out 0).trans rfl), ((blk_cell BK.out 1).trans rfl), ((blk_cell BK.out 2).trans rfl)⟩ (fun hHeld => ?_)
    clear hK K
    refine norm_ (a' := ?_) ?_ ?_
    rotate_left
    · show Act.put _ (some 21) _ = _
      simp only [Act.put, List.setIfInBounds_toArray, List.set_cons_zero, List.set_cons_succ, i64_w, i32_w]
      rfl
    refine one_ (i := 3) (N := some 23) #[true, true, true, true, false] rfl rfl (by kernel_rfl) (by decide) (fun K hK => ?_)
    refine goes_ Tryd.func60 (by kernel_rfl) rfl #[.agg #[.int .i64 I, .int .i64 Wk, .int .i64 Sp]] (by rfl) rfl rfl (by (try simp only [List.map_toArray, List.map_cons, List.map_nil]); first | done | rfl | (simp only [List.length_drop, List.length_take]; rfl)) ?_
    with_reducible refine (KR2.out _).mono ?_
    rintro e w4 ⟨rfl, hb⟩
    refine ⟨_, rfl, ?_⟩
    have n0_ := Lib.hid (blk_below BK.out hb)
    have n1_ := Lib.hid (below_step HB.out hb)
    clear HB
    have HB := n1_
    clear n1_
    clear BK hb
    have BK := n0_
    clear n0_
    refine hK.out _ _ ⟨((blk_cell BK.out 0).trans rfl), ((blk_cell BK.out 1).trans rfl), ((blk_cell BK.out 2).trans rfl)⟩ (fun hHeld => ?_)
    clear hK K
    refine norm_ (a' := ?_) ?_ ?_
    rotate_left
    · show Act.put _ (some 23) _ = _
      simp only [Act.put, List.setIfInBounds_toArray, List.set_cons_zero, List.set_cons_succ, i64_w, i32_w]
      rfl
    refine pure_ (i := 4) (N := some 24) (v := ?_) (a' := ?_) #[true, true, true, true, true] rfl rfl (by kernel_rfl) (fun _ _ _ h => h) (Or.inl ⟨by rfl, ?_⟩) ?_ ?_
    rotate_left
    · intro w'
      go_simp
      with_reducible rfl
    rotate_left
    · simp only [Act.put, List.setIfInBounds_toArray, List.set_cons_zero, List.set_cons_succ, i64_w, i32_w]
      rfl
    refine done_ (by kernel_rfl) ?_
    clear hHeld
    have x0 := (blk_cell BK.out 0).trans rfl; have x1 := (blk_cell BK.out 1).trans rfl; have x2 := (blk_cell BK.out 2).trans rfl
    go_wp2_with (first
      | (go_at_call 60; refine (KR2.out _).mono ?_; rintro e w5 ⟨rfl, hb⟩; have n0_ := Lib.hid (blk_below BK.out hb); have n1_ := Lib.hid (below_step HB.out hb); clear BK HB hb x0 x1 x2; have BK := n0_; have HB := n1_; clear n0_ n1_)
      | (go_at_call 51; refine (HW.out _).mono ?_; rintro e w6 ⟨rfl, hb⟩; have HB3 := Lib.hid (below_step HB.out hb); clear hb))
    go_ret
    exact ⟨rfl, HB3.out⟩
  · have d1 : decide (n < 1) = false := decide_eq_false h1
    by_cases h2 : 64 < n
    · have d2 : decide (64 < n) = true := decide_eq_true h2
      have KN := Lib.hid (New_out n I Wk Sp (w.alloc (.cells #[.int .i64 I, .int .i64 Wk, .int .i64 Sp] 71)) (.inr (.inl h2)))
      go_enter Tryd.func12, Tryd.ntmps12
      have BK := Lib.hid (blk_new w (.cells #[.int .i64 I, .int .i64 Wk, .int .i64 Sp] 71))
      have HB := Lib.hid (below_alloc (Below.refl w.heap.size w) (.cells #[.int .i64 I, .int .i64 Wk, .int .i64 Sp] 71))
      go_upto_region 2 with (go_at_call 50; refine KN.out.mono ?_; rintro e w1 ⟨rfl, hb⟩; have n0_ := Lib.hid (blk_below BK.out hb); have n1_ := Lib.hid (below_step HB.out hb); clear BK HB hb KN; have BK := n0_; have HB := n1_; clear n0_ n1_)
      refine start_ (n := 5) (S := fun w' => w'.cell? ⟨w.heap.size, 0, none⟩ = some (.int .i64 I) ∧ w'.cell? ⟨w.heap.size, 1, none⟩ = some (.int .i64 Wk) ∧ w'.cell? ⟨w.heap.size, 2, none⟩ = some (.int .i64 Sp)) (ds := []) #[false, false, false, false, false] (by kernel_rfl) rfl rfl ⟨((blk_cell BK.out 0).trans rfl), ((blk_cell BK.out 1).trans rfl), ((blk_cell BK.out 2).trans rfl)⟩ (fun hHeld => ?_)
      have n0_ := Lib.hid (blk_drew BK.out)
      have n1_ := Lib.hid (below_drew1 HB.out)
      clear BK HB
      have BK := n0_
      have HB := n1_
      clear n0_ n1_
      generalize w1.drew = w2 at BK HB hHeld ⊢
      refine take_ (i := 0) (N := some 20) (v := ?_) (a' := ?_) #[true, false, false, false, false] rfl rfl (by kernel_rfl) (fun _ _ _ h => h) (Or.inl ⟨by rfl, ?_⟩) hHeld ?_ ?_
      rotate_left
      · rintro w' ⟨s0, s1, s2⟩
        go_simp
        with_reducible rfl
      rotate_left
      · simp only [Act.put, List.setIfInBounds_toArray, List.set_cons_zero, List.set_cons_succ, i64_w, i32_w]
        rfl
      refine take_ (i := 2) (N := some 22) (v := ?_) (a' := ?_) #[true, false, true, false, false] rfl rfl (by kernel_rfl) (fun _ _ _ h => h) (Or.inl ⟨by rfl, ?_⟩) hHeld ?_ ?_
      rotate_left
      · rintro w' ⟨s0, s1, s2⟩
        go_simp
        with_reducible rfl
      rotate_left
      · simp only [Act.put, List.setIfInBounds_toArray, List.set_cons_zero, List.set_cons_succ, i64_w, i32_w]
        rfl
      refine one_ (i := 1) (N := some 21) #[true, true, true, false, false] rfl rfl (by kernel_rfl) (by decide) (fun K hK => ?_)
      refine goes_ Tryd.func59 (by kernel_rfl) rfl #[.agg #[.int .i64 I, .int .i64 Wk, .int .i64 Sp]] (by rfl) rfl rfl (by (try simp only [List.map_toArray, List.map_cons, List.map_nil]); first | done | rfl | (simp only [List.length_drop, List.length_take]; rfl)) ?_
      with_reducible refine (KR.out _).mono ?_
      rintro e w3 ⟨rfl, hb⟩
      refine ⟨_, rfl, ?_⟩
      have n0_ := Lib.hid (blk_below BK.out hb)
      have n1_ := Lib.hid (below_step HB.out hb)
      clear HB
      have HB := n1_
      clear n1_
      clear BK hb
      have BK := n0_
      clear n0_
      refine hK.out _ _ ⟨((blk_cell BK.out 0).trans rfl), ((blk_cell BK.out 1).trans rfl), ((blk_cell BK.out 2).trans rfl)⟩ (fun hHeld => ?_)
      clear hK K
      refine norm_ (a' := ?_) ?_ ?_
      rotate_left
      · show Act.put _ (some 21) _ = _
        simp only [Act.put, List.setIfInBounds_toArray, List.set_cons_zero, List.set_cons_succ, i64_w, i32_w]
        rfl
      refine one_ (i := 3) (N := some 23) #[true, true, true, true, false] rfl rfl (by kernel_rfl) (by decide) (fun K hK => ?_)
      refine goes_ Tryd.func60 (by kernel_rfl) rfl #[.agg #[.int .i64 I, .int .i64 Wk, .int .i64 Sp]] (by rfl) rfl rfl (by (try simp only [List.map_toArray, List.map_cons, List.map_nil]); first | done | rfl | (simp only [List.length_drop, List.length_take]; rfl)) ?_
      with_reducible refine (KR2.out _).mono ?_
      rintro e w4 ⟨rfl, hb⟩
      refine ⟨_, rfl, ?_⟩
      have n0_ := Lib.hid (blk_below BK.out hb)
      have n1_ := Lib.hid (below_step HB.out hb)
      clear HB
      have HB := n1_
      clear n1_
      clear BK hb
      have BK := n0_
      clear n0_
      refine hK.out _ _ ⟨((blk_cell BK.out 0).trans rfl), ((blk_cell BK.out 1).trans rfl), ((blk_cell BK.out 2).trans rfl)⟩ (fun hHeld => ?_)
      clear hK K
      refine norm_ (a' := ?_) ?_ ?_
      rotate_left
      · show Act.put _ (some 23) _ = _
        simp only [Act.put, List.setIfInBounds_toArray, List.set_cons_zero, List.set_cons_succ, i64_w, i32_w]
        rfl
      refine pure_ (i := 4) (N := some 24) (v := ?_) (a' := ?_) #[true, true, true, true, true] rfl rfl (by kernel_rfl) (fun _ _ _ h => h) (Or.inl ⟨by rfl, ?_⟩) ?_ ?_
      rotate_left
      · intro w'
        go_simp
        with_reducible rfl
      rotate_left
      · simp only [Act.put, List.setIfInBounds_toArray, List.set_cons_zero, List.set_cons_succ, i64_w, i32_w]
        rfl
      refine done_ (by kernel_rfl) ?_
      clear hHeld
      have x0 := (blk_cell BK.out 0).trans rfl; have x1 := (blk_cell BK.out 1).trans rfl; have x2 := (blk_cell BK.out 2).trans rfl
      go_wp2_with (first
        | (go_at_call 60; refine (KR2.out _).mono ?_; rintro e w5 ⟨rfl, hb⟩; have n0_ := Lib.hid (blk_below BK.out hb); have n1_ := Lib.hid (below_step HB.out hb); clear BK HB hb x0 x1 x2; have BK := n0_; have HB := n1_; clear n0_ n1_)
        | (go_at_call 51; refine (HW.out _).mono ?_; rintro e w6 ⟨rfl, hb⟩; have HB3 := Lib.hid (below_step HB.out hb); clear hb))
      go_ret
      exact ⟨rfl, HB3.out⟩
    · have d2 : decide (64 < n) = false := decide_eq_false h2
      obtain ⟨rb, hrb⟩ : ∃ r, rightB I Wk Sp = r := ⟨_, rfl⟩
      rw [hrb] at KR KR2
      cases rb with
      | false =>
        have KN := Lib.hid (New_out n I Wk Sp (w.alloc (.cells #[.int .i64 I, .int .i64 Wk, .int .i64 Sp] 71)) (.inr (.inr hrb)))
        go_enter Tryd.func12, Tryd.ntmps12
        have BK := Lib.hid (blk_new w (.cells #[.int .i64 I, .int .i64 Wk, .int .i64 Sp] 71))
        have HB := Lib.hid (below_alloc (Below.refl w.heap.size w) (.cells #[.int .i64 I, .int .i64 Wk, .int .i64 Sp] 71))
        go_upto_region 2 with (go_at_call 50; refine KN.out.mono ?_; rintro e w1 ⟨rfl, hb⟩; have n0_ := Lib.hid (blk_below BK.out hb); have n1_ := Lib.hid (below_step HB.out hb); clear BK HB hb KN; have BK := n0_; have HB := n1_; clear n0_ n1_)
        refine start_ (n := 5) (S := fun w' => w'.cell? ⟨w.heap.size, 0, none⟩ = some (.int .i64 I) ∧ w'.cell? ⟨w.heap.size, 1, none⟩ = some (.int .i64 Wk) ∧ w'.cell? ⟨w.heap.size, 2, none⟩ = some (.int .i64 Sp)) (ds := []) #[false, false, false, false, false] (by kernel_rfl) rfl rfl ⟨((blk_cell BK.out 0).trans rfl), ((blk_cell BK.out 1).trans rfl), ((blk_cell BK.out 2).trans rfl)⟩ (fun hHeld => ?_)
        have n0_ := Lib.hid (blk_drew BK.out)
        have n1_ := Lib.hid (below_drew1 HB.out)
        clear BK HB
        have BK := n0_
        have HB := n1_
        clear n0_ n1_
        generalize w1.drew = w2 at BK HB hHeld ⊢
        refine take_ (i := 0) (N := some 20) (v := ?_) (a' := ?_) #[true, false, false, false, false] rfl rfl (by kernel_rfl) (fun _ _ _ h => h) (Or.inl ⟨by rfl, ?_⟩) hHeld ?_ ?_
        rotate_left
        · rintro w' ⟨s0, s1, s2⟩
          go_simp
          with_reducible rfl
        rotate_left
        · simp only [Act.put, List.setIfInBounds_toArray, List.set_cons_zero, List.set_cons_succ, i64_w, i32_w]
          rfl
        refine take_ (i := 2) (N := some 22) (v := ?_) (a' := ?_) #[true, false, true, false, false] rfl rfl (by kernel_rfl) (fun _ _ _ h => h) (Or.inl ⟨by rfl, ?_⟩) hHeld ?_ ?_
        rotate_left
        · rintro w' ⟨s0, s1, s2⟩
          go_simp
          with_reducible rfl
        rotate_left
        · simp only [Act.put, List.setIfInBounds_toArray, List.set_cons_zero, List.set_cons_succ, i64_w, i32_w]
          rfl
        refine one_ (i := 1) (N := some 21) #[true, true, true, false, false] rfl rfl (by kernel_rfl) (by decide) (fun K hK => ?_)
        refine goes_ Tryd.func59 (by kernel_rfl) rfl #[.agg #[.int .i64 I, .int .i64 Wk, .int .i64 Sp]] (by rfl) rfl rfl (by (try simp only [List.map_toArray, List.map_cons, List.map_nil]); first | done | rfl | (simp only [List.length_drop, List.length_take]; rfl)) ?_
        with_reducible refine (KR.out _).mono ?_
        rintro e w3 ⟨rfl, hb⟩
        refine ⟨_, rfl, ?_⟩
        have n0_ := Lib.hid (blk_below BK.out hb)
        have n1_ := Lib.hid (below_step HB.out hb)
        clear HB
        have HB := n1_
        clear n1_
        clear BK hb
        have BK := n0_
        clear n0_
        refine hK.out _ _ ⟨((blk_cell BK.out 0).trans rfl), ((blk_cell BK.out 1).trans rfl), ((blk_cell BK.out 2).trans rfl)⟩ (fun hHeld => ?_)
        clear hK K
        refine norm_ (a' := ?_) ?_ ?_
        rotate_left
        · show Act.put _ (some 21) _ = _
          simp only [Act.put, List.setIfInBounds_toArray, List.set_cons_zero, List.set_cons_succ, i64_w, i32_w]
          rfl
        refine one_ (i := 3) (N := some 23) #[true, true, true, true, false] rfl rfl (by kernel_rfl) (by decide) (fun K hK => ?_)
        refine goes_ Tryd.func60 (by kernel_rfl) rfl #[.agg #[.int .i64 I, .int .i64 Wk, .int .i64 Sp]] (by rfl) rfl rfl (by (try simp only [List.map_toArray, List.map_cons, List.map_nil]); first | done | rfl | (simp only [List.length_drop, List.length_take]; rfl)) ?_
        with_reducible refine (KR2.out _).mono ?_
        rintro e w4 ⟨rfl, hb⟩
        refine ⟨_, rfl, ?_⟩
        have n0_ := Lib.hid (blk_below BK.out hb)
        have n1_ := Lib.hid (below_step HB.out hb)
        clear HB
        have HB := n1_
        clear n1_
        clear BK hb
        have BK := n0_
        clear n0_
        refine hK.out _ _ ⟨((blk_cell BK.out 0).trans rfl), ((blk_cell BK.out 1).trans rfl), ((blk_cell BK.out 2).trans rfl)⟩ (fun hHeld => ?_)
        clear hK K
        refine norm_ (a' := ?_) ?_ ?_
        rotate_left
        · show Act.put _ (some 23) _ = _
          simp only [Act.put, List.setIfInBounds_toArray, List.set_cons_zero, List.set_cons_succ, i64_w, i32_w]
          rfl
        refine pure_ (i := 4) (N := some 24) (v := ?_) (a' := ?_) #[true, true, true, true, true] rfl rfl (by kernel_rfl) (fun _ _ _ h => h) (Or.inl ⟨by rfl, ?_⟩) ?_ ?_
        rotate_left
        · intro w'
          go_simp
          with_reducible rfl
        rotate_left
        · simp only [Act.put, List.setIfInBounds_toArray, List.set_cons_zero, List.set_cons_succ, i64_w, i32_w]
          rfl
        refine done_ (by kernel_rfl) ?_
        clear hHeld
        have x0 := (blk_cell BK.out 0).trans rfl; have x1 := (blk_cell BK.out 1).trans rfl; have x2 := (blk_cell BK.out 2).trans rfl
        go_wp2_with (first
          | (go_at_call 60; refine (KR2.out _).mono ?_; rintro e w5 ⟨rfl, hb⟩; have n0_ := Lib.hid (blk_below BK.out hb); have n1_ := Lib.hid (below_step HB.out hb); clear BK HB hb x0 x1 x2; have BK := n0_; have HB := n1_; clear n0_ n1_)
          | (go_at_call 51; refine (HW.out _).mono ?_; rintro e w6 ⟨rfl, hb⟩; have HB3 := Lib.hid (below_step HB.out hb); clear hb))
        go_ret
        exact ⟨rfl, HB3.out⟩
      | true =>
      obtain ⟨N, rfl⟩ : ∃ N : Nat, n = (N : Int) := ⟨n.toNat, by omega⟩
      have hN : 1 ≤ N ∧ N ≤ 64 := by omega
      have d3 : decide (64 < N) = false := decide_eq_false (by omega)
      have d4 : decide (N < 1) = false := decide_eq_false (by omega)
      have HOK := Lib.hid (newP_ok I Wk Sp N hrb hN)
      have KN := Lib.hid (fun W => New_q N I Wk Sp W hN hrb)
      have HN := Lib.hid hN
      clear hrb h1 h2 hN
      go_enter Tryd.func12, Tryd.ntmps12
      have BK := Lib.hid (blk_new w (.cells #[.int .i64 I, .int .i64 Wk, .int .i64 Sp] 71))
      have HB := Lib.hid (below_alloc (Below.refl w.heap.size w) (.cells #[.int .i64 I, .int .i64 Wk, .int .i64 Sp] 71))
      have G0 : Hid (w.heap.size < (w.alloc (.cells #[.int .i64 I, .int .i64 Wk, .int .i64 Sp] 71)).heap.size) := Lib.hid (by simp)
      go_upto_region 2 with (go_at_call 50; refine (KN.out _).mono ?_; rintro e w1 ⟨b, rfl, hq, hbb, hb⟩; have n0_ := Lib.hid (blk_below BK.out hb); have n1_ := Lib.hid (below_step HB.out hb); have Q := Lib.hid hq; have HBB : Hid (w.heap.size < b) := Lib.hid (by have := G0.out; omega); clear BK HB hb KN hq hbb G0; have BK := n0_; have HB := n1_; clear n0_ n1_)
      refine start_ (n := 5) (S := fun w' => w'.cell? ⟨w.heap.size, 0, none⟩ = some (.int .i64 I) ∧ w'.cell? ⟨w.heap.size, 1, none⟩ = some (.int .i64 Wk) ∧ w'.cell? ⟨w.heap.size, 2, none⟩ = some (.int .i64 Sp)) (ds := []) #[false, false, false, false, false] (by kernel_rfl) rfl rfl ⟨((blk_cell BK.out 0).trans rfl), ((blk_cell BK.out 1).trans rfl), ((blk_cell BK.out 2).trans rfl)⟩ (fun hHeld => ?_)
      have n0_ := Lib.hid (blk_drew BK.out)
      have n1_ := Lib.hid (below_drew1 HB.out)
      have n2_ := Lib.hid (QT.drew Q.out)
      clear BK HB Q
      have BK := n0_
      have HB := n1_
      have Q := n2_
      clear n0_ n1_ n2_
      generalize w1.drew = w2 at BK HB Q hHeld ⊢
      refine take_ (i := 0) (N := some 20) (v := ?_) (a' := ?_) #[true, false, false, false, false] rfl rfl (by kernel_rfl) (fun _ _ _ h => h) (Or.inl ⟨by rfl, ?_⟩) hHeld ?_ ?_
      rotate_left
      · rintro w' ⟨s0, s1, s2⟩
        go_simp
        with_reducible rfl
      rotate_left
      · simp only [Act.put, List.setIfInBounds_toArray, List.set_cons_zero, List.set_cons_succ, i64_w, i32_w]
        rfl
      refine take_ (i := 2) (N := some 22) (v := ?_) (a' := ?_) #[true, false, true, false, false] rfl rfl (by kernel_rfl) (fun _ _ _ h => h) (Or.inl ⟨by rfl, ?_⟩) hHeld ?_ ?_
      rotate_left
      · rintro w' ⟨s0, s1, s2⟩
        go_simp
        with_reducible rfl
      rotate_left
      · simp only [Act.put, List.setIfInBounds_toArray, List.set_cons_zero, List.set_cons_succ, i64_w, i32_w]
        rfl
      refine one_ (i := 1) (N := some 21) #[true, true, true, false, false] rfl rfl (by kernel_rfl) (by decide) (fun K hK => ?_)
      refine goes_ Tryd.func59 (by kernel_rfl) rfl #[.agg #[.int .i64 I, .int .i64 Wk, .int .i64 Sp]] (by rfl) rfl rfl (by (try simp only [List.map_toArray, List.map_cons, List.map_nil]); first | done | rfl | (simp only [List.length_drop, List.length_take]; rfl)) ?_
      with_reducible refine (KR.out _).mono ?_
      rintro e w3 ⟨rfl, hb⟩
      refine ⟨_, rfl, ?_⟩
      have n0_ := Lib.hid (blk_below BK.out hb)
      have n1_ := Lib.hid (below_step HB.out hb)
      have n2_ := Lib.hid (Q.out.below hb)
      clear HB Q
      have HB := n1_
      have Q := n2_
      clear n1_ n2_
      clear BK hb
      have BK := n0_
      clear n0_
      refine hK.out _ _ ⟨((blk_cell BK.out 0).trans rfl), ((blk_cell BK.out 1).trans rfl), ((blk_cell BK.out 2).trans rfl)⟩ (fun hHeld => ?_)
      clear hK K
      refine norm_ (a' := ?_) ?_ ?_
      rotate_left
      · show Act.put _ (some 21) _ = _
        simp only [Act.put, List.setIfInBounds_toArray, List.set_cons_zero, List.set_cons_succ, i64_w, i32_w]
        rfl
      refine one_ (i := 3) (N := some 23) #[true, true, true, true, false] rfl rfl (by kernel_rfl) (by decide) (fun K hK => ?_)
      refine goes_ Tryd.func60 (by kernel_rfl) rfl #[.agg #[.int .i64 I, .int .i64 Wk, .int .i64 Sp]] (by rfl) rfl rfl (by (try simp only [List.map_toArray, List.map_cons, List.map_nil]); first | done | rfl | (simp only [List.length_drop, List.length_take]; rfl)) ?_
      with_reducible refine (KR2.out _).mono ?_
      rintro e w4 ⟨rfl, hb⟩
      refine ⟨_, rfl, ?_⟩
      have n0_ := Lib.hid (blk_below BK.out hb)
      have n1_ := Lib.hid (below_step HB.out hb)
      have n2_ := Lib.hid (Q.out.below hb)
      clear HB Q
      have HB := n1_
      have Q := n2_
      clear n1_ n2_
      clear BK hb
      have BK := n0_
      clear n0_
      refine hK.out _ _ ⟨((blk_cell BK.out 0).trans rfl), ((blk_cell BK.out 1).trans rfl), ((blk_cell BK.out 2).trans rfl)⟩ (fun hHeld => ?_)
      clear hK K
      refine norm_ (a' := ?_) ?_ ?_
      rotate_left
      · show Act.put _ (some 23) _ = _
        simp only [Act.put, List.setIfInBounds_toArray, List.set_cons_zero, List.set_cons_succ, i64_w, i32_w]
        rfl
      refine pure_ (i := 4) (N := some 24) (v := ?_) (a' := ?_) #[true, true, true, true, true] rfl rfl (by kernel_rfl) (fun _ _ _ h => h) (Or.inl ⟨by rfl, ?_⟩) ?_ ?_
      rotate_left
      · intro w'
        go_simp
        with_reducible rfl
      rotate_left
      · simp only [Act.put, List.setIfInBounds_toArray, List.set_cons_zero, List.set_cons_succ, i64_w, i32_w]
        rfl
      refine done_ (by kernel_rfl) ?_
      clear hHeld
      have x0 := (blk_cell BK.out 0).trans rfl; have x1 := (blk_cell BK.out 1).trans rfl; have x2 := (blk_cell BK.out 2).trans rfl
      go_upto_region 6 with (go_at_call 60; refine (KR2.out _).mono ?_; rintro e w5 ⟨rfl, hb⟩; have n0_ := Lib.hid (blk_below BK.out hb); have n1_ := Lib.hid (below_step HB.out hb); have n2_ := Lib.hid (Q.out.below hb); clear HB Q; have HB := n1_; have Q := n2_; clear n1_ n2_; clear BK hb x0 x1 x2; have BK := n0_; clear n0_)
      refine start_ (n := 16) (S := fun w' => w'.cell? ⟨b, 2, none⟩ = some (.int .i64 Sp) ∧ w'.cell? ⟨w.heap.size, 2, none⟩ = some (.int .i64 Sp)) (ds := []) #[false, false, false, false, false, false, false, false, false, false, false, false, false, false, false, false] (by kernel_rfl) rfl rfl ⟨Q.out.cS, ((blk_cell BK.out 2).trans rfl)⟩ (fun hHeld => ?_)
      have n0_ := Lib.hid (blk_drew BK.out)
      have n1_ := Lib.hid (below_drew1 HB.out)
      have n2_ := Lib.hid (QT.drew Q.out)
      clear BK HB Q
      have BK := n0_
      have HB := n1_
      have Q := n2_
      clear n0_ n1_ n2_
      generalize w5.drew = w6 at BK HB Q hHeld ⊢
      refine pure_ (i := 0) (N := some 45) (v := ?_) (a' := ?_) #[true, false, false, false, false, false, false, false, false, false, false, false, false, false, false, false] rfl rfl (by kernel_rfl) (fun _ _ _ h => h) (Or.inl ⟨by rfl, ?_⟩) ?_ ?_
      rotate_left
      · intro w'
        go_simp
        with_reducible rfl
      rotate_left
      · simp only [Act.put, List.setIfInBounds_toArray, List.set_cons_zero, List.set_cons_succ, i64_w, i32_w]
        rfl
      refine pure_ (i := 1) (N := some 46) (v := ?_) (a' := ?_) #[true, true, false, false, false, false, false, false, false, false, false, false, false, false, false, false] rfl rfl (by kernel_rfl) (fun _ _ _ h => h) (Or.inl ⟨by rfl, ?_⟩) ?_ ?_
      rotate_left
      · intro w'
        go_simp
        with_reducible rfl
      rotate_left
      · simp only [Act.put, List.setIfInBounds_toArray, List.set_cons_zero, List.set_cons_succ, i64_w, i32_w]
        rfl
      refine pure_ (i := 2) (N := some 47) (v := ?_) (a' := ?_) #[true, true, true, false, false, false, false, false, false, false, false, false, false, false, false, false] rfl rfl (by kernel_rfl) (fun _ _ _ h => h) (Or.inl ⟨by rfl, ?_⟩) ?_ ?_
      rotate_left
      · intro w'
        go_simp
        with_reducible rfl
      rotate_left
      · simp only [Act.put, List.setIfInBounds_toArray, List.set_cons_zero, List.set_cons_succ, i64_w, i32_w]
        rfl
      refine pure_ (i := 3) (N := some 48) (v := ?_) (a' := ?_) #[true, true, true, true, false, false, false, false, false, false, false, false, false, false, false, false] rfl rfl (by kernel_rfl) (fun _ _ _ h => h) (Or.inl ⟨by rfl, ?_⟩) ?_ ?_
      rotate_left
      · intro w'
        go_simp
        with_reducible rfl
      rotate_left
      · simp only [Act.put, List.setIfInBounds_toArray, List.set_cons_zero, List.set_cons_succ, i64_w, i32_w]
        rfl
      refine pure_ (i := 4) (N := some 49) (v := ?_) (a' := ?_) #[true, true, true, true, true, false, false, false, false, false, false, false, false, false, false, false] rfl rfl (by kernel_rfl) (fun _ _ _ h => h) (Or.inl ⟨by rfl, ?_⟩) ?_ ?_
      rotate_left
      · intro w'
        go_simp
        with_reducible rfl
      rotate_left
      · simp only [Act.put, List.setIfInBounds_toArray, List.set_cons_zero, List.set_cons_succ, i64_w, i32_w]
        rfl
      refine pure_ (i := 5) (N := some 50) (v := ?_) (a' := ?_) #[true, true, true, true, true, true, false, false, false, false, false, false, false, false, false, false] rfl rfl (by kernel_rfl) (fun _ _ _ h => h) (Or.inl ⟨by rfl, ?_⟩) ?_ ?_
      rotate_left
      · intro w'
        go_simp
        with_reducible rfl
      rotate_left
      · simp only [Act.put, List.setIfInBounds_toArray, List.set_cons_zero, List.set_cons_succ, i64_w, i32_w]
        rfl
      refine pure_ (i := 6) (N := some 51) (v := ?_) (a' := ?_) #[true, true, true, true, true, true, true, false, false, false, false, false, false, false, false, false] rfl rfl (by kernel_rfl) (fun _ _ _ h => h) (Or.inl ⟨by rfl, ?_⟩) ?_ ?_
      rotate_left
      · intro w'
        go_simp
        with_reducible rfl
      rotate_left
      · simp only [Act.put, List.setIfInBounds_toArray, List.set_cons_zero, List.set_cons_succ, i64_w, i32_w]
        rfl
      refine pure_ (i := 7) (N := some 52) (v := ?_) (a' := ?_) #[true, true, true, true, true, true, true, true, false, false, false, false, false, false, false, false] rfl rfl (by kernel_rfl) (fun _ _ _ h => h) (Or.inl ⟨by rfl, ?_⟩) ?_ ?_
      rotate_left
      · intro w'
        go_simp
        with_reducible rfl
      rotate_left
      · simp only [Act.put, List.setIfInBounds_toArray, List.set_cons_zero, List.set_cons_succ, i64_w, i32_w]
        rfl
      refine pure_ (i := 8) (N := some 53) (v := ?_) (a' := ?_) #[true, true, true, true, true, true, true, true, true, false, false, false, false, false, false, false] rfl rfl (by kernel_rfl) (fun _ _ _ h => h) (Or.inl ⟨by rfl, ?_⟩) ?_ ?_
      rotate_left
      · intro w'
        go_simp
        with_reducible rfl
      rotate_left
      · simp only [Act.put, List.setIfInBounds_toArray, List.set_cons_zero, List.set_cons_succ, i64_w, i32_w]
        rfl
      refine pure_ (i := 9) (N := some 54) (v := ?_) (a' := ?_) #[true, true, true, true, true, true, true, true, true, true, false, false, false, false, false, false] rfl rfl (by kernel_rfl) (fun _ _ _ h => h) (Or.inl ⟨by rfl, ?_⟩) ?_ ?_
      rotate_left
      · intro w'
        go_simp
        with_reducible rfl
      rotate_left
      · simp only [Act.put, List.setIfInBounds_toArray, List.set_cons_zero, List.set_cons_succ, i64_w, i32_w]
        rfl
      refine pure_ (i := 10) (N := some 55) (v := ?_) (a' := ?_) #[true, true, true, true, true, true, true, true, true, true, true, false, false, false, false, false] rfl rfl (by kernel_rfl) (fun _ _ _ h => h) (Or.inl ⟨by rfl, ?_⟩) ?_ ?_
      rotate_left
      · intro w'
        go_simp
        with_reducible rfl
      rotate_left
      · simp only [Act.put, List.setIfInBounds_toArray, List.set_cons_zero, List.set_cons_succ, i64_w, i32_w]
        rfl
      refine pure_ (i := 12) (N := some 57) (v := ?_) (a' := ?_) #[true, true, true, true, true, true, true, true, true, true, true, false, true, false, false, false] rfl rfl (by kernel_rfl) (fun _ _ _ h => h) (Or.inl ⟨by rfl, ?_⟩) ?_ ?_
      rotate_left
      · intro w'
        go_simp
        with_reducible rfl
      rotate_left
      · simp only [Act.put, List.setIfInBounds_toArray, List.set_cons_zero, List.set_cons_succ, i64_w, i32_w]
        rfl
      refine take_ (i := 11) (N := some 56) (v := ?_) (a' := ?_) #[true, true, true, true, true, true, true, true, true, true, true, true, true, false, false, false] rfl rfl (by kernel_rfl) (fun _ _ _ h => h) (Or.inl ⟨by rfl, ?_⟩) hHeld ?_ ?_
      rotate_left
      · rintro w' ⟨s0, s1⟩
        go_simp
        with_reducible rfl
      rotate_left
      · simp only [Act.put, List.setIfInBounds_toArray, List.set_cons_zero, List.set_cons_succ, i64_w, i32_w]
        rfl
      refine take_ (i := 13) (N := some 58) (v := ?_) (a' := ?_) #[true, true, true, true, true, true, true, true, true, true, true, true, true, true, false, false] rfl rfl (by kernel_rfl) (fun _ _ _ h => h) (Or.inl ⟨by rfl, ?_⟩) hHeld ?_ ?_
      rotate_left
      · rintro w' ⟨s0, s1⟩
        go_simp
        with_reducible rfl
      rotate_left
      · simp only [Act.put, List.setIfInBounds_toArray, List.set_cons_zero, List.set_cons_succ, i64_w, i32_w]
        rfl
      refine pure_ (i := 14) (N := some 59) (v := ?_) (a' := ?_) #[true, true, true, true, true, true, true, true, true, true, true, true, true, true, true, false] rfl rfl (by kernel_rfl) (fun _ _ _ h => h) (Or.inl ⟨by rfl, ?_⟩) ?_ ?_
      rotate_left
      · intro w'
        go_simp
        with_reducible rfl
      rotate_left
      · simp only [Act.put, List.setIfInBounds_toArray, List.set_cons_zero, List.set_cons_succ, i64_w, i32_w]
        rfl
      refine pure_ (i := 15) (N := some 60) (v := ?_) (a' := ?_) #[true, true, true, true, true, true, true, true, true, true, true, true, true, true, true, true] rfl rfl (by kernel_rfl) (fun _ _ _ h => h) (Or.inl ⟨by rfl, ?_⟩) ?_ ?_
      rotate_left
      · intro w'
        go_simp
        with_reducible rfl
      rotate_left
      · simp only [Act.put, List.setIfInBounds_toArray, List.set_cons_zero, List.set_cons_succ, i64_w, i32_w]
        rfl
      refine done_ (by kernel_rfl) ?_
      clear hHeld
      have x0 := (blk_cell BK.out 0).trans rfl; have x1 := (blk_cell BK.out 1).trans rfl; have x2 := (blk_cell BK.out 2).trans rfl
      go_upto_region 9 with fail
      clear x0 x1 x2 BK KR KR2 d1 d2 d3 d4
      obtain ⟨bp, hbp⟩ : ∃ bp, w6.heap.size = bp := ⟨_, rfl⟩
      have Y := PU.new w6 I Wk Sp N
      have Q2 := Q.out.below (below_alloc (Below.refl _ _) (.cells ((((Tryd.zeroCells91.setIfInBounds 0 (.int .i64 I)).setIfInBounds 1 (.int .i64 Wk)).setIfInBounds 2 (.int .i64 Sp)).setIfInBounds 3 (.int .i64 (N : Int))) 91))
      have HB2 := below_alloc HB.out (.cells ((((Tryd.zeroCells91.setIfInBounds 0 (.int .i64 I)).setIfInBounds 1 (.int .i64 Wk)).setIfInBounds 2 (.int .i64 Sp)).setIfInBounds 3 (.int .i64 (N : Int))) 91)
      have hne := Nat.ne_of_lt Q.out.lt
      have hge := HB.out.size
      rw [hbp] at Y hne hge ⊢
      clear HB Q
      generalize w6.alloc (.cells ((((Tryd.zeroCells91.setIfInBounds 0 (.int .i64 I)).setIfInBounds 1 (.int .i64 Wk)).setIfInBounds 2 (.int .i64 Sp)).setIfInBounds 3 (.int .i64 (N : Int))) 91) = w7 at Y Q2 HB2 ⊢
      have H0 : Hid (SP w w7 b bp (newP I Wk Sp N)) := Lib.hid ⟨Q2, Y, HOK.out, newP_in I Wk Sp N, HB2, hne, by have := HBB.out; omega, hge⟩
      have HC : Hid (∀ i, i < len → ∃ (ad : Addr) (kd : Int) (s : Nat) (tt : Int), A = some ad ∧ s < 18446744073709551616 ∧ ∀ W, Below w.heap.size w W → W.cell? (ad.add (i * 3)) = some (.int .i64 kd) ∧ W.cell? ⟨(ad.add (i * 3)).block, (ad.add (i * 3)).off + 1, none⟩ = some (.int .u64 (s : Int)) ∧ W.cell? ⟨(ad.add (i * 3)).block, (ad.add (i * 3)).off + 2, none⟩ = some (.int .i64 tt)) := Lib.hid (fun i hi => by
        obtain ⟨ad, a, s, c, hA, q0, q1, q2, hs⟩ := HS.out i hi
        exact ⟨ad, a, s, c, hA, hs, fun W hW => ⟨(hW.cell (World.block_lt_of_cell? w _ q0)).trans q0, (hW.cell (World.block_lt_of_cell? w _ q1)).trans q1, (hW.cell (World.block_lt_of_cell? w _ q2)).trans q2⟩⟩)
      clear Y Q2 HB2 hbp hne hge HOK HS HBB
      go_wp2
      go_loopg [10] 42 (fun kq v10 w' => ∃ (i : Nat) (p : Pl), v10 = .int .i64 i ∧ Aside0 (i + kq = 42 ∧ i ≤ 40) ∧ Aside0 (p.N = N) ∧ Aside0 (SP w w' b bp p))
      case atStart => exact ⟨0, _, rfl, ⟨by omega, by omega⟩, ⟨rfl⟩, ⟨H0.out⟩⟩
      case round =>
        clear H0
        obtain ⟨i, p, rfl, HK, HPN, HI⟩ := hrel
        obtain ⟨k1, rfl⟩ : ∃ k1, gk = k1 + 1 := ⟨gk - 1, by have := HK.out; omega⟩
        by_cases c1 : i < len ∧ i < 40
        · have d1 : decide ((i : Int) < (len : Int)) = true := decide_eq_true (by omega)
          have d2 : decide (i < len) = true := decide_eq_true c1.1
          have d3 : decide ((i : Int) < 40) = true := decide_eq_true (by omega)
          have d4 : decide (i < 40) = true := decide_eq_true c1.2
          have HI40 := Lib.hid c1.2
          obtain ⟨ad, kd, s, tt, rfl, hs, hcell⟩ := HC.out i c1.1
          have HCE := Lib.hid hcell
          have KS := Lib.hid (fun W (h : SP w W b bp p) => step42_any b bp s kd tt p w W h hs HT.out)
          have x0 : (0 ≤ (i : Int) ∧ (i : Int) < (len : Int)) = True := eq_true ⟨by omega, by omega⟩
          have y0 : ((i : Int) < (len : Int)) = True := eq_true (by omega)
          have xt : ((i : Int)).toNat = i := by omega
          clear hcell hs c1
          go_upto_region 12 with fail
          obtain ⟨r0, r1, r2⟩ := HCE.out _ (below_drew1 HI.out.be)
          refine start_ (n := 26) (S := fun w' => True) (ds := []) #[false, false, false, false, false, false, false, false, false, false, false, false, false, false, false, false, false, false, false, false, false, false, false, false, false, false] (by kernel_rfl) rfl rfl (trivial) (fun hHeld => ?_)
          have n_ := Lib.hid (HI.out.below (below_drew (Below.refl _ _)))
          clear HI
          have HI := n_
          clear n_
          generalize wr.drew = w5 at HI r0 r1 r2 hHeld ⊢
          refine pure_ (i := 0) (N := some 75) (v := ?_) (a' := ?_) #[true, false, false, false, false, false, false, false, false, false, false, false, false, false, false, false, false, false, false, false, false, false, false, false, false, false] rfl rfl (by kernel_rfl) (fun _ _ _ h => h) (Or.inl ⟨by rfl, ?_⟩) ?_ ?_
          rotate_left
          · intro w'
            go_simp
            with_reducible rfl
          rotate_left
          · simp only [Act.put, List.setIfInBounds_toArray, List.set_cons_zero, List.set_cons_succ, i64_w, i32_w]
            rfl
          refine pure_ (i := 1) (N := some 76) (v := ?_) (a' := ?_) #[true, true, false, false, false, false, false, false, false, false, false, false, false, false, false, false, false, false, false, false, false, false, false, false, false, false] rfl rfl (by kernel_rfl) (fun _ _ _ h => h) (Or.inl ⟨by rfl, ?_⟩) ?_ ?_
          rotate_left
          · intro w'
            go_simp
            with_reducible rfl
          rotate_left
          · simp only [Act.put, List.setIfInBounds_toArray, List.set_cons_zero, List.set_cons_succ, i64_w, i32_w]
            rfl
          refine pure_ (i := 2) (N := some 77) (v := ?_) (a' := ?_) #[true, true, true, false, false, false, false, false, false, false, false, false, false, false, false, false, false, false, false, false, false, false, false, false, false, false] rfl rfl (by kernel_rfl) (fun _ _ _ h => h) (Or.inl ⟨by rfl, ?_⟩) ?_ ?_
          rotate_left
          · intro w'
            go_simp
            with_reducible rfl
          rotate_left
          · simp only [Act.put, List.setIfInBounds_toArray, List.set_cons_zero, List.set_cons_succ, i64_w, i32_w]
            rfl
          refine pure_ (i := 3) (N := some 78) (v := ?_) (a' := ?_) #[true, true, true, true, false, false, false, false, false, false, false, false, false, false, false, false, false, false, false, false, false, false, false, false, false, false] rfl rfl (by kernel_rfl) (fun _ _ _ h => h) (Or.inl ⟨by rfl, ?_⟩) ?_ ?_
          rotate_left
          · intro w'
            go_simp
            with_reducible rfl
          rotate_left
          · simp only [Act.put, List.setIfInBounds_toArray, List.set_cons_zero, List.set_cons_succ, i64_w, i32_w]
            rfl
          refine pure_ (i := 4) (N := some 79) (v := ?_) (a' := ?_) #[true, true, true, true, true, false, false, false, false, false, false, false, false, false, false, false, false, false, false, false, false, false, false, false, false, false] rfl rfl (by kernel_rfl) (fun _ _ _ h => h) (Or.inl ⟨by rfl, ?_⟩) ?_ ?_
          rotate_left
          · intro w'
            go_simp
            with_reducible rfl
          rotate_left
          · simp only [Act.put, List.setIfInBounds_toArray, List.set_cons_zero, List.set_cons_succ, i64_w, i32_w]
            rfl
          refine one_ (i := 5) (N := some 80) #[true, true, true, true, true, true, false, false, false, false, false, false, false, false, false, false, false, false, false, false, false, false, false, false, false, false] rfl rfl (by kernel_rfl) (by decide) (fun K hK => ?_)
          refine value_ (w1 := ?_) (v := ?_) (by rfl) rfl ?_ ?_
          rotate_left 2
          · go_simp
            constructor
            · rfl
            · rfl
          refine hK.out _ _ (trivial) (fun hHeld => ?_)
          clear hK K
          refine norm_ (a' := ?_) ?_ ?_
          rotate_left
          · show Act.put _ (some 80) _ = _
            simp only [Act.put, List.setIfInBounds_toArray, List.set_cons_zero, List.set_cons_succ, i64_w, i32_w]
            rfl
          refine one_ (i := 6) (N := some 81) #[true, true, true, true, true, true, true, false, false, false, false, false, false, false, false, false, false, false, false, false, false, false, false, false, false, false] rfl rfl (by kernel_rfl) (by decide) (fun K hK => ?_)
          refine goes_ Tryd.func61 (by kernel_rfl) rfl #[.pointer (some ⟨b, 0, none⟩), .pointer (some ⟨bp, 0, none⟩), .agg #[.int .i64 kd, .int .u64 (s : Int), .int .i64 tt]] (by rfl) rfl rfl (by (try simp only [List.map_toArray, List.map_cons, List.map_nil]); first | done | rfl | (simp only [List.length_drop, List.length_take]; rfl)) ?_
          with_reducible refine (KS.out _ HI.out).mono ?_
          rintro e w3 ⟨rfl, p2, hsp, hpn⟩
          refine ⟨_, rfl, ?_⟩
          have HI := Lib.hid hsp
          have HPN2 := Lib.hid hpn
          clear hsp hpn r0 r1 r2
          have ct := PQ.ct HI.out.u
          have ca := PQ.ca HI.out.u
          refine hK.out _ _ (trivial) (fun hHeld => ?_)
          clear hK K
          refine norm_ (a' := ?_) ?_ ?_
          rotate_left
          · show Act.put _ (some 81) _ = _
            simp only [Act.put, List.setIfInBounds_toArray, List.set_cons_zero, List.set_cons_succ, i64_w, i32_w]
            rfl
          refine pure_ (i := 7) (N := some 82) (v := ?_) (a' := ?_) #[true, true, true, true, true, true, true, true, false, false, false, false, false, false, false, false, false, false, false, false, false, false, false, false, false, false] rfl rfl (by kernel_rfl) (fun _ _ _ h => h) (Or.inl ⟨by rfl, ?_⟩) ?_ ?_
          rotate_left
          · intro w'
            go_simp
            with_reducible rfl
          rotate_left
          · simp only [Act.put, List.setIfInBounds_toArray, List.set_cons_zero, List.set_cons_succ, i64_w, i32_w]
            rfl
          refine pure_ (i := 8) (N := some 83) (v := ?_) (a' := ?_) #[true, true, true, true, true, true, true, true, true, false, false, false, false, false, false, false, false, false, false, false, false, false, false, false, false, false] rfl rfl (by kernel_rfl) (fun _ _ _ h => h) (Or.inl ⟨by rfl, ?_⟩) ?_ ?_
          rotate_left
          · intro w'
            go_simp
            with_reducible rfl
          rotate_left
          · simp only [Act.put, List.setIfInBounds_toArray, List.set_cons_zero, List.set_cons_succ, i64_w, i32_w]
            rfl
          refine pure_ (i := 9) (N := some 84) (v := ?_) (a' := ?_) #[true, true, true, true, true, true, true, true, true, true, false, false, false, false, false, false, false, false, false, false, false, false, false, false, false, false] rfl rfl (by kernel_rfl) (fun _ _ _ h => h) (Or.inl ⟨by rfl, ?_⟩) ?_ ?_
          rotate_left
          · intro w'
            go_simp
            with_reducible rfl
          rotate_left
          · simp only [Act.put, List.setIfInBounds_toArray, List.set_cons_zero, List.set_cons_succ, i64_w, i32_w]
            rfl
          refine pure_ (i := 11) (N := some 86) (v := ?_) (a' := ?_) #[true, true, true, true, true, true, true, true, true, true, false, true, false, false, false, false, false, false, false, false, false, false, false, false, false, false] rfl rfl (by kernel_rfl) (fun _ _ _ h => h) (Or.inl ⟨by rfl, ?_⟩) ?_ ?_
          rotate_left
          · intro w'
            go_simp
            with_reducible rfl
          rotate_left
          · simp only [Act.put, List.setIfInBounds_toArray, List.set_cons_zero, List.set_cons_succ, i64_w, i32_w]
            rfl
          refine pure_ (i := 12) (N := some 87) (v := ?_) (a' := ?_) #[true, true, true, true, true, true, true, true, true, true, false, true, true, false, false, false, false, false, false, false, false, false, false, false, false, false] rfl rfl (by kernel_rfl) (fun _ _ _ h => h) (Or.inl ⟨by rfl, ?_⟩) ?_ ?_
          rotate_left
          · intro w'
            go_simp
            with_reducible rfl
          rotate_left
          · simp only [Act.put, List.setIfInBounds_toArray, List.set_cons_zero, List.set_cons_succ, i64_w, i32_w]
            rfl
          refine pure_ (i := 13) (N := some 88) (v := ?_) (a' := ?_) #[true, true, true, true, true, true, true, true, true, true, false, true, true, true, false, false, false, false, false, false, false, false, false, false, false, false] rfl rfl (by kernel_rfl) (fun _ _ _ h => h) (Or.inl ⟨by rfl, ?_⟩) ?_ ?_
          rotate_left
          · intro w'
            go_simp
            with_reducible rfl
          rotate_left
          · simp only [Act.put, List.setIfInBounds_toArray, List.set_cons_zero, List.set_cons_succ, i64_w, i32_w]
            rfl
          refine join_ (σ := Unit) 11 #[true, true, true, true, true, true, true, true, true, true, true, true, true, true, true, false, false, false, false, false, false, false, false, false, false, false] (fun _ => [(85, .int .i64 p2.t), (89, .int .i64 p2.t)]) (fun _ w' => w3 = w') ?_ ?_
          rotate_left
          · intro hCont
            refine two_ (i := 10) (j := 14) (Ni := some 85) (Nj := some 89) #[true, true, true, true, true, true, true, true, true, true, true, true, true, true, false, false, false, false, false, false, false, false, false, false, false, false] #[true, true, true, true, true, true, true, true, true, true, false, true, true, true, true, false, false, false, false, false, false, false, false, false, false, false] rfl rfl rfl rfl (by kernel_rfl) (by decide) (by decide) (fun K hK => ?_) (fun K hK => ?_)
            · skip
              refine goes_ Tryd.func57 (by kernel_rfl) rfl #[.pointer (some ⟨b, 0, none⟩)] (by rfl) rfl rfl (by (try simp only [List.map_toArray, List.map_cons, List.map_nil]); first | done | rfl | (simp only [List.length_drop, List.length_take]; rfl)) ?_
              with_reducible refine (Now_q b p2 _ HI.out.q HI.out.ok).mono ?_
              rintro e w4 ⟨rfl, rfl⟩
              refine ⟨_, rfl, ?_⟩
              refine hK.out _ _ (trivial) (fun hHeld => ?_)
              clear hK K
              refine norm_ (a' := ?_) ?_ ?_
              rotate_left
              · show Act.put _ (some 85) _ = _
                simp only [Act.put, List.setIfInBounds_toArray, List.set_cons_zero, List.set_cons_succ, i64_w, i32_w]
                rfl
              refine one_ (i := 14) (N := some 89) #[true, true, true, true, true, true, true, true, true, true, true, true, true, true, true, false, false, false, false, false, false, false, false, false, false, false] rfl rfl (by kernel_rfl) (by decide) (fun K hK => ?_)
              refine value_ (w1 := ?_) (v := ?_) (by rfl) rfl ?_ ?_
              rotate_left 2
              · go_simp
                constructor
                · rfl
                · rfl
              refine hK.out _ _ (trivial) (fun hHeld => ?_)
              clear hK K
              refine norm_ (a' := ?_) ?_ ?_
              rotate_left
              · show Act.put _ (some 89) _ = _
                simp only [Act.put, List.setIfInBounds_toArray, List.set_cons_zero, List.set_cons_succ, i64_w, i32_w]
                rfl
              exact norm_ (by simp only [putAll, Act.put, List.setIfInBounds_toArray, List.set_cons_zero, List.set_cons_succ]) (hCont () _ rfl)
            · skip
              refine value_ (w1 := ?_) (v := ?_) (by rfl) rfl ?_ ?_
              rotate_left 2
              · go_simp
                constructor
                · rfl
                · rfl
              refine hK.out _ _ (trivial) (fun hHeld => ?_)
              clear hK K
              refine norm_ (a' := ?_) ?_ ?_
              rotate_left
              · show Act.put _ (some 89) _ = _
                simp only [Act.put, List.setIfInBounds_toArray, List.set_cons_zero, List.set_cons_succ, i64_w, i32_w]
                rfl
              refine one_ (i := 10) (N := some 85) #[true, true, true, true, true, true, true, true, true, true, true, true, true, true, true, false, false, false, false, false, false, false, false, false, false, false] rfl rfl (by kernel_rfl) (by decide) (fun K hK => ?_)
              refine goes_ Tryd.func57 (by kernel_rfl) rfl #[.pointer (some ⟨b, 0, none⟩)] (by rfl) rfl rfl (by (try simp only [List.map_toArray, List.map_cons, List.map_nil]); first | done | rfl | (simp only [List.length_drop, List.length_take]; rfl)) ?_
              with_reducible refine (Now_q b p2 _ HI.out.q HI.out.ok).mono ?_
              rintro e w4 ⟨rfl, rfl⟩
              refine ⟨_, rfl, ?_⟩
              refine hK.out _ _ (trivial) (fun hHeld => ?_)
              clear hK K
              refine norm_ (a' := ?_) ?_ ?_
              rotate_left
              · show Act.put _ (some 85) _ = _
                simp only [Act.put, List.setIfInBounds_toArray, List.set_cons_zero, List.set_cons_succ, i64_w, i32_w]
                rfl
              exact norm_ (by simp only [putAll, Act.put, List.setIfInBounds_toArray, List.set_cons_zero, List.set_cons_succ]) (hCont () _ rfl)
          rintro sF _ rfl
          have hHeld : True := trivial
          refine norm_ (a' := ?_) ?_ ?_
          rotate_left
          · simp only [putAll, Act.put, List.setIfInBounds_toArray, List.set_cons_zero, List.set_cons_succ]
            rfl
          refine pure_ (i := 15) (N := some 90) (v := ?_) (a' := ?_) #[true, true, true, true, true, true, true, true, true, true, true, true, true, true, true, true, false, false, false, false, false, false, false, false, false, false] rfl rfl (by kernel_rfl) (fun _ _ _ h => h) (Or.inl ⟨by rfl, ?_⟩) ?_ ?_
          rotate_left
          · intro w'
            go_simp
            with_reducible rfl
          rotate_left
          · simp only [Act.put, List.setIfInBounds_toArray, List.set_cons_zero, List.set_cons_succ, i64_w, i32_w]
            rfl
          refine pure_ (i := 16) (N := some 91) (v := ?_) (a' := ?_) #[true, true, true, true, true, true, true, true, true, true, true, true, true, true, true, true, true, false, false, false, false, false, false, false, false, false] rfl rfl (by kernel_rfl) (fun _ _ _ h => h) (Or.inl ⟨by rfl, ?_⟩) ?_ ?_
          rotate_left
          · intro w'
            go_simp
            with_reducible rfl
          rotate_left
          · simp only [Act.put, List.setIfInBounds_toArray, List.set_cons_zero, List.set_cons_succ, i64_w, i32_w]
            rfl
          refine pure_ (i := 17) (N := some 92) (v := ?_) (a' := ?_) #[true, true, true, true, true, true, true, true, true, true, true, true, true, true, true, true, true, true, false, false, false, false, false, false, false, false] rfl rfl (by kernel_rfl) (fun _ _ _ h => h) (Or.inl ⟨by rfl, ?_⟩) ?_ ?_
          rotate_left
          · intro w'
            go_simp
            with_reducible rfl
          rotate_left
          · simp only [Act.put, List.setIfInBounds_toArray, List.set_cons_zero, List.set_cons_succ, i64_w, i32_w]
            rfl
          refine pure_ (i := 18) (N := some 93) (v := ?_) (a' := ?_) #[true, true, true, true, true, true, true, true, true, true, true, true, true, true, true, true, true, true, true, false, false, false, false, false, false, false] rfl rfl (by kernel_rfl) (fun _ _ _ h => h) (Or.inl ⟨by rfl, ?_⟩) ?_ ?_
          rotate_left
          · intro w'
            go_simp
            with_reducible rfl
          rotate_left
          · simp only [Act.put, List.setIfInBounds_toArray, List.set_cons_zero, List.set_cons_succ, i64_w, i32_w]
            rfl
          refine pure_ (i := 20) (N := some 95) (v := ?_) (a' := ?_) #[true, true, true, true, true, true, true, true, true, true, true, true, true, true, true, true, true, true, true, false, true, false, false, false, false, false] rfl rfl (by kernel_rfl) (fun _ _ _ h => h) (Or.inl ⟨by rfl, ?_⟩) ?_ ?_
          rotate_left
          · intro w'
            go_simp
            with_reducible rfl
          rotate_left
          · simp only [Act.put, List.setIfInBounds_toArray, List.set_cons_zero, List.set_cons_succ, i64_w, i32_w]
            rfl
          refine pure_ (i := 21) (N := some 96) (v := ?_) (a' := ?_) #[true, true, true, true, true, true, true, true, true, true, true, true, true, true, true, true, true, true, true, false, true, true, false, false, false, false] rfl rfl (by kernel_rfl) (fun _ _ _ h => h) (Or.inl ⟨by rfl, ?_⟩) ?_ ?_
          rotate_left
          · intro w'
            go_simp
            with_reducible rfl
          rotate_left
          · simp only [Act.put, List.setIfInBounds_toArray, List.set_cons_zero, List.set_cons_succ, i64_w, i32_w]
            rfl
          refine pure_ (i := 22) (N := some 97) (v := ?_) (a' := ?_) #[true, true, true, true, true, true, true, true, true, true, true, true, true, true, true, true, true, true, true, false, true, true, true, false, false, false] rfl rfl (by kernel_rfl) (fun _ _ _ h => h) (Or.inl ⟨by rfl, ?_⟩) ?_ ?_
          rotate_left
          · intro w'
            go_simp
            with_reducible rfl
          rotate_left
          · simp only [Act.put, List.setIfInBounds_toArray, List.set_cons_zero, List.set_cons_succ, i64_w, i32_w]
            rfl
          refine join_ (σ := Unit) 2 #[true, true, true, true, true, true, true, true, true, true, true, true, true, true, true, true, true, true, true, true, true, true, true, true, false, false] (fun _ => [(94, .int .i64 p2.ar), (98, .int .i64 p2.ar)]) (fun _ w' => w3 = w') ?_ ?_
          rotate_left
          · intro hCont
            refine two_ (i := 19) (j := 23) (Ni := some 94) (Nj := some 98) #[true, true, true, true, true, true, true, true, true, true, true, true, true, true, true, true, true, true, true, true, true, true, true, false, false, false] #[true, true, true, true, true, true, true, true, true, true, true, true, true, true, true, true, true, true, true, false, true, true, true, true, false, false] rfl rfl rfl rfl (by kernel_rfl) (by decide) (by decide) (fun K hK => ?_) (fun K hK => ?_)
            · skip
              refine goes_ Tryd.func58 (by kernel_rfl) rfl #[.pointer (some ⟨b, 0, none⟩)] (by rfl) rfl rfl (by (try simp only [List.map_toArray, List.map_cons, List.map_nil]); first | done | rfl | (simp only [List.length_drop, List.length_take]; rfl)) ?_
              with_reducible refine (Saved_q b p2 _ HI.out.q HI.out.ok).mono ?_
              rintro e w4 ⟨rfl, rfl⟩
              refine ⟨_, rfl, ?_⟩
              refine hK.out _ _ (trivial) (fun hHeld => ?_)
              clear hK K
              refine norm_ (a' := ?_) ?_ ?_
              rotate_left
              · show Act.put _ (some 94) _ = _
                simp only [Act.put, List.setIfInBounds_toArray, List.set_cons_zero, List.set_cons_succ, i64_w, i32_w]
                rfl
              refine one_ (i := 23) (N := some 98) #[true, true, true, true, true, true, true, true, true, true, true, true, true, true, true, true, true, true, true, true, true, true, true, true, false, false] rfl rfl (by kernel_rfl) (by decide) (fun K hK => ?_)
              refine value_ (w1 := ?_) (v := ?_) (by rfl) rfl ?_ ?_
              rotate_left 2
              · go_simp
                constructor
                · rfl
                · rfl
              refine hK.out _ _ (trivial) (fun hHeld => ?_)
              clear hK K
              refine norm_ (a' := ?_) ?_ ?_
              rotate_left
              · show Act.put _ (some 98) _ = _
                simp only [Act.put, List.setIfInBounds_toArray, List.set_cons_zero, List.set_cons_succ, i64_w, i32_w]
                rfl
              exact norm_ (by simp only [putAll, Act.put, List.setIfInBounds_toArray, List.set_cons_zero, List.set_cons_succ]) (hCont () _ rfl)
            · skip
              refine value_ (w1 := ?_) (v := ?_) (by rfl) rfl ?_ ?_
              rotate_left 2
              · go_simp
                constructor
                · rfl
                · rfl
              refine hK.out _ _ (trivial) (fun hHeld => ?_)
              clear hK K
              refine norm_ (a' := ?_) ?_ ?_
              rotate_left
              · show Act.put _ (some 98) _ = _
                simp only [Act.put, List.setIfInBounds_toArray, List.set_cons_zero, List.set_cons_succ, i64_w, i32_w]
                rfl
              refine one_ (i := 19) (N := some 94) #[true, true, true, true, true, true, true, true, true, true, true, true, true, true, true, true, true, true, true, true, true, true, true, true, false, false] rfl rfl (by kernel_rfl) (by decide) (fun K hK => ?_)
              refine goes_ Tryd.func58 (by kernel_rfl) rfl #[.pointer (some ⟨b, 0, none⟩)] (by rfl) rfl rfl (by (try simp only [List.map_toArray, List.map_cons, List.map_nil]); first | done | rfl | (simp only [List.length_drop, List.length_take]; rfl)) ?_
              with_reducible refine (Saved_q b p2 _ HI.out.q HI.out.ok).mono ?_
              rintro e w4 ⟨rfl, rfl⟩
              refine ⟨_, rfl, ?_⟩
              refine hK.out _ _ (trivial) (fun hHeld => ?_)
              clear hK K
              refine norm_ (a' := ?_) ?_ ?_
              rotate_left
              · show Act.put _ (some 94) _ = _
                simp only [Act.put, List.setIfInBounds_toArray, List.set_cons_zero, List.set_cons_succ, i64_w, i32_w]
                rfl
              exact norm_ (by simp only [putAll, Act.put, List.setIfInBounds_toArray, List.set_cons_zero, List.set_cons_succ]) (hCont () _ rfl)
          rintro sF _ rfl
          have hHeld : True := trivial
          refine norm_ (a' := ?_) ?_ ?_
          rotate_left
          · simp only [putAll, Act.put, List.setIfInBounds_toArray, List.set_cons_zero, List.set_cons_succ]
            rfl
          refine pure_ (i := 24) (N := some 99) (v := ?_) (a' := ?_) #[true, true, true, true, true, true, true, true, true, true, true, true, true, true, true, true, true, true, true, true, true, true, true, true, true, false] rfl rfl (by kernel_rfl) (fun _ _ _ h => h) (Or.inl ⟨by rfl, ?_⟩) ?_ ?_
          rotate_left
          · intro w'
            go_simp
            with_reducible rfl
          rotate_left
          · simp only [Act.put, List.setIfInBounds_toArray, List.set_cons_zero, List.set_cons_succ, i64_w, i32_w]
            rfl
          refine pure_ (i := 25) (N := some 100) (v := ?_) (a' := ?_) #[true, true, true, true, true, true, true, true, true, true, true, true, true, true, true, true, true, true, true, true, true, true, true, true, true, true] rfl rfl (by kernel_rfl) (fun _ _ _ h => h) (Or.inl ⟨by rfl, ?_⟩) ?_ ?_
          rotate_left
          · intro w'
            go_simp
            with_reducible rfl
          rotate_left
          · simp only [Act.put, List.setIfInBounds_toArray, List.set_cons_zero, List.set_cons_succ, i64_w, i32_w]
            rfl
          refine done_ (by kernel_rfl) ?_
          clear ct ca KS hHeld
          have z1 : (p2.t != p2.t) = false := by simp
          have z2 : (p2.ar != p2.ar) = false := by simp
          have HPN3 : Hid (p2.N = N) := Lib.hid (HPN2.out.trans HPN.out)
          have L0 : Hid (LP w w3 b bp p2 w3.heap.size (.slice none 0 0) (.slice none 0 0) [] []) := Lib.hid ⟨HI.out, Kd.R_nil _ _ _ _ _, Kd.R_nil _ _ _ _ _, HI.out.q.lt, PQ.lt HI.out.u, Nat.le_refl _⟩
          obtain ⟨B0, hB0⟩ : ∃ B, w3.heap.size = B := ⟨_, rfl⟩
          rw [hB0] at L0
          clear HI HPN HPN2 hB0
          go_wp2
          clear z1 z2
          go_loopg [11, 12, 13] (N + 1) (fun kq v11 v12 v13 w' => ∃ k : Nat, v13 = .int .i64 k ∧ Aside0 (k + kq = N + 1 ∧ 1 ≤ kq) ∧ Aside0 (LP w w' b bp p2 B0 v11 v12 (selL (fun i => p2.s.testBit i) k) (selL (upB p2) k)))
          case atStart => exact ⟨0, rfl, ⟨by omega, by omega⟩, ⟨L0.out⟩⟩
          case round =>
            clear L0
            obtain ⟨k, rfl, HJ, HL⟩ := hrel
            obtain ⟨k2, rfl⟩ : ∃ k2, gk = k2 + 1 := ⟨gk - 1, by have := HJ.out; omega⟩
            by_cases ck : k < N
            · have b2 : decide ((k : Int) < (N : Int)) = true := decide_eq_true (by omega)
              have b3 : decide (k < N) = true := decide_eq_true ck
              have hk64 : k < 64 := by have := HN.out; omega
              have x0 : ((k : Int) < 64) = True := eq_true (by omega)
              have xt : ((k : Int)).toNat = k := by omega
              have KU := Lib.hid (fun W (hW : PU W bp p2) => up_pl bp k p2 _ W hW hk64)
              have l1 := sel_len (fun i => p2.s.testBit i) k
              have l2 := sel_len (upB p2) k
              have hup : upB p2 k = (!p2.s.testBit k && decide (p2.wk k ≤ p2.t)) := rfl
              have HS1 := Lib.hid (sel_yes (fun i => p2.s.testBit i) k)
              have HS0 := Lib.hid (sel_no (fun i => p2.s.testBit i) k)
              have HU1 := Lib.hid (sel_yes (upB p2) k)
              have HU0 := Lib.hid (sel_no (upB p2) k)
              have cs := PQ.cs HL.out.sp.u k hk64
              obtain ⟨sb, hsb⟩ : ∃ x, p2.s.testBit k = x := ⟨_, rfl⟩
              obtain ⟨ub, hub⟩ : ∃ x, upB p2 k = x := ⟨_, rfl⟩
              rw [hsb] at cs
              rw [hub] at KU
              rw [hsb, hub] at hup
              obtain ⟨la, hla⟩ : ∃ l, selL (fun i => p2.s.testBit i) k = l := ⟨_, rfl⟩
              obtain ⟨lb, hlb⟩ : ∃ l, selL (upB p2) k = l := ⟨_, rfl⟩
              rw [hla] at l1
              rw [hlb] at l2
              rw [hla, hlb] at HL
              rw [hla] at HS1 HS0
              rw [hlb] at HU1 HU0
              obtain ⟨A6, k6, hv6⟩ := Kd.R_slice HL.out.o6
              obtain ⟨A7, k7, hv7⟩ := Kd.R_slice HL.out.o7
              subst hv6 hv7
              have LM1 : Hid (la.length ≤ 64) := Lib.hid (by omega)
              have LM2 : Hid (lb.length ≤ 64) := Lib.hid (by omega)
              cases sb with
              | true =>
                obtain rfl : ub = false := hup
                have HA2 := Lib.hid (HS1.out hsb)
                have HB2 := Lib.hid (HU0.out hub)
                clear HS1 HS0 HU1 HU0 hsb hub hla hlb l1 l2
                go_wp2_with (first | ((try clear cs); (with_reducible refine gate_builtin (b := .append) (xs := #[.tmp 112, .tmp 114]) rfl ?_); at_builtin; refine Kd.R_append (Kd.int .i64) (w0 := ?wza) B0 rfl (.tmp 112) (.tmp 114) 30 3 (.int .i64 0) 8 rfl Tryd.underlying30 info_int rfl (by decide) (by omega) _ (la) (k : Int) [.int .i64 (k : Int)] (fun k => True ∧ some k ≠ (Value.slice A7 (lb).length k7).ownBlock) (fun _ => False) rfl rfl ?aPa (fun _ hk => hk.elim) ?aFa ?aOa ?aBa ?aSa ?aLa ?_; (case aPa => exact rfl); (case aBa => exact Below.refl _ _); (case aFa => exact HL.out.new6); (case aOa => exact HL.out.o6); (case aSa => exact HL.out.ap.2.2); (case aLa => have := LM1.out; omega); intro v113 w5 ho hb hg hat; have n_ := Lib.hid (HL.out.app6 ho hb hg hat); clear HL ho hb hg hat; have HL := n_; clear n_) | (go_at_call 62; refine (KU.out _ HL.out.sp.u).mono ?_; rintro e w6 ⟨rfl, hb⟩; have n_ := Lib.hid (HL.out.below hb); clear HL hb KU; have HL := n_; clear n_))
                go_roundg k2
                case measure => have := HJ.out; omega
                case rel => exact ⟨k + 1, by go_num, ⟨by have := HJ.out; omega, by have := HJ.out; omega⟩, ⟨by rw [HA2.out, HB2.out]; exact HL.out⟩⟩
              | false =>
                cases ub with
                | false =>
                  have HA2 := Lib.hid (HS0.out hsb)
                  have HB2 := Lib.hid (HU0.out hub)
                  clear HS1 HS0 HU1 HU0 hsb hub hup hla hlb l1 l2
                  go_wp2_with (go_at_call 62; refine (KU.out _ HL.out.sp.u).mono ?_; rintro e w6 ⟨rfl, hb⟩; have n_ := Lib.hid (HL.out.below hb); clear HL hb KU; have HL := n_; clear n_)
                  go_roundg k2
                  case measure => have := HJ.out; omega
                  case rel => exact ⟨k + 1, by go_num, ⟨by have := HJ.out; omega, by have := HJ.out; omega⟩, ⟨by rw [HA2.out, HB2.out]; exact HL.out⟩⟩
                | true =>
                  have HA2 := Lib.hid (HS0.out hsb)
                  have HB2 := Lib.hid (HU1.out hub)
                  clear HS1 HS0 HU1 HU0 hsb hub hup hla hlb l1 l2
                  go_wp2_with (first | ((try clear cs); (with_reducible refine gate_builtin (b := .append) (xs := #[.tmp 119, .tmp 121]) rfl ?_); at_builtin; refine Kd.R_append (Kd.int .i64) (w0 := ?wzb) B0 rfl (.tmp 119) (.tmp 121) 30 3 (.int .i64 0) 8 rfl Tryd.underlying30 info_int rfl (by decide) (by omega) _ (lb) (k : Int) [.int .i64 (k : Int)] (fun k => True ∧ some k ≠ (Value.slice A6 (la).length k6).ownBlock) (fun _ => False) rfl rfl ?aPb (fun _ hk => hk.elim) ?aFb ?aOb ?aBb ?aSb ?aLb ?_; (case aPb => exact rfl); (case aBb => exact Below.refl _ _); (case aFb => exact HL.out.new7); (case aOb => exact HL.out.o7); (case aSb => exact HL.out.ap.2.2); (case aLb => have := LM2.out; omega); intro v113 w5 ho hb hg hat; have n_ := Lib.hid (HL.out.app7 ho hb hg hat); clear HL ho hb hg hat; have HL := n_; clear n_) | ((try clear cs); go_at_call 62; refine (KU.out _ HL.out.sp.u).mono ?_; rintro e w6 ⟨rfl, hb⟩; have n_ := Lib.hid (HL.out.below hb); clear HL hb KU; have HL := n_; clear n_))
                  go_roundg k2
                  case measure => have := HJ.out; omega
                  case rel => exact ⟨k + 1, by go_num, ⟨by have := HJ.out; omega, by have := HJ.out; omega⟩, ⟨by rw [HA2.out, HB2.out]; exact HL.out⟩⟩
            · obtain rfl : k = N := by have := HJ.out; omega
              have b2 : decide ((k : Int) < (k : Int)) = false := decide_eq_false (by omega)
              have b3 : decide (k < k) = false := decide_eq_false ck
              have hpn := HPN3.out
              have hl1 : (selL (fun i => p2.s.testBit i) k).length ≤ 64 := Nat.le_trans (sel_len _ _) (by have := HN.out; omega)
              have hl2 : (selL (upB p2) k).length ≤ 64 := Nat.le_trans (sel_len _ _) (by have := HN.out; omega)
              have e1 := asleep_is p2 HL.out.sp.ok HL.out.sp.inn
              have e2 := awake_is p2 HL.out.sp.ok
              rw [hpn] at e1 e2
              have KA : Hid (∀ W, QT W b p2 → PlOk p2 → Calls Tryd.prog 55 #[.pointer (some ⟨b, 0, none⟩)] W fun e w' => e = .returned (.int .u64 (awkS p2 k : Nat)) ∧ Below W.heap.size W w') := Lib.hid (fun W h1 h2 => by have h := Awake_q b p2 W h1 h2; rw [hpn] at h; exact h)
              have HPN4 := Lib.hid hpn
              obtain ⟨la, hla⟩ : ∃ l, selL (fun i => p2.s.testBit i) k = l := ⟨_, rfl⟩
              obtain ⟨lb, hlb⟩ : ∃ l, selL (upB p2) k = l := ⟨_, rfl⟩
              obtain ⟨sv, hsv⟩ : ∃ l, p2.s = l := ⟨_, rfl⟩
              obtain ⟨av, hav⟩ : ∃ l, awkS p2 k = l := ⟨_, rfl⟩
              rw [hla] at e1 hl1
              rw [hlb] at e2 hl2
              rw [hla, hlb] at HL
              obtain ⟨A6, k6, hv6⟩ := Kd.R_slice HL.out.o6
              obtain ⟨A7, k7, hv7⟩ := Kd.R_slice HL.out.o7
              subst hv6 hv7
              rw [hsv] at e1
              rw [hav] at e2 KA
              have HSV := Lib.hid hsv
              have HL1 := Lib.hid hl1
              have HL2 := Lib.hid hl2
              have HE1 := Lib.hid e1
              have HE2 := Lib.hid e2
              have KAS : Hid (∀ W, QT W b p2 → PlOk p2 → Calls Tryd.prog 56 #[.pointer (some ⟨b, 0, none⟩)] W fun e w' => e = .returned (.int .u64 (sv : Nat)) ∧ W = w') := Lib.hid (fun W h1 h2 => by have h := Asleep_q b p2 W h1 h2; rw [HSV.out] at h; exact h)
              clear hla hlb hav hsv hl1 hl2 e1 e2 hpn ck HSV
              have tok1 : True := trivial
              go_wp2_with (first
                | (go_at_call 56; refine (KAS.out _ HL.out.sp.q HL.out.sp.ok).mono ?_; rintro e w8 ⟨rfl, rfl⟩)
                | (go_at_call 55; refine (KA.out _ HL.out.sp.q HL.out.sp.ok).mono ?_; rintro e w9 ⟨rfl, hb⟩; have n_ := Lib.hid (HL.out.below hb); clear HL hb; have HL := n_; clear n_)
                | (have _t := tok1; go_at_call 24; refine (HL.out.of6 HL1.out HE1.out).mono ?_; rintro e w2 ⟨rfl, rfl⟩; clear tok1 _t; have tok2 : True := trivial)
                | (have _t := tok2; go_at_call 24; refine (HL.out.of7 HL2.out HE2.out).mono ?_; rintro e w2 ⟨rfl, rfl⟩; clear tok2 _t))
              go_roundg k1
              case measure => have := HK.out; omega
              case rel =>
                have WI := wrapB (show (i : Int) + 1 = ((i + 1 : Nat) : Int) by omega) (by omega) (by have := HI40.out; omega)
                exact ⟨i + 1, p2, by first | rw [WI.2] | rw [WI.1], ⟨by have := HK.out; have := HI40.out; omega⟩, ⟨HPN4.out⟩, ⟨HL.out.sp⟩⟩
        · have HX := Lib.hid HI.out.be
          clear HI
          by_cases c2 : i < len
          · have c3 : i = 40 := by have := HK.out; omega
            subst c3
            have d1 : decide ((40 : Int) < (len : Int)) = true := decide_eq_true (by omega)
            have d2 : decide (40 < len) = true := decide_eq_true c2
            clear HC c1
            go_wp2_with (go_at_call 51; refine (HW.out _).mono ?_; rintro e w3 ⟨rfl, hb3⟩; have HB3 := Lib.hid (below_step HX.out hb3); clear hb3)
            go_ret
            exact ⟨rfl, HB3.out⟩
          · have d1 : decide ((i : Int) < (len : Int)) = false := decide_eq_false (by omega)
            have d2 : decide (i < len) = false := decide_eq_false c2
            clear HC c1
            go_wp2_with (go_at_call 51; refine (HW.out _).mono ?_; rintro e w3 ⟨rfl, hb3⟩; have HB3 := Lib.hid (below_step HX.out hb3); clear hb3)
            go_ret
            exact ⟨rfl, HB3.out⟩
end Go.Proofs.YtmjkgnlmdcmdbaaDoor.Power
