/- The law of the notes: are events the same (of two lists that are); four lists that grow side by side; Tick. -/
import Derived.Test.YteeaimbinhmjfaaHist9
import Derived.Test.YteeaimbinhmjfaaPHistNotesx1
namespace Go.Proofs.Yteeaimbinhmjfaa.Hist
open Go.RowKit Go.Proofs.Yteeaimbinhmjfaa.Flat Go.Proofs.YteeaimbinhmjfaaW.PrintWords Go.Proofs.YteeaimbinhmjfaaW.PrintLast Go.Proofs.YteeaimbinhmjfaaW.PrintMore
set_option linter.unusedVariables false
set_option linter.unusedSimpArgs false
set_option maxRecDepth 100000
theorem refl31 {c : List Value} (h : Flat.Leaves EL c) (w : World) : (Op.equalIn 10000 31 (.agg c.toArray) (.agg c.toArray)).run Try.prog w = .ok true w := by
  obtain ⟨_, d0, rfl, ⟨x0, rfl, -⟩, h0⟩ := Flat.Leaves.cons h
  obtain ⟨_, d1, rfl, ⟨x1, rfl, -⟩, h1⟩ := Flat.Leaves.cons h0
  obtain ⟨_, d2, rfl, ⟨x2, rfl, -⟩, h2⟩ := Flat.Leaves.cons h1
  obtain ⟨_, d3, rfl, ⟨x3, rfl, -⟩, h3⟩ := Flat.Leaves.cons h2
  obtain ⟨_, d4, rfl, ⟨x4, rfl, -⟩, h4⟩ := Flat.Leaves.cons h3
  obtain ⟨_, d5, rfl, ⟨x5, rfl, -⟩, h5⟩ := Flat.Leaves.cons h4
  obtain ⟨_, d6, rfl, ⟨x6, rfl, -⟩, h6⟩ := Flat.Leaves.cons h5
  obtain ⟨_, d7, rfl, ⟨x7, rfl, -⟩, h7⟩ := Flat.Leaves.cons h6
  obtain ⟨_, d8, rfl, ⟨x8, rfl, -⟩, h8⟩ := Flat.Leaves.cons h7
  obtain ⟨_, d9, rfl, ⟨x9, rfl⟩, h9⟩ := Flat.Leaves.cons h8
  obtain ⟨_, d10, rfl, ⟨x10, rfl, -⟩, h10⟩ := Flat.Leaves.cons h9
  obtain ⟨_, d11, rfl, ⟨x11, rfl, -⟩, h11⟩ := Flat.Leaves.cons h10
  obtain ⟨_, d12, rfl, ⟨x12, rfl, -⟩, h12⟩ := Flat.Leaves.cons h11
  obtain ⟨_, d13, rfl, ⟨x13, rfl, -⟩, h13⟩ := Flat.Leaves.cons h12
  obtain ⟨_, d14, rfl, ⟨x14, rfl, -⟩, h14⟩ := Flat.Leaves.cons h13
  obtain ⟨_, d15, rfl, ⟨x15, rfl, -⟩, h15⟩ := Flat.Leaves.cons h14
  obtain ⟨_, d16, rfl, ⟨x16, rfl, -⟩, h16⟩ := Flat.Leaves.cons h15
  obtain ⟨_, d17, rfl, ⟨x17, rfl, -⟩, h17⟩ := Flat.Leaves.cons h16
  obtain ⟨_, d18, rfl, ⟨x18, rfl, -⟩, h18⟩ := Flat.Leaves.cons h17
  obtain ⟨_, d19, rfl, ⟨x19, rfl, -⟩, h19⟩ := Flat.Leaves.cons h18
  obtain ⟨_, d20, rfl, ⟨x20, rfl, -⟩, h20⟩ := Flat.Leaves.cons h19
  obtain ⟨_, d21, rfl, ⟨x21, rfl, -⟩, h21⟩ := Flat.Leaves.cons h20
  obtain ⟨_, d22, rfl, ⟨x22, rfl, -⟩, h22⟩ := Flat.Leaves.cons h21
  obtain ⟨_, d23, rfl, ⟨x23, rfl⟩, h23⟩ := Flat.Leaves.cons h22
  obtain rfl := Flat.Leaves.nil h23
  have e := PHistNotes.eqA31 9997 w x0 x0 x1 x1 x2 x2 x3 x3 x4 x4 x5 x5 x6 x6 x7 x7 x8 x8 x9 x9 x10 x10 x11 x11 x12 x12 x13 x13 x14 x14 x15 x15 x16 x16 x17 x17 x18 x18 x19 x19 x20 x20 x21 x21 x22 x22 x23 x23
  simp only [beq_self_eq_true, Bool.and_self] at e
  exact e
theorem setS_kind (s : Int) (c : List Value) (j : Nat) (hj : 0 < j) : iv (setS s c) j = iv c j := by
  unfold iv setS
  rw [List.getElem?_set_ne (by omega)]
set_option maxHeartbeats 2000000 in
theorem Same_any (A1 A2 : Option Addr) (c1 c2 : Nat) (l : List (List Value)) (W : World) (h1 : E24.C W A1 l.length l) (h2 : E24.C W A2 l.length l) (hl : l.length ≤ 128) :
    Calls Try.prog 10 #[.slice A1 l.length c1, .slice A2 l.length c2] W fun e w' => e = .returned (.bool true) ∧ Below W.heap.size W w' := by
  obtain ⟨n, hn⟩ : ∃ n, l.length = n := ⟨_, rfl⟩
  rw [hn] at h1 h2 hl ⊢
  have H1 := Lib.hid h1
  have H2 := Lib.hid h2
  clear h1 h2 hn
  go_enter Try.func10, Try.ntmps10
  go_wp2
  go_loopg [5] (n + 1) (fun kq v5 w' => ∃ i : Nat, v5 = .int .i64 i ∧ Aside0 (i + kq = n + 1 ∧ 1 ≤ kq) ∧ Aside0 (Below W.heap.size W w'))
  case atStart => exact ⟨0, rfl, ⟨by omega, by omega⟩, ⟨Below.refl _ _⟩⟩
  case round =>
    obtain ⟨i, rfl, HI, HB⟩ := hrel
    obtain ⟨k1, rfl⟩ : ∃ k1, gk = k1 + 1 := ⟨gk - 1, by have := HI.out; omega⟩
    by_cases ci : i < n
    · have d1 : decide ((i : Int) < (n : Int)) = true := decide_eq_true (by omega)
      have d2 : decide (i < n) = true := decide_eq_true ci
      have x0 : (0 ≤ (i : Int) ∧ (i : Int) < (n : Int)) = True := eq_true ⟨by omega, by omega⟩
      have y0 : ((i : Int) < (n : Int)) = True := eq_true (by omega)
      have xt : ((i : Int)).toNat = i := by omega
      obtain ⟨ad1, e1, hL, hc1⟩ := ev_at H1.out i ci
      obtain ⟨ad2, e2, -, hc2⟩ := ev_at H2.out i ci
      subst e1 e2
      have HC1 : Hid (∀ W', Below W.heap.size W W' → ∀ j u, (l.getD i [])[j]? = some u → W'.cell? ((ad1.add (i * 24)).add j) = some u) := Lib.hid (fun W' hW j u hu => by
        have h := hc1 j u hu
        rw [add_add]
        exact (hW.cell (World.block_lt_of_cell? W _ h)).trans h)
      have HC2 : Hid (∀ W', Below W.heap.size W W' → ∀ j u, (l.getD i [])[j]? = some u → W'.cell? ((ad2.add (i * 24)).add j) = some u) := Lib.hid (fun W' hW j u hu => by
        have h := hc2 j u hu
        rw [add_add]
        exact (hW.cell (World.block_lt_of_cell? W _ h)).trans h)
      have HLV := Lib.hid hL
      have hrf := refl31 hL
      clear hL hc1 hc2
      generalize l.getD i [] = e at HC1 HC2 HLV hrf
      go_upto_region 6 with fail
      refine start_ (n := 9) (S := fun w' => True) (ds := []) #[false, false, false, false, false, false, false, false, false] (by kernel_rfl) rfl rfl (trivial) (fun hHeld => ?_)
      have n_ := Lib.hid (below_drew1 HB.out)
      clear HB
      have HB := n_
      clear n_
      generalize wr.drew = w5 at HB hHeld ⊢
      refine pure_ (i := 0) (N := some 17) (v := ?_) (a' := ?_) #[true, false, false, false, false, false, false, false, false] rfl rfl (by kernel_rfl) (fun _ _ _ h => h) (Or.inl ⟨by rfl, ?_⟩) ?_ ?_
      rotate_left
      · intro w'
        go_simp
        with_reducible rfl
      rotate_left
      · simp only [Act.put, List.setIfInBounds_toArray, List.set_cons_zero, List.set_cons_succ, i64_w, i32_w]
        rfl
      refine pure_ (i := 1) (N := some 18) (v := ?_) (a' := ?_) #[true, true, false, false, false, false, false, false, false] rfl rfl (by kernel_rfl) (fun _ _ _ h => h) (Or.inl ⟨by rfl, ?_⟩) ?_ ?_
      rotate_left
      · intro w'
        go_simp
        with_reducible rfl
      rotate_left
      · simp only [Act.put, List.setIfInBounds_toArray, List.set_cons_zero, List.set_cons_succ, i64_w, i32_w]
        rfl
      refine pure_ (i := 2) (N := some 19) (v := ?_) (a' := ?_) #[true, true, true, false, false, false, false, false, false] rfl rfl (by kernel_rfl) (fun _ _ _ h => h) (Or.inl ⟨by rfl, ?_⟩) ?_ ?_
      rotate_left
      · intro w'
        go_simp
        with_reducible rfl
      rotate_left
      · simp only [Act.put, List.setIfInBounds_toArray, List.set_cons_zero, List.set_cons_succ, i64_w, i32_w]
        rfl
      refine pure_ (i := 4) (N := some 21) (v := ?_) (a' := ?_) #[true, true, true, false, true, false, false, false, false] rfl rfl (by kernel_rfl) (fun _ _ _ h => h) (Or.inl ⟨by rfl, ?_⟩) ?_ ?_
      rotate_left
      · intro w'
        go_simp
        with_reducible rfl
      rotate_left
      · simp only [Act.put, List.setIfInBounds_toArray, List.set_cons_zero, List.set_cons_succ, i64_w, i32_w]
        rfl
      refine pure_ (i := 5) (N := some 22) (v := ?_) (a' := ?_) #[true, true, true, false, true, true, false, false, false] rfl rfl (by kernel_rfl) (fun _ _ _ h => h) (Or.inl ⟨by rfl, ?_⟩) ?_ ?_
      rotate_left
      · intro w'
        go_simp
        with_reducible rfl
      rotate_left
      · simp only [Act.put, List.setIfInBounds_toArray, List.set_cons_zero, List.set_cons_succ, i64_w, i32_w]
        rfl
      refine pure_ (i := 6) (N := some 23) (v := ?_) (a' := ?_) #[true, true, true, false, true, true, true, false, false] rfl rfl (by kernel_rfl) (fun _ _ _ h => h) (Or.inl ⟨by rfl, ?_⟩) ?_ ?_
      rotate_left
      · intro w'
        go_simp
        with_reducible rfl
      rotate_left
      · simp only [Act.put, List.setIfInBounds_toArray, List.set_cons_zero, List.set_cons_succ, i64_w, i32_w]
        rfl
      refine join_ (σ := Unit) 1 #[true, true, true, true, true, true, true, true, false] (fun _ => [(20, .agg e.toArray), (24, .agg e.toArray)]) (fun _ w' => w5 = w') ?_ ?_
      rotate_left
      · intro hCont
        refine two_ (i := 3) (j := 7) (Ni := some 20) (Nj := some 24) #[true, true, true, true, true, true, true, false, false] #[true, true, true, false, true, true, true, true, false] rfl rfl rfl rfl (by kernel_rfl) (by decide) (by decide) (fun K hK => ?_) (fun K hK => ?_)
        · skip
          refine value_ (w1 := _) (v := _) (by rfl) rfl (exec_load (.tmp 19) rfl rfl e (Flat.Leaves.len HLV.out) (HC1.out _ HB.out)) ?_
          refine hK.out _ _ (trivial) (fun hHeld => ?_)
          clear hK K
          refine norm_ (a' := ?_) ?_ ?_
          rotate_left
          · show Act.put _ (some 20) _ = _
            simp only [Act.put, List.setIfInBounds_toArray, List.set_cons_zero, List.set_cons_succ, i64_w, i32_w]
            rfl
          refine one_ (i := 7) (N := some 24) #[true, true, true, true, true, true, true, true, false] rfl rfl (by kernel_rfl) (by decide) (fun K hK => ?_)
          refine value_ (w1 := _) (v := _) (by rfl) rfl (exec_load (.tmp 23) rfl rfl e (Flat.Leaves.len HLV.out) (HC2.out _ HB.out)) ?_
          refine hK.out _ _ (trivial) (fun hHeld => ?_)
          clear hK K
          refine norm_ (a' := ?_) ?_ ?_
          rotate_left
          · show Act.put _ (some 24) _ = _
            simp only [Act.put, List.setIfInBounds_toArray, List.set_cons_zero, List.set_cons_succ, i64_w, i32_w]
            rfl
          exact norm_ (by simp only [putAll, Act.put, List.setIfInBounds_toArray, List.set_cons_zero, List.set_cons_succ]) (hCont () _ rfl)
        · skip
          refine value_ (w1 := _) (v := _) (by rfl) rfl (exec_load (.tmp 23) rfl rfl e (Flat.Leaves.len HLV.out) (HC2.out _ HB.out)) ?_
          refine hK.out _ _ (trivial) (fun hHeld => ?_)
          clear hK K
          refine norm_ (a' := ?_) ?_ ?_
          rotate_left
          · show Act.put _ (some 24) _ = _
            simp only [Act.put, List.setIfInBounds_toArray, List.set_cons_zero, List.set_cons_succ, i64_w, i32_w]
            rfl
          refine one_ (i := 3) (N := some 20) #[true, true, true, true, true, true, true, true, false] rfl rfl (by kernel_rfl) (by decide) (fun K hK => ?_)
          refine value_ (w1 := _) (v := _) (by rfl) rfl (exec_load (.tmp 19) rfl rfl e (Flat.Leaves.len HLV.out) (HC1.out _ HB.out)) ?_
          refine hK.out _ _ (trivial) (fun hHeld => ?_)
          clear hK K
          refine norm_ (a' := ?_) ?_ ?_
          rotate_left
          · show Act.put _ (some 20) _ = _
            simp only [Act.put, List.setIfInBounds_toArray, List.set_cons_zero, List.set_cons_succ, i64_w, i32_w]
            rfl
          exact norm_ (by simp only [putAll, Act.put, List.setIfInBounds_toArray, List.set_cons_zero, List.set_cons_succ]) (hCont () _ rfl)
      rintro sF _ rfl
      have hHeld : True := trivial
      refine norm_ (a' := ?_) ?_ ?_
      rotate_left
      · simp only [putAll, Act.put, List.setIfInBounds_toArray, List.set_cons_zero, List.set_cons_succ]
        rfl
      refine pure_ (i := 8) (N := some 25) (v := ?_) (a' := ?_) #[true, true, true, true, true, true, true, true, true] rfl rfl (by kernel_rfl) (fun _ _ _ h => h) (Or.inl ⟨by rfl, ?_⟩) ?_ ?_
      rotate_left
      · intro w'
        go_simp
        with_reducible rfl
      rotate_left
      · simp only [Act.put, List.setIfInBounds_toArray, List.set_cons_zero, List.set_cons_succ, i64_w, i32_w]
        rfl
      refine done_ (by kernel_rfl) ?_
      clear hHeld hrf
      go_wp2
      go_roundg k1
      case measure => have := HI.out; omega
      case rel => exact ⟨i + 1, by go_num, ⟨by have := HI.out; omega, by have := HI.out; omega⟩, ⟨HB.out⟩⟩
    · obtain rfl : i = n := by have := HI.out; omega
      have d1 : decide ((i : Int) < (i : Int)) = false := decide_eq_false (by omega)
      have d2 : decide (i < i) = false := decide_eq_false ci
      go_wp2
      go_ret
      exact ⟨rfl, HB.out⟩
theorem Tick_any (W : World) (g : Nat) (v : Value) (s : Int) (hlg : W.heap[g]? = some (.cells #[v, .int .i64 s] 37 (0, 0))) (h0 : 0 ≤ s) (h1 : s ≤ 1000) :
    Calls Try.prog 8 #[.pointer (some ⟨g, 0, none⟩)] W fun e w' => e = .returned (.tuple #[]) ∧ w'.heap[g]? = some (.cells #[v, .int .i64 (s + 1)] 37 (0, 0)) ∧ Chg (fun k => k = g) W w' := by
  have HLG := Lib.hid hlg
  have c1 : W.cell? ⟨g, 1, none⟩ = some (.int .i64 s) := (blk_cell hlg 1).trans rfl
  have f1 := blk_frozen hlg 1
  have WA := wrapB (show s + 1 = s + 1 from rfl) (by omega) (by omega)
  have wa1 := WA.1
  have wa2 := WA.2
  clear hlg h0 h1 WA
  go_enter Try.func8, Try.ntmps8
  go_wp2
  go_end0
  exact ⟨rfl, blk_put HLG.out 1 (.int .i64 (s + 1)) rfl, (Chg.refl _ _).set ⟨g, 1, none⟩ _ (.inl rfl)⟩
/-- four lists that grow side by side, each in a block of its own -/
structure Fam (w : World) (g B : Nat) (v : Nat → Value) (l : Nat → List (List Value)) : Prop where
  r : ∀ i, i < 4 → E24.R 31 w B (fun k => k ≠ g ∧ ∀ j, j < 4 → j ≠ i → some k ≠ (v j).ownBlock) (v i) (l i)
def upd {α : Type} (f : Nat → α) (i : Nat) (x : α) : Nat → α := fun j => if j = i then x else f j
theorem upd_same {α : Type} (f : Nat → α) (i : Nat) (x : α) : upd f i x i = x := if_pos rfl
theorem upd_other {α : Type} (f : Nat → α) (i j : Nat) (x : α) (h : j ≠ i) : upd f i x j = f j := if_neg h
section
variable {w w1 : World} {g B : Nat} {v : Nat → Value} {l : Nat → List (List Value)}
theorem Fam.below (h : Fam w g B v l) (hb : Below w.heap.size w w1) : Fam w1 g B v l := ⟨fun i hi => Kd.R_below (h.r i hi) hb⟩
theorem Fam.tick (h : Fam w g B v l) (hc : Chg (fun k => k = g) w w1) : Fam w1 g B v l := ⟨fun i hi => R_chg hc (h.r i hi) (fun k hk => hk.1)⟩
theorem Fam.app (h : Fam w g B v l) (i : Nat) (hi : i < 4) {v1 : Value} {l1 : List (List Value)} (hch : Chg (fun k => k = g ∨ some k = (v i).ownBlock) w w1) (ho : E24.R 31 w1 B (fun k => k ≠ g ∧ ∀ j, j < 4 → j ≠ i → some k ≠ (v j).ownBlock) v1 l1) (hat : v1.ownBlock = (v i).ownBlock ∨ ∃ b, v1.ownBlock = some b ∧ w.heap.size ≤ b) : Fam w1 g B (upd v i v1) (upd l i l1) := by
  refine ⟨fun j hj => ?_⟩
  by_cases hji : j = i
  · subst hji
    rw [upd_same, upd_same]
    exact Kd.R_mono ho (fun k hk => ⟨hk.1, fun m hm hne => by rw [upd_other _ _ _ _ hne]; exact hk.2 m hm hne⟩)
  · rw [upd_other _ _ _ _ hji, upd_other _ _ _ _ hji]
    have h1 := Kd.R_bound (h.r j hj)
    have h2 : E24.R 31 w1 B _ (v j) (l j) := Kd.R_move h1 (fun k hk => hch.block k hk.2.2.1 (fun hx => by
      rcases hx with hx | hx
      · exact hk.1.1 hx
      · exact hk.1.2 i hi (fun e => hji e.symm) hx))
    refine Kd.R_mono h2 (fun k hk => ⟨hk.1.1, fun m hm hne => ?_⟩)
    by_cases hmi : m = i
    · subst hmi
      rw [upd_same]
      rcases hat with hat | ⟨b, hb, hle⟩
      · rw [hat]; exact hk.1.2 m hm hne
      · rw [hb]; intro e; injection e with e; have := hk.2.2.1; omega
    · rw [upd_other _ _ _ _ hmi]; exact hk.1.2 m hm hne
theorem Fam.fresh (h : Fam w g B v l) (hg : g < w.heap.size) (i : Nat) : ∀ k, w.heap.size ≤ k → k ≠ g ∧ ∀ j, j < 4 → j ≠ i → some k ≠ (v j).ownBlock := fun k hk => ⟨by omega, fun j hj _ e => by have := Kd.R_lt (h.r j hj) k e.symm; omega⟩
theorem Fam.chg (h : Fam w g B v l) (i : Nat) (hg : w.grownBy w1 (v i).ownBlock) : Chg (fun k => k = g ∨ some k = (v i).ownBlock) w w1 := (Chg.refl _ _).grown hg (fun k hk => .inl (.inr hk.symm))
theorem Fam.ne (h : Fam w g B v l) (i : Nat) (hi : i < 4) : some g ≠ (v i).ownBlock := fun e => ((h.r i hi).1 g e.symm).1 rfl
theorem Fam.base (h : Fam w g B v l) (i : Nat) (hi : i < 4) : ∀ k, (v i).ownBlock = some k → B ≤ k := Kd.R_base (h.r i hi)
theorem Fam.nil (w : World) (g B : Nat) : Fam w g B (fun _ => .slice none 0 0) (fun _ => []) := ⟨fun _ _ => Kd.R_nil _ _ _ _ _⟩
end
end Go.Proofs.Yteeaimbinhmjfaa.Hist
