/- Law 42's plain plant: its cells; what is used and left, node by node. -/
import Derived.Test.YtmjkgnlmdcmdbaaDoorPow6
namespace Go.Proofs.YtmjkgnlmdcmdbaaDoor.Power
open Go.RowKit Go.Proofs.YtmjkgnlmdcmdbaaDoorW.PrintWords Go.Proofs.YtmjkgnlmdcmdbaaDoorW.PrintLast Go.Proofs.YtmjkgnlmdcmdbaaDoorW.PrintMore Go.Proofs.YtmjkgnlmdcmdbaaDoor.Row Go.Proofs.YtmjkgnlmdcmdbaaDoor.Sets Go.Proofs.YtmjkgnlmdcmdbaaDoor.Node Go.Proofs.YtmjkgnlmdcmdbaaDoor.Each
set_option linter.unusedVariables false
set_option linter.unusedSimpArgs false
set_option maxRecDepth 100000
theorem at_rank_up (p : Nat → Bool) (n : Nat) (hp : p n = true) : ∀ d, ((List.range (n + 1 + d)).filter p)[rank p n]? = some n
  | 0 => by
    rw [Nat.add_zero, List.range_succ, List.filter_append, List.getElem?_append_right (by unfold rank; omega)]
    have e : rank p n - ((List.range n).filter p).length = 0 := by unfold rank; omega
    rw [e]
    simp [hp]
  | d + 1 => by
    have ih := at_rank_up p n hp d
    rw [← Nat.add_assoc, List.range_succ, List.filter_append, List.getElem?_append_left (List.getElem?_eq_some_iff.1 ih).1]
    exact ih
theorem at_rank (s n : Nat) (hn : n < 64) (hb : s.testBit n = true) : (nodes s).getD (rank (fun i => s.testBit i) n) 0 = n := by
  have := at_rank_up (fun i => s.testBit i) n hb (63 - n)
  rw [show n + 1 + (63 - n) = 64 by omega] at this
  rw [List.getD_eq_getElem?_getD]
  unfold nodes
  rw [this]
  rfl
/-- Use, node by node -/
def useN (p : Pl) (s : Nat) : Nat → Pl × Int
  | 0 => (p, p.t)
  | k + 1 => if s.testBit k = true then (useStep (useN p s k).1 k, later (useN p s k).2 ((useStep (useN p s k).1 k).wk k)) else useN p s k
theorem useN_at (p : Pl) (s : Nat) : ∀ n, n ≤ 64 → useN p s n = useAt p s (rank (fun i => s.testBit i) n)
  | 0, _ => rfl
  | n + 1, hn => by
    have ih := useN_at p s n (by omega)
    unfold useN
    rw [rank_succ]
    by_cases hb : s.testBit n = true
    · rw [if_pos hb, if_pos hb, ih]
      show _ = (useStep (useAt p s (rank _ n)).1 ((nodes s).getD (rank _ n) 0), later (useAt p s (rank _ n)).2 ((useStep (useAt p s (rank _ n)).1 ((nodes s).getD (rank _ n) 0)).wk ((nodes s).getD (rank _ n) 0)))
      rw [at_rank s n (by omega) hb]
    · rw [if_neg hb, if_neg hb]; exact ih
theorem rank_out2 (p : Nat → Bool) (n m : Nat) (hm : n ≤ m) (h : ∀ j, n ≤ j → j < m → p j = false) : rank p m = rank p n := by
  induction m with
  | zero => obtain rfl : n = 0 := by omega
            rfl
  | succ m ih =>
    by_cases e : n = m + 1
    · subst e; rfl
    · rw [rank_succ, h m (by omega) (by omega), ih (by omega) (fun j h1 h2 => h j h1 (by omega))]
      simp
theorem rank_high (s N : Nat) (hN : N ≤ 64) (h : ∀ i, i < 64 → s.testBit i = true → i < N) : rank (fun i => s.testBit i) N = lenS s := by
  have e : lenS s = rank (fun i => s.testBit i) 64 := rfl
  rw [e]
  exact (rank_out2 (fun i => s.testBit i) N 64 hN (fun j h1 h2 => by
    show s.testBit j = false
    cases hb : s.testBit j
    · rfl
    · have := h j h2 hb; omega)).symm
theorem useN_all (p : Pl) (s N : Nat) (hN : N ≤ 64) (h : ∀ i, i < 64 → s.testBit i = true → i < N) : useN p s N = useAt p s (lenS s) := by
  rw [useN_at p s N hN, rank_high s N hN h]
theorem useN_ok (p : Pl) (s k : Nat) (hk : k ≤ 64) (ho : PlOk p) : PlOk (useN p s k).1 := by
  rw [useN_at p s k hk]; exact useAt_ok p s ho _
theorem useN_same (p : Pl) (s k : Nat) (hk : k ≤ 64) : (useN p s k).1.t = p.t ∧ (useN p s k).1.W = p.W ∧ (useN p s k).1.N = p.N := by
  rw [useN_at p s k hk]; have h := useAt_same p s (rank (fun i => s.testBit i) k); exact ⟨h.2.2.2.2.1, h.2.1, h.2.2.2.1⟩
/-- since when, node by node -/
def snN (p : Pl) (s : Nat) : Nat → Nat → Int
  | 0 => p.sn
  | k + 1 => if s.testBit k = true then Power.upd (snN p s k) k p.t else snN p s k
theorem snN_at (p : Pl) (s : Nat) : ∀ n, n ≤ 64 → snN p s n = snS p s (rank (fun i => s.testBit i) n)
  | 0, _ => rfl
  | n + 1, hn => by
    have ih := snN_at p s n (by omega)
    unfold snN
    rw [rank_succ]
    by_cases hb : s.testBit n = true
    · rw [if_pos hb, if_pos hb, ih]
      show _ = Power.upd (snS p s (rank _ n)) ((nodes s).getD (rank _ n) 0) p.t
      rw [at_rank s n (by omega) hb]
    · rw [if_neg hb, if_neg hb]; exact ih
theorem snN_all (p : Pl) (s : Nat) : snN p s 64 = snS p s (lenS s) := snN_at p s 64 (Nat.le_refl _)
/-- no node beyond the plant sleeps -/
def InN (p : Pl) : Prop := ∀ i, i < 64 → p.s.testBit i = true → i < p.N
/-- the plain plant at block b -/
structure PQ (w : World) (b : Nat) (p : Pl) (us : Nat → Bool) : Prop where
  cI : w.cell? ⟨b, 0, none⟩ = some (.int .i64 p.I)
  cW : w.cell? ⟨b, 1, none⟩ = some (.int .i64 p.W)
  cS : w.cell? ⟨b, 2, none⟩ = some (.int .i64 p.Sp)
  cn : w.cell? ⟨b, 3, none⟩ = some (.int .i64 (p.N : Int))
  ct : w.cell? ⟨b, 4, none⟩ = some (.int .i64 p.t)
  cs : ∀ k, k < 64 → w.cell? ⟨b, 5 + k, none⟩ = some (.bool (p.s.testBit k))
  cu : ∀ k, k < 64 → w.cell? ⟨b, 69 + k, none⟩ = some (.bool (us k))
  cw : ∀ k, k < 64 → w.cell? ⟨b, 133 + k, none⟩ = some (.int .i64 (p.wk k))
  ce : ∀ k, k < 64 → w.cell? ⟨b, 197 + k, none⟩ = some (.int .i64 (p.sn k))
  ca : w.cell? ⟨b, 261, none⟩ = some (.int .i64 p.ar)
  fz : ∀ o, w.frozen? ⟨b, o, none⟩ = false
section
variable {w w' : World} {b : Nat} {p : Pl} {us : Nat → Bool}
theorem PQ.lt (h : PQ w b p us) : b < w.heap.size := World.block_lt_of_cell? w _ h.cI
theorem PQ.of_heap (h : PQ w b p us) (hh : w'.heap[b]? = w.heap[b]?) : PQ w' b p us :=
  ⟨(World.cell?_of_block hh).trans h.cI, (World.cell?_of_block hh).trans h.cW, (World.cell?_of_block hh).trans h.cS, (World.cell?_of_block hh).trans h.cn, (World.cell?_of_block hh).trans h.ct, fun k hk => (World.cell?_of_block hh).trans (h.cs k hk), fun k hk => (World.cell?_of_block hh).trans (h.cu k hk), fun k hk => (World.cell?_of_block hh).trans (h.cw k hk), fun k hk => (World.cell?_of_block hh).trans (h.ce k hk), (World.cell?_of_block hh).trans h.ca, fun o => (World.frozen?_of_block (a := ⟨b, o, none⟩) hh).trans (h.fz o)⟩
theorem PQ.below (h : PQ w b p us) (hb : Below w.heap.size w w') : PQ w' b p us := h.of_heap (hb.block b h.lt)
theorem PQ.drew (h : PQ w b p us) : PQ w.drew b p us := h.of_heap rfl
theorem PQ.upd {g : Nat} (h : PQ w b p us) (hu : Upd g w w') (hne : b ≠ g) : PQ w' b p us := h.of_heap (hu.1.2 b h.lt hne)
theorem PQ.congr {us2 : Nat → Bool} (h : PQ w b p us) (he : ∀ k, k < 64 → us k = us2 k) : PQ w b p us2 :=
  ⟨h.cI, h.cW, h.cS, h.cn, h.ct, h.cs, fun k hk => by rw [← he k hk]; exact h.cu k hk, h.cw, h.ce, h.ca, h.fz⟩
theorem PQ.setT (h : PQ w b p us) (x : Int) : PQ (w.setCell ⟨b, 4, none⟩ (.int .i64 x)) b { p with t := x } us :=
  ⟨cell_no _ _ _ _ h.cI (by omega), cell_no _ _ _ _ h.cW (by omega), cell_no _ _ _ _ h.cS (by omega), cell_no _ _ _ _ h.cn (by omega), cell_yes _ _ _ h.ct, fun k hk => cell_no _ _ _ _ (h.cs k hk) (by omega), fun k hk => cell_no _ _ _ _ (h.cu k hk) (by omega), fun k hk => cell_no _ _ _ _ (h.cw k hk) (by omega), fun k hk => cell_no _ _ _ _ (h.ce k hk) (by omega), cell_no _ _ _ _ h.ca (by omega), fun o => by simp [go_sem, h.fz o]⟩
theorem PQ.setA (h : PQ w b p us) (x : Int) : PQ (w.setCell ⟨b, 261, none⟩ (.int .i64 x)) b { p with ar := x } us :=
  ⟨cell_no _ _ _ _ h.cI (by omega), cell_no _ _ _ _ h.cW (by omega), cell_no _ _ _ _ h.cS (by omega), cell_no _ _ _ _ h.cn (by omega), cell_no _ _ _ _ h.ct (by omega), fun k hk => cell_no _ _ _ _ (h.cs k hk) (by omega), fun k hk => cell_no _ _ _ _ (h.cu k hk) (by omega), fun k hk => cell_no _ _ _ _ (h.cw k hk) (by omega), fun k hk => cell_no _ _ _ _ (h.ce k hk) (by omega), cell_yes _ _ _ h.ca, fun o => by simp [go_sem, h.fz o]⟩
theorem PQ.setS (h : PQ w b p us) (j : Nat) (hj : j < 64) (v : Bool) (x : Nat) (hx : ∀ k, k < 64 → x.testBit k = if k = j then v else p.s.testBit k) : PQ (w.setCell ⟨b, 5 + j, none⟩ (.bool v)) b { p with s := x } us :=
  ⟨cell_no _ _ _ _ h.cI (by omega), cell_no _ _ _ _ h.cW (by omega), cell_no _ _ _ _ h.cS (by omega), cell_no _ _ _ _ h.cn (by omega), cell_no _ _ _ _ h.ct (by omega),
    fun k hk => by
      show _ = some (Value.bool (x.testBit k))
      rw [hx k hk]
      by_cases e : k = j
      · subst e; rw [if_pos rfl]; exact cell_yes _ _ _ (h.cs k hk)
      · rw [if_neg e]; exact cell_no _ _ _ _ (h.cs k hk) (by omega),
    fun k hk => cell_no _ _ _ _ (h.cu k hk) (by omega), fun k hk => cell_no _ _ _ _ (h.cw k hk) (by omega), fun k hk => cell_no _ _ _ _ (h.ce k hk) (by omega), cell_no _ _ _ _ h.ca (by omega), fun o => by simp [go_sem, h.fz o]⟩
theorem PQ.setU (h : PQ w b p us) (j : Nat) (hj : j < 64) (v : Bool) : PQ (w.setCell ⟨b, 69 + j, none⟩ (.bool v)) b p (fun k => if k = j then v else us k) :=
  ⟨cell_no _ _ _ _ h.cI (by omega), cell_no _ _ _ _ h.cW (by omega), cell_no _ _ _ _ h.cS (by omega), cell_no _ _ _ _ h.cn (by omega), cell_no _ _ _ _ h.ct (by omega), fun k hk => cell_no _ _ _ _ (h.cs k hk) (by omega),
    fun k hk => by
      by_cases e : k = j
      · subst e; rw [if_pos rfl]; exact cell_yes _ _ _ (h.cu k hk)
      · rw [if_neg e]; exact cell_no _ _ _ _ (h.cu k hk) (by omega),
    fun k hk => cell_no _ _ _ _ (h.cw k hk) (by omega), fun k hk => cell_no _ _ _ _ (h.ce k hk) (by omega), cell_no _ _ _ _ h.ca (by omega), fun o => by simp [go_sem, h.fz o]⟩
theorem PQ.setW (h : PQ w b p us) (j : Nat) (hj : j < 64) (x : Int) : PQ (w.setCell ⟨b, 133 + j, none⟩ (.int .i64 x)) b { p with wk := Power.upd p.wk j x } us :=
  ⟨cell_no _ _ _ _ h.cI (by omega), cell_no _ _ _ _ h.cW (by omega), cell_no _ _ _ _ h.cS (by omega), cell_no _ _ _ _ h.cn (by omega), cell_no _ _ _ _ h.ct (by omega), fun k hk => cell_no _ _ _ _ (h.cs k hk) (by omega), fun k hk => cell_no _ _ _ _ (h.cu k hk) (by omega),
    fun k hk => by
      show _ = some (Value.int .i64 (Power.upd p.wk j x k))
      unfold Power.upd
      by_cases e : k = j
      · subst e; rw [if_pos rfl]; exact cell_yes _ _ _ (h.cw k hk)
      · rw [if_neg e]; exact cell_no _ _ _ _ (h.cw k hk) (by omega),
    fun k hk => cell_no _ _ _ _ (h.ce k hk) (by omega), cell_no _ _ _ _ h.ca (by omega), fun o => by simp [go_sem, h.fz o]⟩
theorem PQ.setE (h : PQ w b p us) (j : Nat) (hj : j < 64) (x : Int) : PQ (w.setCell ⟨b, 197 + j, none⟩ (.int .i64 x)) b { p with sn := Power.upd p.sn j x } us :=
  ⟨cell_no _ _ _ _ h.cI (by omega), cell_no _ _ _ _ h.cW (by omega), cell_no _ _ _ _ h.cS (by omega), cell_no _ _ _ _ h.cn (by omega), cell_no _ _ _ _ h.ct (by omega), fun k hk => cell_no _ _ _ _ (h.cs k hk) (by omega), fun k hk => cell_no _ _ _ _ (h.cu k hk) (by omega), fun k hk => cell_no _ _ _ _ (h.cw k hk) (by omega),
    fun k hk => by
      show _ = some (Value.int .i64 (Power.upd p.sn j x k))
      unfold Power.upd
      by_cases e : k = j
      · subst e; rw [if_pos rfl]; exact cell_yes _ _ _ (h.ce k hk)
      · rw [if_neg e]; exact cell_no _ _ _ _ (h.ce k hk) (by omega),
    cell_no _ _ _ _ h.ca (by omega), fun o => by simp [go_sem, h.fz o]⟩
end
theorem has42_any (s : Nat) (k : Nat) (w : World) (hs : s < 18446744073709551616) (hk : k < 64) :
    Calls Tryd.prog 116 #[.int .u64 s, .int .i64 (k : Int)] w fun e w' => e = .returned (.bool (s.testBit k)) ∧ w = w' := by
  have K := Lib.hid (fun W => has_any s (k : Int) W hs)
  rw [hasS_at s k hk] at K
  go_enter Tryd.func116, Tryd.ntmps116
  go_wp2_with (go_at_call 29; refine (K.out _).mono ?_; rintro e w2 ⟨rfl, rfl⟩)
  go_ret
  exact ⟨rfl, rfl⟩
end Go.Proofs.YtmjkgnlmdcmdbaaDoor.Power
