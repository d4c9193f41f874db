/- Law 42: any plant: who sleeps, who is awake, since when. -/
import Derived.Test.YtmjkgnlmdcmdbaaDoorPow1
namespace Go.Proofs.YtmjkgnlmdcmdbaaDoor.Power
open Go.RowKit Go.Proofs.YtmjkgnlmdcmdbaaDoorW.PrintWords Go.Proofs.YtmjkgnlmdcmdbaaDoorW.PrintLast Go.Proofs.YtmjkgnlmdcmdbaaDoorW.PrintMore Go.Proofs.YtmjkgnlmdcmdbaaDoor.Row Go.Proofs.YtmjkgnlmdcmdbaaDoor.Sets Go.Proofs.YtmjkgnlmdcmdbaaDoor.Node Go.Proofs.YtmjkgnlmdcmdbaaDoor.Each
set_option linter.unusedVariables false
set_option linter.unusedSimpArgs false
set_option maxRecDepth 100000
/-- a plant: its rule, how many nodes, the time, the used ones, those asleep, when each is awake and since when it is idle, the area -/
structure Pl where
  I : Int
  W : Int
  Sp : Int
  N : Nat
  t : Int
  u : Nat
  s : Nat
  wk : Nat → Int
  sn : Nat → Int
  ar : Int
/-- what always holds of a plant -/
structure PlOk (p : Pl) : Prop where
  hI : 0 ≤ p.I ∧ p.I ≤ 1099511627776
  hW : 0 ≤ p.W ∧ p.W ≤ 1099511627776
  hSp : 0 ≤ p.Sp ∧ p.Sp ≤ 64
  hN : 1 ≤ p.N ∧ p.N ≤ 64
  ht : 0 ≤ p.t ∧ p.t ≤ 1099511627776
  hu : p.u < 18446744073709551616
  hs : p.s < 18446744073709551616
  hwk : ∀ k, 0 ≤ p.wk k ∧ p.wk k ≤ 2199023255552
  hsn : ∀ k, 0 ≤ p.sn k ∧ p.sn k ≤ 1099511627776
  har : 0 ≤ p.ar ∧ p.ar ≤ 1152921504606846976
/-- the plant at block b -/
structure QT (w : World) (b : Nat) (p : Pl) : Prop where
  cI : w.cell? ⟨b, 0, none⟩ = some (.int .i64 p.I)
  cW : w.cell? ⟨b, 1, none⟩ = some (.int .i64 p.W)
  cS : w.cell? ⟨b, 2, none⟩ = some (.int .i64 p.Sp)
  cn : w.cell? ⟨b, 3, none⟩ = some (.int .i64 (p.N : Int))
  ct : w.cell? ⟨b, 4, none⟩ = some (.int .i64 p.t)
  cu : w.cell? ⟨b, 5, none⟩ = some (.int .u64 (p.u : Int))
  cs : w.cell? ⟨b, 6, none⟩ = some (.int .u64 (p.s : Int))
  cw : ∀ k, k < 64 → w.cell? ⟨b, 7 + k, none⟩ = some (.int .i64 (p.wk k))
  ce : ∀ k, k < 64 → w.cell? ⟨b, 71 + k, none⟩ = some (.int .i64 (p.sn k))
  ca : w.cell? ⟨b, 135, none⟩ = some (.int .i64 p.ar)
  fz : ∀ o, w.frozen? ⟨b, o, none⟩ = false
def upd (f : Nat → Int) (k : Nat) (x : Int) : Nat → Int := fun j => if j = k then x else f j
section
variable {w w' : World} {b : Nat} {p : Pl}
theorem QT.lt (h : QT w b p) : b < w.heap.size := World.block_lt_of_cell? w _ h.cI
theorem QT.of_heap (h : QT w b p) (hh : w'.heap[b]? = w.heap[b]?) : QT w' b p :=
  ⟨(World.cell?_of_block hh).trans h.cI, (World.cell?_of_block hh).trans h.cW, (World.cell?_of_block hh).trans h.cS, (World.cell?_of_block hh).trans h.cn, (World.cell?_of_block hh).trans h.ct, (World.cell?_of_block hh).trans h.cu, (World.cell?_of_block hh).trans h.cs, fun k hk => (World.cell?_of_block hh).trans (h.cw k hk), fun k hk => (World.cell?_of_block hh).trans (h.ce k hk), (World.cell?_of_block hh).trans h.ca, fun o => (World.frozen?_of_block hh).trans (h.fz o)⟩
theorem QT.below (h : QT w b p) (hb : Below w.heap.size w w') : QT w' b p := h.of_heap (hb.block b h.lt)
theorem QT.drew (h : QT w b p) : QT w.drew b p := h.of_heap rfl
theorem QT.putObj (h : QT w b p) (l : Nat) (x : Obj) (hl : b ≠ l) : QT (w.putObj l x) b p := h.of_heap (World.putObj_heap_other hl)
theorem QT.far (h : QT w b p) (q : Addr) (hq : b ≠ q.block) (v : Value) : QT (w.setCell q v) b p := h.of_heap (Below.heap_setCell w q v b hq)
theorem cell_no (o o' : Nat) (v u : Value) (h : w.cell? ⟨b, o', none⟩ = some u) (hne : o' ≠ o) : (w.setCell ⟨b, o, none⟩ v).cell? ⟨b, o', none⟩ = some u := by
  have hne2 : (⟨b, o', none⟩ : Addr) ≠ ⟨b, o, none⟩ := fun e => hne (by injection e)
  go_cell
theorem cell_yes (o : Nat) (v u : Value) (h : w.cell? ⟨b, o, none⟩ = some u) : (w.setCell ⟨b, o, none⟩ v).cell? ⟨b, o, none⟩ = some v := by
  go_cell
theorem QT.setT (h : QT w b p) (x : Int) : QT (w.setCell ⟨b, 4, none⟩ (.int .i64 x)) b { p with t := x } :=
  ⟨cell_no _ _ _ _ h.cI (by omega), cell_no _ _ _ _ h.cW (by omega), cell_no _ _ _ _ h.cS (by omega), cell_no _ _ _ _ h.cn (by omega), cell_yes _ _ _ h.ct, cell_no _ _ _ _ h.cu (by omega), cell_no _ _ _ _ h.cs (by omega), fun k hk => cell_no _ _ _ _ (h.cw k hk) (by omega), fun k hk => cell_no _ _ _ _ (h.ce k hk) (by omega), cell_no _ _ _ _ h.ca (by omega), fun o => by simp [go_sem, h.fz o]⟩
theorem QT.setU (h : QT w b p) (x : Nat) : QT (w.setCell ⟨b, 5, none⟩ (.int .u64 (x : Int))) b { p with u := x } :=
  ⟨cell_no _ _ _ _ h.cI (by omega), cell_no _ _ _ _ h.cW (by omega), cell_no _ _ _ _ h.cS (by omega), cell_no _ _ _ _ h.cn (by omega), cell_no _ _ _ _ h.ct (by omega), cell_yes _ _ _ h.cu, cell_no _ _ _ _ h.cs (by omega), fun k hk => cell_no _ _ _ _ (h.cw k hk) (by omega), fun k hk => cell_no _ _ _ _ (h.ce k hk) (by omega), cell_no _ _ _ _ h.ca (by omega), fun o => by simp [go_sem, h.fz o]⟩
theorem QT.setS (h : QT w b p) (x : Nat) : QT (w.setCell ⟨b, 6, none⟩ (.int .u64 (x : Int))) b { p with s := x } :=
  ⟨cell_no _ _ _ _ h.cI (by omega), cell_no _ _ _ _ h.cW (by omega), cell_no _ _ _ _ h.cS (by omega), cell_no _ _ _ _ h.cn (by omega), cell_no _ _ _ _ h.ct (by omega), cell_no _ _ _ _ h.cu (by omega), cell_yes _ _ _ h.cs, fun k hk => cell_no _ _ _ _ (h.cw k hk) (by omega), fun k hk => cell_no _ _ _ _ (h.ce k hk) (by omega), cell_no _ _ _ _ h.ca (by omega), fun o => by simp [go_sem, h.fz o]⟩
theorem QT.setA (h : QT w b p) (x : Int) : QT (w.setCell ⟨b, 135, none⟩ (.int .i64 x)) b { p with ar := x } :=
  ⟨cell_no _ _ _ _ h.cI (by omega), cell_no _ _ _ _ h.cW (by omega), cell_no _ _ _ _ h.cS (by omega), cell_no _ _ _ _ h.cn (by omega), cell_no _ _ _ _ h.ct (by omega), cell_no _ _ _ _ h.cu (by omega), cell_no _ _ _ _ h.cs (by omega), fun k hk => cell_no _ _ _ _ (h.cw k hk) (by omega), fun k hk => cell_no _ _ _ _ (h.ce k hk) (by omega), cell_yes _ _ _ h.ca, fun o => by simp [go_sem, h.fz o]⟩
theorem QT.setW (h : QT w b p) (j : Nat) (hj : j < 64) (x : Int) : QT (w.setCell ⟨b, 7 + j, none⟩ (.int .i64 x)) b { p with wk := upd p.wk j x } :=
  ⟨cell_no _ _ _ _ h.cI (by omega), cell_no _ _ _ _ h.cW (by omega), cell_no _ _ _ _ h.cS (by omega), cell_no _ _ _ _ h.cn (by omega), cell_no _ _ _ _ h.ct (by omega), cell_no _ _ _ _ h.cu (by omega), cell_no _ _ _ _ h.cs (by omega),
    fun k hk => by
      by_cases e : k = j
      · subst e; show _ = some (Value.int .i64 (upd p.wk k x k)); unfold upd; rw [if_pos rfl]; exact cell_yes _ _ _ (h.cw k hk)
      · show _ = some (Value.int .i64 (upd p.wk j x k)); unfold upd; rw [if_neg e]; exact cell_no _ _ _ _ (h.cw k hk) (by omega),
    fun k hk => cell_no _ _ _ _ (h.ce k hk) (by omega), cell_no _ _ _ _ h.ca (by omega), fun o => by simp [go_sem, h.fz o]⟩
theorem QT.setE (h : QT w b p) (j : Nat) (hj : j < 64) (x : Int) : QT (w.setCell ⟨b, 71 + j, none⟩ (.int .i64 x)) b { p with sn := upd p.sn j x } :=
  ⟨cell_no _ _ _ _ h.cI (by omega), cell_no _ _ _ _ h.cW (by omega), cell_no _ _ _ _ h.cS (by omega), cell_no _ _ _ _ h.cn (by omega), cell_no _ _ _ _ h.ct (by omega), cell_no _ _ _ _ h.cu (by omega), cell_no _ _ _ _ h.cs (by omega), fun k hk => cell_no _ _ _ _ (h.cw k hk) (by omega),
    fun k hk => by
      by_cases e : k = j
      · subst e; show _ = some (Value.int .i64 (upd p.sn k x k)); unfold upd; rw [if_pos rfl]; exact cell_yes _ _ _ (h.ce k hk)
      · show _ = some (Value.int .i64 (upd p.sn j x k)); unfold upd; rw [if_neg e]; exact cell_no _ _ _ _ (h.ce k hk) (by omega),
    cell_no _ _ _ _ h.ca (by omega), fun o => by simp [go_sem, h.fz o]⟩
end
theorem none_q (b : Nat) (p : Pl) (w : World) (h : QT w b p) (ho : PlOk p) : Calls Tryd.prog 94 #[.pointer (some ⟨b, 0, none⟩)] w fun e w' => e = .returned (.bool false) ∧ w = w' := by
  have cn := h.cn
  have e : ((p.N : Int) == 0) = false := by have := ho.hN; simp; omega
  clear h ho
  go_enter Tryd.func94, Tryd.ntmps94
  go_wp2; go_ret; exact ⟨rfl, rfl⟩
theorem Asleep_q (b : Nat) (p : Pl) (w : World) (h : QT w b p) (ho : PlOk p) : Calls Tryd.prog 56 #[.pointer (some ⟨b, 0, none⟩)] w fun e w' => e = .returned (.int .u64 (p.s : Int)) ∧ w = w' := by
  have K := Lib.hid (none_q b p w h ho)
  have cs := h.cs
  clear h ho
  go_enter Tryd.func56, Tryd.ntmps56
  go_wp2_with (go_at_call 94; refine K.out.mono ?_; rintro e w2 ⟨rfl, rfl⟩)
  go_ret; exact ⟨rfl, rfl⟩
/-- since when a node is idle -/
def fromS (p : Pl) (k : Nat) : Int := if p.sn k < p.wk k then p.wk k else p.sn k
theorem from_q (b : Nat) (p : Pl) (k : Nat) (w : World) (h : QT w b p) (hk : k < 64) : Calls Tryd.prog 99 #[.pointer (some ⟨b, 0, none⟩), .int .i64 (k : Int)] w fun e w' => e = .returned (.int .i64 (fromS p k)) ∧ Below w.heap.size w w' := by
  have H := Lib.hid h.drew
  have x0 : ((k : Int) < 64) = True := eq_true (by omega)
  have xt : ((k : Int)).toNat = k := by omega
  have hm : max (p.sn k) (p.wk k) = fromS p k := by unfold fromS; split <;> omega
  obtain ⟨x, hx⟩ : ∃ x, p.sn k = x := ⟨_, rfl⟩
  obtain ⟨y, hy⟩ : ∃ x, p.wk k = x := ⟨_, rfl⟩
  rw [hx, hy] at hm
  obtain ⟨z, hz⟩ : ∃ x, fromS p k = x := ⟨_, rfl⟩
  rw [hz] at hm ⊢
  have HX : Hid (p.sn k = x) := Lib.hid hx
  have HY : Hid (p.wk k = y) := Lib.hid hy
  clear h hx hy hz
  go_enter Tryd.func99, Tryd.ntmps99
  go_upto_region 1 with fail
  refine start_ (n := 14) (S := fun w' => w'.cell? ⟨b, 7 + k, none⟩ = some (.int .i64 y) ∧ w'.cell? ⟨b, 71 + k, none⟩ = some (.int .i64 x)) (ds := []) #[false, false, false, false, false, false, false, false, false, false, false, false, false, false] (by kernel_rfl) rfl rfl ⟨((H.out.cw k hk).trans (by rw [HY.out])), ((H.out.ce k hk).trans (by rw [HX.out]))⟩ (fun hHeld => ?_)
  refine pure_ (i := 0) (N := some 5) (v := ?_) (a' := ?_) #[true, false, false, false, false, false, false, false, false, false, false, false, false, false] rfl rfl (by kernel_rfl) (fun _ _ _ h => h) (Or.inl ⟨by rfl, ?_⟩) ?_ ?_
  rotate_left
  · intro w'
    go_simp
    with_reducible rfl
  rotate_left
  · simp only [Act.put, List.setIfInBounds_toArray, List.set_cons_zero, List.set_cons_succ, i64_w, i32_w]
    rfl
  refine pure_ (i := 1) (N := some 6) (v := ?_) (a' := ?_) #[true, true, false, false, false, false, false, false, false, false, false, false, false, false] rfl rfl (by kernel_rfl) (fun _ _ _ h => h) (Or.inl ⟨by rfl, ?_⟩) ?_ ?_
  rotate_left
  · intro w'
    go_simp
    with_reducible rfl
  rotate_left
  · simp only [Act.put, List.setIfInBounds_toArray, List.set_cons_zero, List.set_cons_succ, i64_w, i32_w]
    rfl
  refine pure_ (i := 2) (N := some 7) (v := ?_) (a' := ?_) #[true, true, true, false, false, false, false, false, false, false, false, false, false, false] rfl rfl (by kernel_rfl) (fun _ _ _ h => h) (Or.inl ⟨by rfl, ?_⟩) ?_ ?_
  rotate_left
  · intro w'
    go_simp
    with_reducible rfl
  rotate_left
  · simp only [Act.put, List.setIfInBounds_toArray, List.set_cons_zero, List.set_cons_succ, i64_w, i32_w]
    rfl
  refine pure_ (i := 3) (N := some 8) (v := ?_) (a' := ?_) #[true, true, true, true, false, false, false, false, false, false, false, false, false, false] rfl rfl (by kernel_rfl) (fun _ _ _ h => h) (Or.inl ⟨by rfl, ?_⟩) ?_ ?_
  rotate_left
  · intro w'
    go_simp
    with_reducible rfl
  rotate_left
  · simp only [Act.put, List.setIfInBounds_toArray, List.set_cons_zero, List.set_cons_succ, i64_w, i32_w]
    rfl
  refine pure_ (i := 4) (N := some 9) (v := ?_) (a' := ?_) #[true, true, true, true, true, false, false, false, false, false, false, false, false, false] rfl rfl (by kernel_rfl) (fun _ _ _ h => h) (Or.inl ⟨by rfl, ?_⟩) ?_ ?_
  rotate_left
  · intro w'
    go_simp
    with_reducible rfl
  rotate_left
  · simp only [Act.put, List.setIfInBounds_toArray, List.set_cons_zero, List.set_cons_succ, i64_w, i32_w]
    rfl
  refine pure_ (i := 6) (N := some 11) (v := ?_) (a' := ?_) #[true, true, true, true, true, false, true, false, false, false, false, false, false, false] rfl rfl (by kernel_rfl) (fun _ _ _ h => h) (Or.inl ⟨by rfl, ?_⟩) ?_ ?_
  rotate_left
  · intro w'
    go_simp
    with_reducible rfl
  rotate_left
  · simp only [Act.put, List.setIfInBounds_toArray, List.set_cons_zero, List.set_cons_succ, i64_w, i32_w]
    rfl
  refine pure_ (i := 7) (N := some 12) (v := ?_) (a' := ?_) #[true, true, true, true, true, false, true, true, false, false, false, false, false, false] rfl rfl (by kernel_rfl) (fun _ _ _ h => h) (Or.inl ⟨by rfl, ?_⟩) ?_ ?_
  rotate_left
  · intro w'
    go_simp
    with_reducible rfl
  rotate_left
  · simp only [Act.put, List.setIfInBounds_toArray, List.set_cons_zero, List.set_cons_succ, i64_w, i32_w]
    rfl
  refine pure_ (i := 8) (N := some 13) (v := ?_) (a' := ?_) #[true, true, true, true, true, false, true, true, true, false, false, false, false, false] rfl rfl (by kernel_rfl) (fun _ _ _ h => h) (Or.inl ⟨by rfl, ?_⟩) ?_ ?_
  rotate_left
  · intro w'
    go_simp
    with_reducible rfl
  rotate_left
  · simp only [Act.put, List.setIfInBounds_toArray, List.set_cons_zero, List.set_cons_succ, i64_w, i32_w]
    rfl
  refine pure_ (i := 9) (N := some 14) (v := ?_) (a' := ?_) #[true, true, true, true, true, false, true, true, true, true, false, false, false, false] rfl rfl (by kernel_rfl) (fun _ _ _ h => h) (Or.inl ⟨by rfl, ?_⟩) ?_ ?_
  rotate_left
  · intro w'
    go_simp
    with_reducible rfl
  rotate_left
  · simp only [Act.put, List.setIfInBounds_toArray, List.set_cons_zero, List.set_cons_succ, i64_w, i32_w]
    rfl
  refine pure_ (i := 10) (N := some 15) (v := ?_) (a' := ?_) #[true, true, true, true, true, false, true, true, true, true, true, false, false, false] rfl rfl (by kernel_rfl) (fun _ _ _ h => h) (Or.inl ⟨by rfl, ?_⟩) ?_ ?_
  rotate_left
  · intro w'
    go_simp
    with_reducible rfl
  rotate_left
  · simp only [Act.put, List.setIfInBounds_toArray, List.set_cons_zero, List.set_cons_succ, i64_w, i32_w]
    rfl
  refine take_ (i := 5) (N := some 10) (v := ?_) (a' := ?_) #[true, true, true, true, true, true, true, true, true, true, true, false, false, false] rfl rfl (by kernel_rfl) (fun _ _ _ h => h) (Or.inl ⟨by rfl, ?_⟩) hHeld ?_ ?_
  rotate_left
  · rintro w' ⟨s0, s1⟩
    go_simp
    with_reducible rfl
  rotate_left
  · simp only [Act.put, List.setIfInBounds_toArray, List.set_cons_zero, List.set_cons_succ, i64_w, i32_w]
    rfl
  refine take_ (i := 11) (N := some 16) (v := ?_) (a' := ?_) #[true, true, true, true, true, true, true, true, true, true, true, true, false, false] rfl rfl (by kernel_rfl) (fun _ _ _ h => h) (Or.inl ⟨by rfl, ?_⟩) hHeld ?_ ?_
  rotate_left
  · rintro w' ⟨s0, s1⟩
    go_simp
    with_reducible rfl
  rotate_left
  · simp only [Act.put, List.setIfInBounds_toArray, List.set_cons_zero, List.set_cons_succ, i64_w, i32_w]
    rfl
  refine pure_ (i := 12) (N := some 17) (v := ?_) (a' := ?_) #[true, true, true, true, true, true, true, true, true, true, true, true, true, false] rfl rfl (by kernel_rfl) (fun _ _ _ h => h) (Or.inl ⟨by rfl, ?_⟩) ?_ ?_
  rotate_left
  · intro w'
    go_simp
    with_reducible rfl
  rotate_left
  · simp only [Act.put, List.setIfInBounds_toArray, List.set_cons_zero, List.set_cons_succ, i64_w, i32_w]
    rfl
  refine pure_ (i := 13) (N := some 4) (v := ?_) (a' := ?_) #[true, true, true, true, true, true, true, true, true, true, true, true, true, true] rfl rfl (by kernel_rfl) (fun _ _ _ h => h) (Or.inl ⟨by rfl, ?_⟩) ?_ ?_
  rotate_left
  · intro w'
    go_simp
    with_reducible rfl
  rotate_left
  · simp only [Act.put, List.setIfInBounds_toArray, List.set_cons_zero, List.set_cons_succ, i64_w, i32_w]
    rfl
  refine done_ (by kernel_rfl) ?_
  go_wp2
  go_ret
  exact ⟨rfl, below_drew1 (Below.refl _ _)⟩
/-- the awake ones among the first k -/
def awkS (p : Pl) : Nat → Nat
  | 0 => 0
  | k + 1 => if p.s.testBit k = false ∧ p.wk k ≤ p.t then withS (awkS p k) (k : Int) else awkS p k
theorem awkS_lt (p : Pl) : ∀ k, awkS p k < 18446744073709551616
  | 0 => by unfold awkS; decide
  | k + 1 => by
    unfold awkS
    split
    · exact withS_lt _ _ (awkS_lt p k)
    · exact awkS_lt p k
theorem awkS_bit (p : Pl) (i : Nat) (hi : i < 64) : ∀ k, (awkS p k).testBit i = (decide (i < k) && (!p.s.testBit i && decide (p.wk i ≤ p.t)))
  | 0 => by unfold awkS; rw [Nat.zero_testBit, decide_eq_false (by omega)]; rfl
  | k + 1 => by
    have ih := awkS_bit p i hi k
    unfold awkS
    by_cases e : i = k
    · subst e
      have h0 : (awkS p i).testBit i = false := by rw [ih, decide_eq_false (by omega)]; rfl
      rw [decide_eq_true (show i < i + 1 by omega)]
      by_cases c : p.s.testBit i = false ∧ p.wk i ≤ p.t
      · rw [if_pos c, withS_bit _ _ _ hi, c.1, decide_eq_true c.2]; simp
      · rw [if_neg c, h0]
        cases hb : p.s.testBit i
        · have : ¬ p.wk i ≤ p.t := fun h => c ⟨hb, h⟩
          simp [this]
        · simp
    · have e1 : decide (i < k + 1) = decide (i < k) := by
        by_cases h : i < k
        · rw [decide_eq_true h, decide_eq_true (by omega)]
        · rw [decide_eq_false h, decide_eq_false (by omega)]
      rw [e1, ← ih]
      split
      · rw [withS_bit _ _ _ hi, decide_eq_false (by omega), Bool.or_false]
      · rfl
set_option maxHeartbeats 1000000 in
theorem Awake_q (b : Nat) (p : Pl) (w : World) (h : QT w b p) (ho : PlOk p) : Calls Tryd.prog 55 #[.pointer (some ⟨b, 0, none⟩)] w fun e w' => e = .returned (.int .u64 (awkS p p.N : Nat)) ∧ Below w.heap.size w w' := by
  have K1 := Lib.hid (none_q b p w h ho)
  have KH0 := fun k W => has_any p.s k W ho.hs
  have H := Lib.hid h
  have cn := h.cn
  have hN := ho.hN
  obtain ⟨N, hNe⟩ : ∃ N, p.N = N := ⟨_, rfl⟩
  obtain ⟨t, ht⟩ : ∃ t, p.t = t := ⟨_, rfl⟩
  obtain ⟨s, hs⟩ : ∃ s, p.s = s := ⟨_, rfl⟩
  rw [hNe] at cn hN
  have HN := Lib.hid hNe
  have HTE := Lib.hid ht
  have HSE := Lib.hid hs
  rw [hs] at KH0
  have KH := Lib.hid KH0
  clear h ho KH0 hNe ht hs
  go_enter Tryd.func55, Tryd.ntmps55
  go_wp2_with (go_at_call 94; refine K1.out.mono ?_; rintro e w2 ⟨rfl, rfl⟩)
  clear K1
  go_loopg [3, 11] (N + 1) (fun kq v3 v11 w' => ∃ (k : Nat), v11 = .int .i64 k ∧ v3 = .int .u64 (awkS p k : Nat) ∧ Aside0 (k + kq = N + 1 ∧ 1 ≤ kq) ∧ Aside0 (QT w' b p) ∧ Aside0 (Below w.heap.size w w'))
  case atStart => exact ⟨0, rfl, rfl, ⟨by omega, by omega⟩, ⟨H.out⟩, ⟨Below.refl _ _⟩⟩
  case round =>
    clear H cn
    obtain ⟨k, rfl, rfl, HI, H, HB⟩ := hrel
    obtain ⟨k1, rfl⟩ : ∃ k1, gk = k1 + 1 := ⟨gk - 1, by have := HI.out; omega⟩
    by_cases c1 : k < N
    · have d1 : decide (k < N) = true := decide_eq_true c1
      have d2 : decide ((k : Int) < (N : Int)) = true := decide_eq_true (by omega)
      have hk64 : k < 64 := by omega
      have x0 : ((k : Int) < 64) = True := eq_true (by omega)
      have xt : ((k : Int)).toNat = k := by omega
      have hal := awkS_lt p k
      have hk1 : awkS p (k + 1) = if p.s.testBit k = false ∧ p.wk k ≤ p.t then withS (awkS p k) (k : Int) else awkS p k := rfl
      rw [HSE.out, HTE.out] at hk1
      have KK := KH.out (k : Int)
      rw [hasS_at s k hk64] at KK
      obtain ⟨q, hq⟩ : ∃ q, s.testBit k = q := ⟨_, rfl⟩
      obtain ⟨y, hy⟩ : ∃ y, p.wk k = y := ⟨_, rfl⟩
      rw [hq] at KK hk1
      rw [hy] at hk1
      have HY := Lib.hid hy
      have KX := Lib.hid KK
      obtain ⟨o, ho⟩ : ∃ o, awkS p k = o := ⟨_, rfl⟩
      rw [ho] at hk1 hal ⊢
      have KW := Lib.hid (fun W => with_any o (k : Int) W hal)
      have HST := Lib.hid hk1
      have HC1 := Lib.hid c1
      clear hq hy ho hal hk1 KK
      cases q with
      | true =>
        go_upto_region 7 with fail
        refine start_ (n := 20) (S := fun w' => w'.cell? ⟨b, 4, none⟩ = some (.int .i64 t) ∧ w'.cell? ⟨b, 6, none⟩ = some (.int .u64 (s : Int)) ∧ w'.cell? ⟨b, 7 + k, none⟩ = some (.int .i64 y)) (ds := []) #[false, false, false, false, false, false, false, false, false, false, false, false, false, false, false, false, false, false, false, false] (by kernel_rfl) rfl rfl ⟨(H.out.ct.trans (by rw [HTE.out])), (H.out.cs.trans (by rw [HSE.out])), ((H.out.cw k hk64).trans (by rw [HY.out]))⟩ (fun hHeld => ?_)
        have n_ := Lib.hid H.out.drew
        have n2_ := Lib.hid (below_drew1 HB.out)
        clear H HB
        have H := n_
        have HB := n2_
        clear n_ n2_
        generalize wr.drew = w5 at H HB hHeld ⊢
        refine pure_ (i := 0) (N := some 14) (v := ?_) (a' := ?_) #[true, false, false, false, false, false, false, false, false, false, false, false, false, false, false, false, false, false, false, false] rfl rfl (by kernel_rfl) (fun _ _ _ h => h) (Or.inl ⟨by rfl, ?_⟩) ?_ ?_
        rotate_left
        · intro w'
          go_simp
          with_reducible rfl
        rotate_left
        · simp only [Act.put, List.setIfInBounds_toArray, List.set_cons_zero, List.set_cons_succ, i64_w, i32_w]
          rfl
        refine pure_ (i := 1) (N := some 15) (v := ?_) (a' := ?_) #[true, true, false, false, false, false, false, false, false, false, false, false, false, false, false, false, false, false, false, false] rfl rfl (by kernel_rfl) (fun _ _ _ h => h) (Or.inl ⟨by rfl, ?_⟩) ?_ ?_
        rotate_left
        · intro w'
          go_simp
          with_reducible rfl
        rotate_left
        · simp only [Act.put, List.setIfInBounds_toArray, List.set_cons_zero, List.set_cons_succ, i64_w, i32_w]
          rfl
        refine pure_ (i := 2) (N := some 16) (v := ?_) (a' := ?_) #[true, true, true, false, false, false, false, false, false, false, false, false, false, false, false, false, false, false, false, false] rfl rfl (by kernel_rfl) (fun _ _ _ h => h) (Or.inl ⟨by rfl, ?_⟩) ?_ ?_
        rotate_left
        · intro w'
          go_simp
          with_reducible rfl
        rotate_left
        · simp only [Act.put, List.setIfInBounds_toArray, List.set_cons_zero, List.set_cons_succ, i64_w, i32_w]
          rfl
        refine pure_ (i := 4) (N := some 18) (v := ?_) (a' := ?_) #[true, true, true, false, true, false, false, false, false, false, false, false, false, false, false, false, false, false, false, false] rfl rfl (by kernel_rfl) (fun _ _ _ h => h) (Or.inl ⟨by rfl, ?_⟩) ?_ ?_
        rotate_left
        · intro w'
          go_simp
          with_reducible rfl
        rotate_left
        · simp only [Act.put, List.setIfInBounds_toArray, List.set_cons_zero, List.set_cons_succ, i64_w, i32_w]
          rfl
        refine take_ (i := 3) (N := some 17) (v := ?_) (a' := ?_) #[true, true, true, true, true, false, false, false, false, false, false, false, false, false, false, false, false, false, false, false] rfl rfl (by kernel_rfl) (fun _ _ _ h => h) (Or.inl ⟨by rfl, ?_⟩) hHeld ?_ ?_
        rotate_left
        · rintro w' ⟨s0, s1, s2⟩
          go_simp
          with_reducible rfl
        rotate_left
        · simp only [Act.put, List.setIfInBounds_toArray, List.set_cons_zero, List.set_cons_succ, i64_w, i32_w]
          rfl
        refine one_ (i := 5) (N := some 19) #[true, true, true, true, true, true, false, false, false, false, false, false, false, false, false, false, false, false, false, false] rfl rfl (by kernel_rfl) (by decide) (fun K hK => ?_)
        refine goes_ Tryd.func29 (by kernel_rfl) rfl #[.int .u64 (s : Int), .int .i64 (k : Int)] (by rfl) rfl rfl (by (try simp only [List.map_toArray, List.map_cons, List.map_nil]); first | done | rfl | (simp only [List.length_drop, List.length_take]; rfl)) ?_
        with_reducible refine (KX.out _).mono ?_
        rintro e w3 ⟨rfl, rfl⟩
        refine ⟨_, rfl, ?_⟩
        refine hK.out _ _ ⟨(H.out.ct.trans (by rw [HTE.out])), (H.out.cs.trans (by rw [HSE.out])), ((H.out.cw k hk64).trans (by rw [HY.out]))⟩ (fun hHeld => ?_)
        clear hK K
        refine norm_ (a' := ?_) ?_ ?_
        rotate_left
        · show Act.put _ (some 19) _ = _
          simp only [Act.put, List.setIfInBounds_toArray, List.set_cons_zero, List.set_cons_succ, i64_w, i32_w]
          rfl
        refine pure_ (i := 6) (N := some 20) (v := ?_) (a' := ?_) #[true, true, true, true, true, true, true, false, false, false, false, false, false, false, false, false, false, false, false, false] rfl rfl (by kernel_rfl) (fun _ _ _ h => h) (Or.inl ⟨by rfl, ?_⟩) ?_ ?_
        rotate_left
        · intro w'
          go_simp
          with_reducible rfl
        rotate_left
        · simp only [Act.put, List.setIfInBounds_toArray, List.set_cons_zero, List.set_cons_succ, i64_w, i32_w]
          rfl
        refine pure_ (i := 7) (N := some 21) (v := ?_) (a' := ?_) #[true, true, true, true, true, true, true, true, false, false, false, false, false, false, false, false, false, false, false, false] rfl rfl (by kernel_rfl) (fun _ _ _ h => h) (Or.inl ⟨by rfl, ?_⟩) ?_ ?_
        rotate_left
        · intro w'
          go_simp
          with_reducible rfl
        rotate_left
        · simp only [Act.put, List.setIfInBounds_toArray, List.set_cons_zero, List.set_cons_succ, i64_w, i32_w]
          rfl
        refine pure_ (i := 8) (N := some 22) (v := undef) (a' := ?_) #[true, true, true, true, true, true, true, true, true, false, false, false, false, false, false, false, false, false, false, false] rfl rfl (by kernel_rfl) (fun _ _ _ h => h) (Or.inr ⟨by rfl, rfl⟩) ?_ ?_
        rotate_left
        · simp only [Act.put, List.setIfInBounds_toArray, List.set_cons_zero, List.set_cons_succ, i64_w, i32_w]
          rfl
        refine pure_ (i := 9) (N := some 23) (v := undef) (a' := ?_) #[true, true, true, true, true, true, true, true, true, true, false, false, false, false, false, false, false, false, false, false] rfl rfl (by kernel_rfl) (fun _ _ _ h => h) (Or.inr ⟨by rfl, rfl⟩) ?_ ?_
        rotate_left
        · simp only [Act.put, List.setIfInBounds_toArray, List.set_cons_zero, List.set_cons_succ, i64_w, i32_w]
          rfl
        refine pure_ (i := 10) (N := some 24) (v := undef) (a' := ?_) #[true, true, true, true, true, true, true, true, true, true, true, false, false, false, false, false, false, false, false, false] rfl rfl (by kernel_rfl) (fun _ _ _ h => h) (Or.inr ⟨by rfl, rfl⟩) ?_ ?_
        rotate_left
        · simp only [Act.put, List.setIfInBounds_toArray, List.set_cons_zero, List.set_cons_succ, i64_w, i32_w]
          rfl
        refine pure_ (i := 11) (N := some 25) (v := undef) (a' := ?_) #[true, true, true, true, true, true, true, true, true, true, true, true, false, false, false, false, false, false, false, false] rfl rfl (by kernel_rfl) (fun _ _ _ h => h) (Or.inr ⟨by rfl, rfl⟩) ?_ ?_
        rotate_left
        · simp only [Act.put, List.setIfInBounds_toArray, List.set_cons_zero, List.set_cons_succ, i64_w, i32_w]
          rfl
        refine pure_ (i := 12) (N := some 26) (v := undef) (a' := ?_) #[true, true, true, true, true, true, true, true, true, true, true, true, true, false, false, false, false, false, false, false] rfl rfl (by kernel_rfl) (fun _ _ _ h => h) (Or.inr ⟨by rfl, rfl⟩) ?_ ?_
        rotate_left
        · simp only [Act.put, List.setIfInBounds_toArray, List.set_cons_zero, List.set_cons_succ, i64_w, i32_w]
          rfl
        refine pure_ (i := 13) (N := some 27) (v := undef) (a' := ?_) #[true, true, true, true, true, true, true, true, true, true, true, true, true, true, false, false, false, false, false, false] rfl rfl (by kernel_rfl) (fun _ _ _ h => h) (Or.inr ⟨by rfl, rfl⟩) ?_ ?_
        rotate_left
        · simp only [Act.put, List.setIfInBounds_toArray, List.set_cons_zero, List.set_cons_succ, i64_w, i32_w]
          rfl
        refine pure_ (i := 14) (N := some 28) (v := undef) (a' := ?_) #[true, true, true, true, true, true, true, true, true, true, true, true, true, true, true, false, false, false, false, false] rfl rfl (by kernel_rfl) (fun _ _ _ h => h) (Or.inr ⟨by rfl, rfl⟩) ?_ ?_
        rotate_left
        · simp only [Act.put, List.setIfInBounds_toArray, List.set_cons_zero, List.set_cons_succ, i64_w, i32_w]
          rfl
        refine pure_ (i := 15) (N := some 29) (v := undef) (a' := ?_) #[true, true, true, true, true, true, true, true, true, true, true, true, true, true, true, true, false, false, false, false] rfl rfl (by kernel_rfl) (fun _ _ _ h => h) (Or.inr ⟨by rfl, rfl⟩) ?_ ?_
        rotate_left
        · simp only [Act.put, List.setIfInBounds_toArray, List.set_cons_zero, List.set_cons_succ, i64_w, i32_w]
          rfl
        refine pure_ (i := 16) (N := some 30) (v := undef) (a' := ?_) #[true, true, true, true, true, true, true, true, true, true, true, true, true, true, true, true, true, false, false, false] rfl rfl (by kernel_rfl) (fun _ _ _ h => h) (Or.inr ⟨by rfl, rfl⟩) ?_ ?_
        rotate_left
        · simp only [Act.put, List.setIfInBounds_toArray, List.set_cons_zero, List.set_cons_succ, i64_w, i32_w]
          rfl
        refine pure_ (i := 17) (N := some 31) (v := undef) (a' := ?_) #[true, true, true, true, true, true, true, true, true, true, true, true, true, true, true, true, true, true, false, false] rfl rfl (by kernel_rfl) (fun _ _ _ h => h) (Or.inr ⟨by rfl, rfl⟩) ?_ ?_
        rotate_left
        · simp only [Act.put, List.setIfInBounds_toArray, List.set_cons_zero, List.set_cons_succ, i64_w, i32_w]
          rfl
        refine pure_ (i := 18) (N := some 32) (v := undef) (a' := ?_) #[true, true, true, true, true, true, true, true, true, true, true, true, true, true, true, true, true, true, true, false] rfl rfl (by kernel_rfl) (fun _ _ _ h => h) (Or.inr ⟨by rfl, rfl⟩) ?_ ?_
        rotate_left
        · simp only [Act.put, List.setIfInBounds_toArray, List.set_cons_zero, List.set_cons_succ, i64_w, i32_w]
          rfl
        refine pure_ (i := 19) (N := some 33) (v := ?_) (a' := ?_) #[true, true, true, true, true, true, true, true, true, true, true, true, true, true, true, true, true, true, true, true] rfl rfl (by kernel_rfl) (fun _ _ _ h => h) (Or.inl ⟨by rfl, ?_⟩) ?_ ?_
        rotate_left
        · intro w'
          go_simp
          with_reducible rfl
        rotate_left
        · simp only [Act.put, List.setIfInBounds_toArray, List.set_cons_zero, List.set_cons_succ, i64_w, i32_w]
          rfl
        refine done_ (by kernel_rfl) ?_
        clear hHeld
        go_wp2
        go_roundg k1
        case measure => have := HI.out; omega
        case rel => exact ⟨k + 1, by go_num, by rw [HST.out]; first | rfl | (rw [if_neg (fun h => by cases h.1)]; done) | (rw [if_neg (fun h => by cases h.1)]; rfl), ⟨by have := HI.out; omega, by have := HI.out; have := HC1.out; omega⟩, ⟨H.out⟩, ⟨HB.out⟩⟩
      | false =>
        by_cases cy : y ≤ t
        · have e1 : decide (y ≤ t) = true := decide_eq_true cy
          go_upto_region 7 with fail
          refine start_ (n := 20) (S := fun w' => w'.cell? ⟨b, 4, none⟩ = some (.int .i64 t) ∧ w'.cell? ⟨b, 6, none⟩ = some (.int .u64 (s : Int)) ∧ w'.cell? ⟨b, 7 + k, none⟩ = some (.int .i64 y)) (ds := []) #[false, false, false, false, false, false, false, false, false, false, false, false, false, false, false, false, false, false, false, false] (by kernel_rfl) rfl rfl ⟨(H.out.ct.trans (by rw [HTE.out])), (H.out.cs.trans (by rw [HSE.out])), ((H.out.cw k hk64).trans (by rw [HY.out]))⟩ (fun hHeld => ?_)
          have n_ := Lib.hid H.out.drew
          have n2_ := Lib.hid (below_drew1 HB.out)
          clear H HB
          have H := n_
          have HB := n2_
          clear n_ n2_
          generalize wr.drew = w5 at H HB hHeld ⊢
          refine pure_ (i := 0) (N := some 14) (v := ?_) (a' := ?_) #[true, false, false, false, false, false, false, false, false, false, false, false, false, false, false, false, false, false, false, false] rfl rfl (by kernel_rfl) (fun _ _ _ h => h) (Or.inl ⟨by rfl, ?_⟩) ?_ ?_
          rotate_left
          · intro w'
            go_simp
            with_reducible rfl
          rotate_left
          · simp only [Act.put, List.setIfInBounds_toArray, List.set_cons_zero, List.set_cons_succ, i64_w, i32_w]
            rfl
          refine pure_ (i := 1) (N := some 15) (v := ?_) (a' := ?_) #[true, true, false, false, false, false, false, false, false, false, false, false, false, false, false, false, false, false, false, false] rfl rfl (by kernel_rfl) (fun _ _ _ h => h) (Or.inl ⟨by rfl, ?_⟩) ?_ ?_
          rotate_left
          · intro w'
            go_simp
            with_reducible rfl
          rotate_left
          · simp only [Act.put, List.setIfInBounds_toArray, List.set_cons_zero, List.set_cons_succ, i64_w, i32_w]
            rfl
          refine pure_ (i := 2) (N := some 16) (v := ?_) (a' := ?_) #[true, true, true, false, false, false, false, false, false, false, false, false, false, false, false, false, false, false, false, false] rfl rfl (by kernel_rfl) (fun _ _ _ h => h) (Or.inl ⟨by rfl, ?_⟩) ?_ ?_
          rotate_left
          · intro w'
            go_simp
            with_reducible rfl
          rotate_left
          · simp only [Act.put, List.setIfInBounds_toArray, List.set_cons_zero, List.set_cons_succ, i64_w, i32_w]
            rfl
          refine pure_ (i := 4) (N := some 18) (v := ?_) (a' := ?_) #[true, true, true, false, true, false, false, false, false, false, false, false, false, false, false, false, false, false, false, false] rfl rfl (by kernel_rfl) (fun _ _ _ h => h) (Or.inl ⟨by rfl, ?_⟩) ?_ ?_
          rotate_left
          · intro w'
            go_simp
            with_reducible rfl
          rotate_left
          · simp only [Act.put, List.setIfInBounds_toArray, List.set_cons_zero, List.set_cons_succ, i64_w, i32_w]
            rfl
          refine take_ (i := 3) (N := some 17) (v := ?_) (a' := ?_) #[true, true, true, true, true, false, false, false, false, false, false, false, false, false, false, false, false, false, false, false] rfl rfl (by kernel_rfl) (fun _ _ _ h => h) (Or.inl ⟨by rfl, ?_⟩) hHeld ?_ ?_
          rotate_left
          · rintro w' ⟨s0, s1, s2⟩
            go_simp
            with_reducible rfl
          rotate_left
          · simp only [Act.put, List.setIfInBounds_toArray, List.set_cons_zero, List.set_cons_succ, i64_w, i32_w]
            rfl
          refine one_ (i := 5) (N := some 19) #[true, true, true, true, true, true, false, false, false, false, false, false, false, false, false, false, false, false, false, false] rfl rfl (by kernel_rfl) (by decide) (fun K hK => ?_)
          refine goes_ Tryd.func29 (by kernel_rfl) rfl #[.int .u64 (s : Int), .int .i64 (k : Int)] (by rfl) rfl rfl (by (try simp only [List.map_toArray, List.map_cons, List.map_nil]); first | done | rfl | (simp only [List.length_drop, List.length_take]; rfl)) ?_
          with_reducible refine (KX.out _).mono ?_
          rintro e w3 ⟨rfl, rfl⟩
          refine ⟨_, rfl, ?_⟩
          refine hK.out _ _ ⟨(H.out.ct.trans (by rw [HTE.out])), (H.out.cs.trans (by rw [HSE.out])), ((H.out.cw k hk64).trans (by rw [HY.out]))⟩ (fun hHeld => ?_)
          clear hK K
          refine norm_ (a' := ?_) ?_ ?_
          rotate_left
          · show Act.put _ (some 19) _ = _
            simp only [Act.put, List.setIfInBounds_toArray, List.set_cons_zero, List.set_cons_succ, i64_w, i32_w]
            rfl
          refine pure_ (i := 6) (N := some 20) (v := ?_) (a' := ?_) #[true, true, true, true, true, true, true, false, false, false, false, false, false, false, false, false, false, false, false, false] rfl rfl (by kernel_rfl) (fun _ _ _ h => h) (Or.inl ⟨by rfl, ?_⟩) ?_ ?_
          rotate_left
          · intro w'
            go_simp
            with_reducible rfl
          rotate_left
          · simp only [Act.put, List.setIfInBounds_toArray, List.set_cons_zero, List.set_cons_succ, i64_w, i32_w]
            rfl
          refine pure_ (i := 7) (N := some 21) (v := ?_) (a' := ?_) #[true, true, true, true, true, true, true, true, false, false, false, false, false, false, false, false, false, false, false, false] rfl rfl (by kernel_rfl) (fun _ _ _ h => h) (Or.inl ⟨by rfl, ?_⟩) ?_ ?_
          rotate_left
          · intro w'
            go_simp
            with_reducible rfl
          rotate_left
          · simp only [Act.put, List.setIfInBounds_toArray, List.set_cons_zero, List.set_cons_succ, i64_w, i32_w]
            rfl
          refine pure_ (i := 8) (N := some 22) (v := ?_) (a' := ?_) #[true, true, true, true, true, true, true, true, true, false, false, false, false, false, false, false, false, false, false, false] rfl rfl (by kernel_rfl) (fun _ _ _ h => h) (Or.inl ⟨by rfl, ?_⟩) ?_ ?_
          rotate_left
          · intro w'
            go_simp
            with_reducible rfl
          rotate_left
          · simp only [Act.put, List.setIfInBounds_toArray, List.set_cons_zero, List.set_cons_succ, i64_w, i32_w]
            rfl
          refine pure_ (i := 9) (N := some 23) (v := ?_) (a' := ?_) #[true, true, true, true, true, true, true, true, true, true, false, false, false, false, false, false, false, false, false, false] rfl rfl (by kernel_rfl) (fun _ _ _ h => h) (Or.inl ⟨by rfl, ?_⟩) ?_ ?_
          rotate_left
          · intro w'
            go_simp
            with_reducible rfl
          rotate_left
          · simp only [Act.put, List.setIfInBounds_toArray, List.set_cons_zero, List.set_cons_succ, i64_w, i32_w]
            rfl
          refine pure_ (i := 10) (N := some 24) (v := ?_) (a' := ?_) #[true, true, true, true, true, true, true, true, true, true, true, false, false, false, false, false, false, false, false, false] rfl rfl (by kernel_rfl) (fun _ _ _ h => h) (Or.inl ⟨by rfl, ?_⟩) ?_ ?_
          rotate_left
          · intro w'
            go_simp
            with_reducible rfl
          rotate_left
          · simp only [Act.put, List.setIfInBounds_toArray, List.set_cons_zero, List.set_cons_succ, i64_w, i32_w]
            rfl
          refine pure_ (i := 11) (N := some 25) (v := ?_) (a' := ?_) #[true, true, true, true, true, true, true, true, true, true, true, true, false, false, false, false, false, false, false, false] rfl rfl (by kernel_rfl) (fun _ _ _ h => h) (Or.inl ⟨by rfl, ?_⟩) ?_ ?_
          rotate_left
          · intro w'
            go_simp
            with_reducible rfl
          rotate_left
          · simp only [Act.put, List.setIfInBounds_toArray, List.set_cons_zero, List.set_cons_succ, i64_w, i32_w]
            rfl
          refine pure_ (i := 12) (N := some 26) (v := ?_) (a' := ?_) #[true, true, true, true, true, true, true, true, true, true, true, true, true, false, false, false, false, false, false, false] rfl rfl (by kernel_rfl) (fun _ _ _ h => h) (Or.inl ⟨by rfl, ?_⟩) ?_ ?_
          rotate_left
          · intro w'
            go_simp
            with_reducible rfl
          rotate_left
          · simp only [Act.put, List.setIfInBounds_toArray, List.set_cons_zero, List.set_cons_succ, i64_w, i32_w]
            rfl
          refine pure_ (i := 14) (N := some 28) (v := ?_) (a' := ?_) #[true, true, true, true, true, true, true, true, true, true, true, true, true, false, true, false, false, false, false, false] rfl rfl (by kernel_rfl) (fun _ _ _ h => h) (Or.inl ⟨by rfl, ?_⟩) ?_ ?_
          rotate_left
          · intro w'
            go_simp
            with_reducible rfl
          rotate_left
          · simp only [Act.put, List.setIfInBounds_toArray, List.set_cons_zero, List.set_cons_succ, i64_w, i32_w]
            rfl
          refine pure_ (i := 15) (N := some 29) (v := ?_) (a' := ?_) #[true, true, true, true, true, true, true, true, true, true, true, true, true, false, true, true, false, false, false, false] rfl rfl (by kernel_rfl) (fun _ _ _ h => h) (Or.inl ⟨by rfl, ?_⟩) ?_ ?_
          rotate_left
          · intro w'
            go_simp
            with_reducible rfl
          rotate_left
          · simp only [Act.put, List.setIfInBounds_toArray, List.set_cons_zero, List.set_cons_succ, i64_w, i32_w]
            rfl
          refine pure_ (i := 16) (N := some 30) (v := ?_) (a' := ?_) #[true, true, true, true, true, true, true, true, true, true, true, true, true, false, true, true, true, false, false, false] rfl rfl (by kernel_rfl) (fun _ _ _ h => h) (Or.inl ⟨by rfl, ?_⟩) ?_ ?_
          rotate_left
          · intro w'
            go_simp
            with_reducible rfl
          rotate_left
          · simp only [Act.put, List.setIfInBounds_toArray, List.set_cons_zero, List.set_cons_succ, i64_w, i32_w]
            rfl
          refine take_ (i := 13) (N := some 27) (v := ?_) (a' := ?_) #[true, true, true, true, true, true, true, true, true, true, true, true, true, true, true, true, true, false, false, false] rfl rfl (by kernel_rfl) (fun _ _ _ h => h) (Or.inl ⟨by rfl, ?_⟩) hHeld ?_ ?_
          rotate_left
          · rintro w' ⟨s0, s1, s2⟩
            go_simp
            with_reducible rfl
          rotate_left
          · simp only [Act.put, List.setIfInBounds_toArray, List.set_cons_zero, List.set_cons_succ, i64_w, i32_w]
            rfl
          refine take_ (i := 17) (N := some 31) (v := ?_) (a' := ?_) #[true, true, true, true, true, true, true, true, true, true, true, true, true, true, true, true, true, true, false, false] rfl rfl (by kernel_rfl) (fun _ _ _ h => h) (Or.inl ⟨by rfl, ?_⟩) hHeld ?_ ?_
          rotate_left
          · rintro w' ⟨s0, s1, s2⟩
            go_simp
            with_reducible rfl
          rotate_left
          · simp only [Act.put, List.setIfInBounds_toArray, List.set_cons_zero, List.set_cons_succ, i64_w, i32_w]
            rfl
          refine pure_ (i := 18) (N := some 32) (v := ?_) (a' := ?_) #[true, true, true, true, true, true, true, true, true, true, true, true, true, true, true, true, true, true, true, false] rfl rfl (by kernel_rfl) (fun _ _ _ h => h) (Or.inl ⟨by rfl, ?_⟩) ?_ ?_
          rotate_left
          · intro w'
            go_simp
            with_reducible rfl
          rotate_left
          · simp only [Act.put, List.setIfInBounds_toArray, List.set_cons_zero, List.set_cons_succ, i64_w, i32_w]
            rfl
          refine pure_ (i := 19) (N := some 33) (v := ?_) (a' := ?_) #[true, true, true, true, true, true, true, true, true, true, true, true, true, true, true, true, true, true, true, true] rfl rfl (by kernel_rfl) (fun _ _ _ h => h) (Or.inl ⟨by rfl, ?_⟩) ?_ ?_
          rotate_left
          · intro w'
            go_simp
            with_reducible rfl
          rotate_left
          · simp only [Act.put, List.setIfInBounds_toArray, List.set_cons_zero, List.set_cons_succ, i64_w, i32_w]
            rfl
          refine done_ (by kernel_rfl) ?_
          clear hHeld
          go_wp2_with (go_at_call 30; refine (KW.out _).mono ?_; rintro e w4 ⟨rfl, rfl⟩)
          go_roundg k1
          case measure => have := HI.out; omega
          case rel => exact ⟨k + 1, by go_num, by rw [HST.out]; first | rfl | (rw [if_pos ⟨by first | rfl | trivial, cy⟩]; done) | (rw [if_pos ⟨by first | rfl | trivial, cy⟩]; rfl), ⟨by have := HI.out; omega, by have := HI.out; have := HC1.out; omega⟩, ⟨H.out⟩, ⟨HB.out⟩⟩
        · have e1 : decide (y ≤ t) = false := decide_eq_false cy
          go_upto_region 7 with fail
          refine start_ (n := 20) (S := fun w' => w'.cell? ⟨b, 4, none⟩ = some (.int .i64 t) ∧ w'.cell? ⟨b, 6, none⟩ = some (.int .u64 (s : Int)) ∧ w'.cell? ⟨b, 7 + k, none⟩ = some (.int .i64 y)) (ds := []) #[false, false, false, false, false, false, false, false, false, false, false, false, false, false, false, false, false, false, false, false] (by kernel_rfl) rfl rfl ⟨(H.out.ct.trans (by rw [HTE.out])), (H.out.cs.trans (by rw [HSE.out])), ((H.out.cw k hk64).trans (by rw [HY.out]))⟩ (fun hHeld => ?_)
          have n_ := Lib.hid H.out.drew
          have n2_ := Lib.hid (below_drew1 HB.out)
          clear H HB
          have H := n_
          have HB := n2_
          clear n_ n2_
          generalize wr.drew = w5 at H HB hHeld ⊢
          refine pure_ (i := 0) (N := some 14) (v := ?_) (a' := ?_) #[true, false, false, false, false, false, false, false, false, false, false, false, false, false, false, false, false, false, false, false] rfl rfl (by kernel_rfl) (fun _ _ _ h => h) (Or.inl ⟨by rfl, ?_⟩) ?_ ?_
          rotate_left
          · intro w'
            go_simp
            with_reducible rfl
          rotate_left
          · simp only [Act.put, List.setIfInBounds_toArray, List.set_cons_zero, List.set_cons_succ, i64_w, i32_w]
            rfl
          refine pure_ (i := 1) (N := some 15) (v := ?_) (a' := ?_) #[true, true, false, false, false, false, false, false, false, false, false, false, false, false, false, false, false, false, false, false] rfl rfl (by kernel_rfl) (fun _ _ _ h => h) (Or.inl ⟨by rfl, ?_⟩) ?_ ?_
          rotate_left
          · intro w'
            go_simp
            with_reducible rfl
          rotate_left
          · simp only [Act.put, List.setIfInBounds_toArray, List.set_cons_zero, List.set_cons_succ, i64_w, i32_w]
            rfl
          refine pure_ (i := 2) (N := some 16) (v := ?_) (a' := ?_) #[true, true, true, false, false, false, false, false, false, false, false, false, false, false, false, false, false, false, false, false] rfl rfl (by kernel_rfl) (fun _ _ _ h => h) (Or.inl ⟨by rfl, ?_⟩) ?_ ?_
          rotate_left
          · intro w'
            go_simp
            with_reducible rfl
          rotate_left
          · simp only [Act.put, List.setIfInBounds_toArray, List.set_cons_zero, List.set_cons_succ, i64_w, i32_w]
            rfl
          refine pure_ (i := 4) (N := some 18) (v := ?_) (a' := ?_) #[true, true, true, false, true, false, false, false, false, false, false, false, false, false, false, false, false, false, false, false] rfl rfl (by kernel_rfl) (fun _ _ _ h => h) (Or.inl ⟨by rfl, ?_⟩) ?_ ?_
          rotate_left
          · intro w'
            go_simp
            with_reducible rfl
          rotate_left
          · simp only [Act.put, List.setIfInBounds_toArray, List.set_cons_zero, List.set_cons_succ, i64_w, i32_w]
            rfl
          refine take_ (i := 3) (N := some 17) (v := ?_) (a' := ?_) #[true, true, true, true, true, false, false, false, false, false, false, false, false, false, false, false, false, false, false, false] rfl rfl (by kernel_rfl) (fun _ _ _ h => h) (Or.inl ⟨by rfl, ?_⟩) hHeld ?_ ?_
          rotate_left
          · rintro w' ⟨s0, s1, s2⟩
            go_simp
            with_reducible rfl
          rotate_left
          · simp only [Act.put, List.setIfInBounds_toArray, List.set_cons_zero, List.set_cons_succ, i64_w, i32_w]
            rfl
          refine one_ (i := 5) (N := some 19) #[true, true, true, true, true, true, false, false, false, false, false, false, false, false, false, false, false, false, false, false] rfl rfl (by kernel_rfl) (by decide) (fun K hK => ?_)
          refine goes_ Tryd.func29 (by kernel_rfl) rfl #[.int .u64 (s : Int), .int .i64 (k : Int)] (by rfl) rfl rfl (by (try simp only [List.map_toArray, List.map_cons, List.map_nil]); first | done | rfl | (simp only [List.length_drop, List.length_take]; rfl)) ?_
          with_reducible refine (KX.out _).mono ?_
          rintro e w3 ⟨rfl, rfl⟩
          refine ⟨_, rfl, ?_⟩
          refine hK.out _ _ ⟨(H.out.ct.trans (by rw [HTE.out])), (H.out.cs.trans (by rw [HSE.out])), ((H.out.cw k hk64).trans (by rw [HY.out]))⟩ (fun hHeld => ?_)
          clear hK K
          refine norm_ (a' := ?_) ?_ ?_
          rotate_left
          · show Act.put _ (some 19) _ = _
            simp only [Act.put, List.setIfInBounds_toArray, List.set_cons_zero, List.set_cons_succ, i64_w, i32_w]
            rfl
          refine pure_ (i := 6) (N := some 20) (v := ?_) (a' := ?_) #[true, true, true, true, true, true, true, false, false, false, false, false, false, false, false, false, false, false, false, false] rfl rfl (by kernel_rfl) (fun _ _ _ h => h) (Or.inl ⟨by rfl, ?_⟩) ?_ ?_
          rotate_left
          · intro w'
            go_simp
            with_reducible rfl
          rotate_left
          · simp only [Act.put, List.setIfInBounds_toArray, List.set_cons_zero, List.set_cons_succ, i64_w, i32_w]
            rfl
          refine pure_ (i := 7) (N := some 21) (v := ?_) (a' := ?_) #[true, true, true, true, true, true, true, true, false, false, false, false, false, false, false, false, false, false, false, false] rfl rfl (by kernel_rfl) (fun _ _ _ h => h) (Or.inl ⟨by rfl, ?_⟩) ?_ ?_
          rotate_left
          · intro w'
            go_simp
            with_reducible rfl
          rotate_left
          · simp only [Act.put, List.setIfInBounds_toArray, List.set_cons_zero, List.set_cons_succ, i64_w, i32_w]
            rfl
          refine pure_ (i := 8) (N := some 22) (v := ?_) (a' := ?_) #[true, true, true, true, true, true, true, true, true, false, false, false, false, false, false, false, false, false, false, false] rfl rfl (by kernel_rfl) (fun _ _ _ h => h) (Or.inl ⟨by rfl, ?_⟩) ?_ ?_
          rotate_left
          · intro w'
            go_simp
            with_reducible rfl
          rotate_left
          · simp only [Act.put, List.setIfInBounds_toArray, List.set_cons_zero, List.set_cons_succ, i64_w, i32_w]
            rfl
          refine pure_ (i := 9) (N := some 23) (v := ?_) (a' := ?_) #[true, true, true, true, true, true, true, true, true, true, false, false, false, false, false, false, false, false, false, false] rfl rfl (by kernel_rfl) (fun _ _ _ h => h) (Or.inl ⟨by rfl, ?_⟩) ?_ ?_
          rotate_left
          · intro w'
            go_simp
            with_reducible rfl
          rotate_left
          · simp only [Act.put, List.setIfInBounds_toArray, List.set_cons_zero, List.set_cons_succ, i64_w, i32_w]
            rfl
          refine pure_ (i := 10) (N := some 24) (v := ?_) (a' := ?_) #[true, true, true, true, true, true, true, true, true, true, true, false, false, false, false, false, false, false, false, false] rfl rfl (by kernel_rfl) (fun _ _ _ h => h) (Or.inl ⟨by rfl, ?_⟩) ?_ ?_
          rotate_left
          · intro w'
            go_simp
            with_reducible rfl
          rotate_left
          · simp only [Act.put, List.setIfInBounds_toArray, List.set_cons_zero, List.set_cons_succ, i64_w, i32_w]
            rfl
          refine pure_ (i := 11) (N := some 25) (v := ?_) (a' := ?_) #[true, true, true, true, true, true, true, true, true, true, true, true, false, false, false, false, false, false, false, false] rfl rfl (by kernel_rfl) (fun _ _ _ h => h) (Or.inl ⟨by rfl, ?_⟩) ?_ ?_
          rotate_left
          · intro w'
            go_simp
            with_reducible rfl
          rotate_left
          · simp only [Act.put, List.setIfInBounds_toArray, List.set_cons_zero, List.set_cons_succ, i64_w, i32_w]
            rfl
          refine pure_ (i := 12) (N := some 26) (v := ?_) (a' := ?_) #[true, true, true, true, true, true, true, true, true, true, true, true, true, false, false, false, false, false, false, false] rfl rfl (by kernel_rfl) (fun _ _ _ h => h) (Or.inl ⟨by rfl, ?_⟩) ?_ ?_
          rotate_left
          · intro w'
            go_simp
            with_reducible rfl
          rotate_left
          · simp only [Act.put, List.setIfInBounds_toArray, List.set_cons_zero, List.set_cons_succ, i64_w, i32_w]
            rfl
          refine pure_ (i := 14) (N := some 28) (v := ?_) (a' := ?_) #[true, true, true, true, true, true, true, true, true, true, true, true, true, false, true, false, false, false, false, false] rfl rfl (by kernel_rfl) (fun _ _ _ h => h) (Or.inl ⟨by rfl, ?_⟩) ?_ ?_
          rotate_left
          · intro w'
            go_simp
            with_reducible rfl
          rotate_left
          · simp only [Act.put, List.setIfInBounds_toArray, List.set_cons_zero, List.set_cons_succ, i64_w, i32_w]
            rfl
          refine pure_ (i := 15) (N := some 29) (v := ?_) (a' := ?_) #[true, true, true, true, true, true, true, true, true, true, true, true, true, false, true, true, false, false, false, false] rfl rfl (by kernel_rfl) (fun _ _ _ h => h) (Or.inl ⟨by rfl, ?_⟩) ?_ ?_
          rotate_left
          · intro w'
            go_simp
            with_reducible rfl
          rotate_left
          · simp only [Act.put, List.setIfInBounds_toArray, List.set_cons_zero, List.set_cons_succ, i64_w, i32_w]
            rfl
          refine pure_ (i := 16) (N := some 30) (v := ?_) (a' := ?_) #[true, true, true, true, true, true, true, true, true, true, true, true, true, false, true, true, true, false, false, false] rfl rfl (by kernel_rfl) (fun _ _ _ h => h) (Or.inl ⟨by rfl, ?_⟩) ?_ ?_
          rotate_left
          · intro w'
            go_simp
            with_reducible rfl
          rotate_left
          · simp only [Act.put, List.setIfInBounds_toArray, List.set_cons_zero, List.set_cons_succ, i64_w, i32_w]
            rfl
          refine take_ (i := 13) (N := some 27) (v := ?_) (a' := ?_) #[true, true, true, true, true, true, true, true, true, true, true, true, true, true, true, true, true, false, false, false] rfl rfl (by kernel_rfl) (fun _ _ _ h => h) (Or.inl ⟨by rfl, ?_⟩) hHeld ?_ ?_
          rotate_left
          · rintro w' ⟨s0, s1, s2⟩
            go_simp
            with_reducible rfl
          rotate_left
          · simp only [Act.put, List.setIfInBounds_toArray, List.set_cons_zero, List.set_cons_succ, i64_w, i32_w]
            rfl
          refine take_ (i := 17) (N := some 31) (v := ?_) (a' := ?_) #[true, true, true, true, true, true, true, true, true, true, true, true, true, true, true, true, true, true, false, false] rfl rfl (by kernel_rfl) (fun _ _ _ h => h) (Or.inl ⟨by rfl, ?_⟩) hHeld ?_ ?_
          rotate_left
          · rintro w' ⟨s0, s1, s2⟩
            go_simp
            with_reducible rfl
          rotate_left
          · simp only [Act.put, List.setIfInBounds_toArray, List.set_cons_zero, List.set_cons_succ, i64_w, i32_w]
            rfl
          refine pure_ (i := 18) (N := some 32) (v := ?_) (a' := ?_) #[true, true, true, true, true, true, true, true, true, true, true, true, true, true, true, true, true, true, true, false] rfl rfl (by kernel_rfl) (fun _ _ _ h => h) (Or.inl ⟨by rfl, ?_⟩) ?_ ?_
          rotate_left
          · intro w'
            go_simp
            with_reducible rfl
          rotate_left
          · simp only [Act.put, List.setIfInBounds_toArray, List.set_cons_zero, List.set_cons_succ, i64_w, i32_w]
            rfl
          refine pure_ (i := 19) (N := some 33) (v := ?_) (a' := ?_) #[true, true, true, true, true, true, true, true, true, true, true, true, true, true, true, true, true, true, true, true] rfl rfl (by kernel_rfl) (fun _ _ _ h => h) (Or.inl ⟨by rfl, ?_⟩) ?_ ?_
          rotate_left
          · intro w'
            go_simp
            with_reducible rfl
          rotate_left
          · simp only [Act.put, List.setIfInBounds_toArray, List.set_cons_zero, List.set_cons_succ, i64_w, i32_w]
            rfl
          refine done_ (by kernel_rfl) ?_
          clear hHeld
          go_wp2
          go_roundg k1
          case measure => have := HI.out; omega
          case rel => exact ⟨k + 1, by go_num, by rw [HST.out]; first | rfl | (rw [if_neg (fun h => by have := h.2; omega)]; done) | (rw [if_neg (fun h => by have := h.2; omega)]; rfl), ⟨by have := HI.out; omega, by have := HI.out; have := HC1.out; omega⟩, ⟨H.out⟩, ⟨HB.out⟩⟩
    · have d1 : decide (k < N) = false := decide_eq_false c1
      have d2 : decide ((k : Int) < (N : Int)) = false := decide_eq_false (by omega)
      obtain rfl : k = N := by have := HI.out; omega
      have hR := HN.out
      go_wp2
      go_ret
      exact ⟨by rw [hR]; rfl, HB.out⟩
theorem idle_q (b : Nat) (p : Pl) (w : World) (h : QT w b p) (ho : PlOk p) : Calls Tryd.prog 98 #[.pointer (some ⟨b, 0, none⟩)] w fun e w' => e = .returned (.int .u64 (minus (awkS p p.N) p.u : Nat)) ∧ Below w.heap.size w w' := by
  have K1 := Lib.hid (Awake_q b p w.drew h.drew ho)
  have H := Lib.hid h.drew
  have HB := Lib.hid (below_drew (Below.refl w.heap.size w))
  have hv := minus_val (awkS p p.N) p.u (awkS_lt p _) ho.hu
  obtain ⟨x, hx⟩ : ∃ x, awkS p p.N = x := ⟨_, rfl⟩
  obtain ⟨u, hu⟩ : ∃ u, p.u = u := ⟨_, rfl⟩
  rw [hx, hu] at hv ⊢
  rw [hx] at K1
  have HU := Lib.hid hu
  obtain ⟨m, hm⟩ : ∃ m, minus x u = m := ⟨_, rfl⟩
  rw [hm] at hv ⊢
  clear h ho hx hu hm
  go_enter Tryd.func98, Tryd.ntmps98
  go_upto_region 1 with fail
  refine start_ (n := 8) (S := fun w' => w'.cell? ⟨b, 5, none⟩ = some (.int .u64 (u : Int))) (ds := []) #[false, false, false, false, false, false, false, false] (by kernel_rfl) rfl rfl ((H.out.cu.trans (by rw [HU.out]))) (fun hHeld => ?_)
  refine pure_ (i := 0) (N := some 3) (v := ?_) (a' := ?_) #[true, false, false, false, false, false, false, false] rfl rfl (by kernel_rfl) (fun _ _ _ h => h) (Or.inl ⟨by rfl, ?_⟩) ?_ ?_
  rotate_left
  · intro w'
    go_simp
    with_reducible rfl
  rotate_left
  · simp only [Act.put, List.setIfInBounds_toArray, List.set_cons_zero, List.set_cons_succ, i64_w, i32_w]
    rfl
  refine pure_ (i := 2) (N := some 5) (v := ?_) (a' := ?_) #[true, false, true, false, false, false, false, false] rfl rfl (by kernel_rfl) (fun _ _ _ h => h) (Or.inl ⟨by rfl, ?_⟩) ?_ ?_
  rotate_left
  · intro w'
    go_simp
    with_reducible rfl
  rotate_left
  · simp only [Act.put, List.setIfInBounds_toArray, List.set_cons_zero, List.set_cons_succ, i64_w, i32_w]
    rfl
  refine pure_ (i := 3) (N := some 6) (v := ?_) (a' := ?_) #[true, false, true, true, false, false, false, false] rfl rfl (by kernel_rfl) (fun _ _ _ h => h) (Or.inl ⟨by rfl, ?_⟩) ?_ ?_
  rotate_left
  · intro w'
    go_simp
    with_reducible rfl
  rotate_left
  · simp only [Act.put, List.setIfInBounds_toArray, List.set_cons_zero, List.set_cons_succ, i64_w, i32_w]
    rfl
  refine pure_ (i := 4) (N := some 7) (v := ?_) (a' := ?_) #[true, false, true, true, true, false, false, false] rfl rfl (by kernel_rfl) (fun _ _ _ h => h) (Or.inl ⟨by rfl, ?_⟩) ?_ ?_
  rotate_left
  · intro w'
    go_simp
    with_reducible rfl
  rotate_left
  · simp only [Act.put, List.setIfInBounds_toArray, List.set_cons_zero, List.set_cons_succ, i64_w, i32_w]
    rfl
  refine take_ (i := 5) (N := some 8) (v := ?_) (a' := ?_) #[true, false, true, true, true, true, false, false] rfl rfl (by kernel_rfl) (fun _ _ _ h => h) (Or.inl ⟨by rfl, ?_⟩) hHeld ?_ ?_
  rotate_left
  · intro w' s0
    go_simp
    with_reducible rfl
  rotate_left
  · simp only [Act.put, List.setIfInBounds_toArray, List.set_cons_zero, List.set_cons_succ, i64_w, i32_w]
    rfl
  refine one_ (i := 1) (N := some 4) #[true, true, true, true, true, true, false, false] rfl rfl (by kernel_rfl) (by decide) (fun K hK => ?_)
  refine goes_ Tryd.func55 (by kernel_rfl) rfl #[.pointer (some ⟨b, 0, none⟩)] (by rfl) rfl rfl (by (try simp only [List.map_toArray, List.map_cons, List.map_nil]); first | done | rfl | (simp only [List.length_drop, List.length_take]; rfl)) ?_
  with_reducible refine (K1.out).mono ?_
  rintro e w3 ⟨rfl, hb⟩
  refine ⟨_, rfl, ?_⟩
  have n_ := Lib.hid (H.out.below hb)
  have n2_ := Lib.hid (below_step HB.out hb)
  clear H HB hb
  have H := n_
  have HB := n2_
  clear n_ n2_
  refine hK.out _ _ ((H.out.cu.trans (by rw [HU.out]))) (fun hHeld => ?_)
  clear hK K
  refine norm_ (a' := ?_) ?_ ?_
  rotate_left
  · show Act.put _ (some 4) _ = _
    simp only [Act.put, List.setIfInBounds_toArray, List.set_cons_zero, List.set_cons_succ, i64_w, i32_w]
    rfl
  refine pure_ (i := 6) (N := some 9) (v := ?_) (a' := ?_) #[true, true, true, true, true, true, true, false] rfl rfl (by kernel_rfl) (fun _ _ _ h => h) (Or.inl ⟨by rfl, ?_⟩) ?_ ?_
  rotate_left
  · intro w'
    go_simp
    with_reducible rfl
  rotate_left
  · simp only [Act.put, List.setIfInBounds_toArray, List.set_cons_zero, List.set_cons_succ, i64_w, i32_w]
    rfl
  refine pure_ (i := 7) (N := some 2) (v := ?_) (a' := ?_) #[true, true, true, true, true, true, true, true] rfl rfl (by kernel_rfl) (fun _ _ _ h => h) (Or.inl ⟨by rfl, ?_⟩) ?_ ?_
  rotate_left
  · intro w'
    go_simp
    with_reducible rfl
  rotate_left
  · simp only [Act.put, List.setIfInBounds_toArray, List.set_cons_zero, List.set_cons_succ, i64_w, i32_w]
    rfl
  refine done_ (by kernel_rfl) ?_
  go_wp2
  go_ret
  exact ⟨rfl, HB.out⟩
end Go.Proofs.YtmjkgnlmdcmdbaaDoor.Power
