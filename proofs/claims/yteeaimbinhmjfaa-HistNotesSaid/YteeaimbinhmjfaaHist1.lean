/- Events: 24 cells of ints and bools. Their kind, an event read and written whole, and what a list of events tells (plain). -/
import Derived.Test.YteeaimbinhmjfaaPHistNotesx1
import Derived.Test.YteeaimbinhmjfaaFlat
import Derived.Test.YteeaimbinhmjfaaOpen
import Derived.Lib.Hide
namespace Go.Proofs.Yteeaimbinhmjfaa.Hist
open Go.RowKit Go.Proofs.Yteeaimbinhmjfaa.Flat Go.Proofs.YteeaimbinhmjfaaW.PrintWords Go.Proofs.YteeaimbinhmjfaaW.PrintLast Go.Proofs.YteeaimbinhmjfaaW.PrintMore
set_option linter.unusedVariables false
set_option linter.unusedSimpArgs false
set_option maxRecDepth 100000
def EL : List Leaf := [.int .i64, .int .i64, .int .i64, .int .i64, .int .i64, .int .i64, .int .i64, .int .i64, .int .i64, .bool, .int .i64, .int .i64, .int .i64, .int .i64, .int .i64, .int .i64, .int .i64, .int .i64, .int .i64, .int .i64, .int .i64, .int .i64, .int .i64, .bool]
theorem leaves_one : ∀ (ls : List Leaf) (cs : List Value), Flat.Leaves ls cs → ∀ u ∈ cs, u.oneCell' = true
  | [], [], _, u, hu => by cases hu
  | l :: ls, c :: cs, h, u, hu => by
    rcases List.mem_cons.1 hu with rfl | hu
    · cases l with
      | int k => obtain ⟨n, rfl, _⟩ := h.1; rfl
      | bool => obtain ⟨b, rfl⟩ := h.1; rfl
    · exact leaves_one ls cs h.2 u hu
  | [], _ :: _, h, _, _ => h.elim
  | _ :: _, [], h, _, _ => h.elim
/-- an event, by its cells -/
def E24 : Kd (List Value) where
  sz := 24
  E := []
  K := fun _ x cs => cs = x ∧ Flat.Leaves EL x
  M := fun _ _ _ x cs => cs = x ∧ Flat.Leaves EL x
  K_len := fun h => by rw [h.1]; exact Flat.Leaves.len h.2
  K_one := fun h u hu => leaves_one _ _ h.2 u (h.1 ▸ hu)
  K_below := fun _ h => h
  K_of_M := fun h => h
  M_mono := fun _ h => h
  M_bound := fun h => h
  M_move := fun _ h => h
  M_lower := fun _ h => h
theorem ev_of_flat {w : World} {A : Option Addr} {n : Nat} {z : List (List Value)} (h : FlatRow w A n EL z) (hn : n ≤ 9223372036854775807) : E24.C w A z.length z := by
  obtain ⟨h1, h2, h3⟩ := h
  refine ⟨rfl, by omega, fun hp => ?_⟩
  obtain ⟨ad, hA, hc⟩ := h3 (by omega)
  exact ⟨ad, hA, fun j p hj => ⟨p, Flat.Leaves.len (h2 j p hj), ⟨rfl, h2 j p hj⟩, fun i u hu => hc j p hj i u hu⟩⟩
theorem ev_at {w : World} {A : Option Addr} {n : Nat} {z : List (List Value)} (h : E24.C w A n z) (i : Nat) (hi : i < n) :
    ∃ ad, A = some ad ∧ Flat.Leaves EL (z.getD i []) ∧ ∀ j u, (z.getD i [])[j]? = some u → w.cell? (ad.add (i * 24 + j)) = some u := by
  obtain ⟨ad, c, hA, hl, ⟨hK, hL⟩, hc⟩ := Kd.C_get h [] (i : Int) (by omega) (by omega)
  rw [Int.toNat_natCast] at hK hL
  subst hK
  exact ⟨ad, hA, hL, fun j u hu => hc j u hu⟩
/-- the number in a cell -/
def iv (c : List Value) (j : Nat) : Int := match c[j]? with
  | some (.int _ n) => n
  | _ => 0
theorem iv_is {c : List Value} (h : Flat.Leaves EL c) (j : Nat) (hj : j < 3) : c[j]? = some (.int .i64 (iv c j)) ∧ (Lit.int .i64 (iv c j)).wf = true := by
  obtain ⟨c0, d0, rfl, ⟨n0, rfl, w0⟩, h0⟩ := Flat.Leaves.cons h
  obtain ⟨c1, d1, rfl, ⟨n1, rfl, w1⟩, h1⟩ := Flat.Leaves.cons h0
  obtain ⟨c2, d2, rfl, ⟨n2, rfl, w2⟩, h2⟩ := Flat.Leaves.cons h1
  have : j = 0 ∨ j = 1 ∨ j = 2 := by omega
  rcases this with rfl | rfl | rfl
  · exact ⟨rfl, w0⟩
  · exact ⟨rfl, w1⟩
  · exact ⟨rfl, w2⟩
theorem info24 : (Try.prog.info? 31).map (fun i => (i.zero, i.size, i.bytes)) = some (some (.agg #[.int .i64 0, .int .i64 0, .int .i64 0, .int .i64 0, .int .i64 0, .int .i64 0, .int .i64 0, .int .i64 0, .int .i64 0, .bool false, .int .i64 0, .int .i64 0, .int .i64 0, .int .i64 0, .int .i64 0, .int .i64 0, .int .i64 0, .int .i64 0, .int .i64 0, .int .i64 0, .int .i64 0, .int .i64 0, .int .i64 0, .bool false]), E24.sz, 192) := by show _ = some (some _, 24, 192); kernel_rfl
def zev : List Value := [.int .i64 0, .int .i64 0, .int .i64 0, .int .i64 0, .int .i64 0, .int .i64 0, .int .i64 0, .int .i64 0, .int .i64 0, .bool false, .int .i64 0, .int .i64 0, .int .i64 0, .int .i64 0, .int .i64 0, .int .i64 0, .int .i64 0, .int .i64 0, .int .i64 0, .int .i64 0, .int .i64 0, .int .i64 0, .int .i64 0, .bool false]
theorem zev_ok : Flat.Leaves EL zev := by
  unfold EL zev
  repeat (first | exact trivial | refine ⟨⟨_, rfl, by decide⟩, ?_⟩ | refine ⟨⟨_, rfl⟩, ?_⟩)
theorem ev_size : (Try.prog.info? 31).map (·.size) = some 24 := by kernel_rfl
section
variable {ops : Array Oper} {rest : List Oper} {o : Oper} {a : Act} {Q : Exit → Act → World → Prop} {W : World}
theorem run_load_ev (c : List Value) (hl : c.length = 24) {ad : Addr} (hc : ∀ j u, c[j]? = some u → W.cell? (ad.add j) = some u) : (Instr.loadAt 31 (.pointer (some ad))).run Try.prog W = .ok (.agg c.toArray) W := by
  have hagg : (isAgg 31).run Try.prog W = .ok true W := by simp [isAgg, run_underlying Try.underlying31]
  obtain ⟨i, hi, hsz⟩ := Option.map_eq_some_iff.1 ev_size
  have h1 := run_loadCells_list (P := Try.prog) W ad c hc
  rw [hl] at h1
  simp [Instr.loadAt, Instr.sureAddr, loadVar, hagg, sizeOf, typeInfo, hi, hsz, h1]
theorem ev_load (hgd : o.guard = none) (p : Operand) (ho : o.op = .load 31 p) (c : List Value) (hl : c.length = 24) {ad : Addr} (hp : a.eval p = .pointer (some ad)) (hc : ∀ j u, c[j]? = some u → W.cell? (ad.add j) = some u) (h : wpList Try.prog ops Q rest (a.put o.dst (.agg c.toArray)) W) : wpList Try.prog ops Q (o :: rest) a W := by
  refine Kd.event_run (v := .agg c.toArray) hgd ?_ h
  unfold execOp
  simp only [ho, hp, Sem.run_bind, run_load_ev c hl hc, Result.andThen_ok, Sem.run_pure]
theorem ev_alloc (hgd : o.guard = none) {N : Tmp} (hd : o.dst = some N) (ho : o.op = .alloc 31) (h : ∀ g W1, g = W.heap.size → W1.heap[g]? = some (.cells zev.toArray 31 (0, 0)) → Below W.heap.size W W1 → wpList Try.prog ops Q rest (a.put o.dst (.pointer (some ⟨g, 0, none⟩))) W1) : wpList Try.prog ops Q (o :: rest) a W := by
  refine box_event (N := N) (cs := zev.toArray) (t := 31) hgd hd ?_ fun g hg W1 h1 h2 => h g W1 hg h1 h2
  obtain ⟨i, hi, hzz⟩ := Option.map_eq_some_iff.1 info24
  simp only [Prod.mk.injEq] at hzz
  obtain ⟨hz0, hz1, hz2⟩ := hzz
  unfold execOp
  simp only [ho, Instr.alloc, Sem.run_bind, zeroValue, typeInfo]
  simp [hi, hz0, newVar, newRow, Value.cells, zev]
theorem ev_store (hgd : o.guard = none) (hN : o.dst = none) (p v : Operand) (ho : o.op = .store 31 p v) {g : Nat} (c : List Value) (hL : Flat.Leaves EL c) {cs : Array Value} (hb : W.heap[g]? = some (.cells cs 31 (0, 0))) (hsz : cs.size = 24) (hp : a.eval p = .pointer (some ⟨g, 0, none⟩)) (hv : a.eval v = .agg c.toArray) (h : ∀ W1, W1.heap[g]? = some (.cells c.toArray 31 (0, 0)) → W.grownBy W1 (some g) → wpList Try.prog ops Q rest a W1) : wpList Try.prog ops Q (o :: rest) a W := by
  have hl : c.length = 24 := Flat.Leaves.len hL
  have hrun := run_store_run (P := Try.prog) (o := 0) 31 (.agg c.toArray) c hb (by simp [Value.cells]) (by rw [hl]; exact ev_size) (by omega) (leaves_one _ _ hL)
  obtain ⟨cur', h3, h4, h5⟩ := setCells_row c 0 W cs hb (by omega)
  obtain ⟨s1, s2, s3, s4⟩ := setCells_same g c 0 W
  have e : cur' = c.toArray := by
    apply Array.ext'
    rw [h5, List.take_zero, List.nil_append, List.drop_of_length_le (by simp; omega), List.append_nil]
  subst e
  refine wpList_plain hgd fun K hK => ?_
  unfold Oper.wp execOp
  simp only [ho, hp, hv, Sem.run_bind, Sem.run_pure, Result.andThen_ok, hrun]
  show K (a.put o.dst undef) _
  rw [hN]
  exact hK a _ (h _ h3 ⟨s1, s2, s3, by rw [s4]; exact Nat.le_refl _, fun k _ hk => setCells_far _ _ k (fun he => hk (by rw [he]))⟩)
end
end Go.Proofs.Yteeaimbinhmjfaa.Hist
