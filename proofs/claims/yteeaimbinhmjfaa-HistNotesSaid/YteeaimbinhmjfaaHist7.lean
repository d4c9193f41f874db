/- hist.Log: Order; chapter 19's example. -/
import Derived.Test.YteeaimbinhmjfaaHist6
import Derived.Test.YteeaimbinhmjfaaHist2
import Derived.Test.YteeaimbinhmjfaaWGuard
namespace Go.Proofs.Yteeaimbinhmjfaa.Hist
open Go.RowKit Go.Proofs.Yteeaimbinhmjfaa.Flat Go.Proofs.YteeaimbinhmjfaaW.PrintWords Go.Proofs.YteeaimbinhmjfaaW.PrintLast Go.Proofs.YteeaimbinhmjfaaW.PrintMore
set_option linter.unusedVariables false
set_option linter.unusedSimpArgs false
set_option maxRecDepth 100000
theorem lit2 {W : World} {g : Nat} {a b : Int} (hb : W.heap[g]? = some (.cells #[.int .i64 a, .int .i64 b] 3 (0, 0))) : (Kd.int .i64).C W (some ⟨g, 0, none⟩) 2 [a, b] := by
  refine ⟨rfl, by decide, fun _ => ⟨_, rfl, fun j p hj => ⟨[.int .i64 p], rfl, rfl, fun i u hu => ?_⟩⟩⟩
  have hi : i = 0 := by
    rcases i with _ | i
    · rfl
    · simp at hu
  subst hi
  have hu : u = .int .i64 p := by simpa using hu.symm
  subst hu
  have hj2 : j < 2 := (List.getElem?_eq_some_iff.1 hj).1
  have hjj : j = 0 ∨ j = 1 := by omega
  rcases hjj with rfl | rfl
  · have hp : p = a := by simpa using hj.symm
    subst hp
    exact (blk_cell hb 0).trans rfl
  · have hp : p = b := by simpa using hj.symm
    subst hp
    exact (blk_cell hb 1).trans rfl
theorem Order_any (p : Value) (W : World) (l : List (List Value)) (hE : ∀ W', Below W.heap.size W W' → Calls Try.prog 11 #[p] W' fun e w' => ∃ v', e = .returned v' ∧ E24.R 31 w' W'.heap.size (fun _ => True) v' l ∧ Below W'.heap.size W' w') (hl : l.length ≤ 128) :
    Calls Try.prog 13 #[p] W fun e w' => ∃ v', e = .returned v' ∧ E24.R 31 w' W.heap.size (fun _ => True) v' (l.filter (ofK 2 4)) ∧ Below W.heap.size W w' := by
  have HE := Lib.hid hE
  have HL := Lib.hid hl
  clear hE hl
  go_enter Try.func13, Try.ntmps13
  go_wp2_with (go_at_call 12; refine (Of_any p _ 2 4 l _ _ (HE.out _ (below_alloc (Below.refl _ _) _)) HL.out (lit2 (blk_new W _)) (Nat.le_refl _)).mono ?_; rintro e w1 ⟨v1, rfl, hr, hb⟩; have HR := Lib.hid (Kd.R_lower hr (show W.heap.size ≤ _ by simp)); have HB := Lib.hid (below_step (below_alloc (Below.refl _ _) _) hb); clear hr hb)
  go_ret
  exact ⟨v1, rfl, HR.out, HB.out⟩
theorem flat_at : ∀ (cs : List (List Value)) (h : ∀ c ∈ cs, c.length = 24) (j : Nat) (p : List Value) (hj : cs[j]? = some p) (i : Nat) (u : Value) (hu : p[i]? = some u), cs.flatten[j * 24 + i]? = some u
  | [], _, _, _, hj, _, _, _ => by simp at hj
  | c :: r, h, 0, p, hj, i, u, hu => by
    have hp : c = p := by simpa using hj
    subst hp
    rw [List.flatten_cons, Nat.zero_mul, Nat.zero_add, List.getElem?_append_left (List.getElem?_eq_some_iff.1 hu).1]
    exact hu
  | c :: r, h, j + 1, p, hj, i, u, hu => by
    have hc := h c (List.mem_cons_self)
    rw [List.flatten_cons, List.getElem?_append_right (by omega), show (j + 1) * 24 + i - c.length = j * 24 + i by omega]
    exact flat_at r (fun c hc => h c (List.mem_cons_of_mem _ hc)) j p (by simpa using hj) i u hu
theorem C_flat {W : World} {g : Nat} {cs : List (List Value)} (hb : W.heap[g]? = some (.cells cs.flatten.toArray 31 (0, 0))) (hL : ∀ c ∈ cs, Flat.Leaves EL c) (hn : cs.length ≤ 9223372036854775807) : E24.C W (some ⟨g, 0, none⟩) cs.length cs := by
  refine ⟨rfl, hn, fun _ => ⟨_, rfl, fun j p hj => ?_⟩⟩
  have hp := hL p (List.mem_of_getElem? hj)
  refine ⟨p, Flat.Leaves.len hp, ⟨rfl, hp⟩, fun i u hu => ?_⟩
  have h1 := flat_at cs (fun c hc => Flat.Leaves.len (hL c hc)) j p hj i u hu
  have h2 := blk_cell hb (j * 24 + i)
  rw [List.getElem?_toArray, h1] at h2
  rw [← h2]
  show W.cell? ((⟨g, 0, none⟩ : Addr).add (j * 24 + i)) = _
  unfold Addr.add
  split
  · rename_i e; rw [e]
  · simp
theorem exec_lits {ρ : Operand → Value} {oi : Oper} {W : World} (n : Nat) (parts : Array (Nat × Operand)) (ho : oi.op = .buildSlice 22 n parts) (cs : List (List Value)) (hL : ∀ c ∈ cs, Flat.Leaves EL c) (hn : cs.length = n) (h0 : 0 < n) (h1 : n ≤ 64)
    (hp : (parts.toList.map fun (i, x) => (i, ρ x)) = ((cs.map fun c => Value.agg c.toArray).zipIdx 0).map fun x => (x.2, x.1)) : (execOp ρ oi).run Try.prog W = .ok (.value (.slice (some ⟨W.heap.size, 0, none⟩) n n)) (W.alloc (.cells cs.flatten.toArray 31)) := by
  obtain ⟨i, hi, hzz⟩ := Option.map_eq_some_iff.1 info24
  simp only [Prod.mk.injEq] at hzz
  obtain ⟨hz0, hz1, hz2⟩ := hzz
  have hsz : i.size = 24 := hz1
  have hrun : (Instr.buildSlice 22 n (parts.map fun (i, x) => (i, ρ x))).run Try.prog W = .ok (.slice (some ⟨W.heap.size, 0, none⟩) n n) (W.alloc (.cells cs.flatten.toArray 31)) := by
    refine run_buildSlice (P := Try.prog) W 22 31 n _ cs.flatten.toArray i _ Try.underlying22 hi hz0 (by rw [hsz]; omega) (by rw [hsz]; omega) ?_
    rw [hsz, Array.toList_map, hp]
    have hf := Great.fill_whole (s := 24) (by decide) (cs.map fun c => Value.agg c.toArray) ((Array.range (n * 24)).map fun k => ((Value.agg #[.int .i64 0, .int .i64 0, .int .i64 0, .int .i64 0, .int .i64 0, .int .i64 0, .int .i64 0, .int .i64 0, .int .i64 0, .bool false, .int .i64 0, .int .i64 0, .int .i64 0, .int .i64 0, .int .i64 0, .int .i64 0, .int .i64 0, .int .i64 0, .int .i64 0, .int .i64 0, .int .i64 0, .int .i64 0, .int .i64 0, .bool false]).cells[k % (Value.agg #[.int .i64 0, .int .i64 0, .int .i64 0, .int .i64 0, .int .i64 0, .int .i64 0, .int .i64 0, .int .i64 0, .int .i64 0, .bool false, .int .i64 0, .int .i64 0, .int .i64 0, .int .i64 0, .int .i64 0, .int .i64 0, .int .i64 0, .int .i64 0, .int .i64 0, .int .i64 0, .int .i64 0, .int .i64 0, .int .i64 0, .bool false]).cells.size]!)) (by
      intro v hv
      obtain ⟨c, hc, rfl⟩ := List.mem_map.1 hv
      simpa [Value.cells] using (show c.length = 24 from Flat.Leaves.len (hL c hc))) (by rw [List.length_map, hn]; simp)
    have e : ((cs.map fun c => Value.agg c.toArray).flatMap fun v => v.cells.toList).toArray = cs.flatten.toArray := by
      rw [List.flatMap_map]
      congr 1
      simp [Value.cells, List.flatMap_id']
    rw [e] at hf
    exact hf
  unfold execOp
  simp only [ho, Sem.run_bind, hrun, Result.andThen_ok, Sem.run_pure]
def evK (k : Int) : List Value := (zev.set 1 (.int .i64 k)).set 2 (.int .i64 1)
theorem evK_ok (k : Int) (hk : (Lit.int .i64 k).wf = true) : Flat.Leaves EL (evK k) := by
  unfold EL evK zev
  refine ⟨⟨_, rfl, by decide⟩, ⟨k, rfl, hk⟩, ?_⟩
  repeat (first | exact trivial | refine ⟨⟨_, rfl, by decide⟩, ?_⟩ | refine ⟨⟨_, rfl⟩, ?_⟩)
theorem exec_evK {ρ : Operand → Value} {oi : Oper} {W : World} (k : Int) (ho : oi.op = .build 31 #[(1, .const (.int .i64 k)), (2, .const (.int .i64 1))]) (hρ : ∀ v, ρ (.const v) = v) : (execOp ρ oi).run Try.prog W = .ok (.value (.agg (evK k).toArray)) W := by
  have hrun : (Instr.build 31 #[(1, .int .i64 k), (2, .int .i64 1)]).run Try.prog W = .ok (.agg (evK k).toArray) W := by kernel_rfl
  unfold execOp
  simp only [ho, List.map_toArray, List.map_cons, List.map_nil, hρ, Sem.run_bind, hrun, Result.andThen_ok, Sem.run_pure]
theorem all3 {e1 e2 e3 : List Value} (h1 : Flat.Leaves EL e1) (h2 : Flat.Leaves EL e2) (h3 : Flat.Leaves EL e3) : ∀ c ∈ [e1, e2, e3], Flat.Leaves EL c := fun c hc => by
  rcases List.mem_cons.1 hc with rfl | hc
  · exact h1
  rcases List.mem_cons.1 hc with rfl | hc
  · exact h2
  rcases List.mem_cons.1 hc with rfl | hc
  · exact h3
  cases hc
theorem awake_far {g gl : Nat} (h : g < gl) {ad : Addr} (ha : some (⟨gl, 0, none⟩ : Addr) = some ad) (hx : ad.block = g ∨ some ad.block = (Value.slice none 0 0).ownBlock) : False := by
  injection ha with ha
  subst ha
  rcases hx with hx | hx
  · have hx : gl = g := hx
    omega
  · cases hx
theorem below_weaken' {B : Nat} {w1 w2 w3 : World} (h : Below w1.heap.size w1 w2) (hB : B ≤ w1.heap.size) (k : Below B w2 w3) : Below B w1 w3 := ⟨k.os.trans h.os, k.tape.trans h.tape, k.output.trans h.output, Nat.le_trans h.size k.size, fun j hj => (k.block j hj).trans (h.block j (Nat.lt_of_lt_of_le hj hB))⟩
theorem sound_at (A : Option Addr) (c : Nat) (z : List (List Value)) (n : Nat) (b : Bool) (W : World) (hn : z.length = n) (hb : sound z = b) (hC : E24.C W A z.length z) (hl : z.length ≤ 64) : Calls Try.prog 6 #[.slice A n c] W fun e w' => e = .returned (.bool b) ∧ Below W.heap.size W w' := by
  subst hn hb
  exact Sound_any A c z W hC hl
theorem ev_build {ops : Array Oper} {rest : List Oper} {o : Oper} {a : Act} {Q : Exit → Act → World → Prop} {W : World} (hgd : o.guard = none) (k : Int) (hk : (Lit.int .i64 k).wf = true) (ho : o.op = .build 31 #[(1, .const (.int .i64 k)), (2, .const (.int .i64 1))])
    (h : ∀ e, e = evK k → Flat.Leaves EL e → wpList Try.prog ops Q rest (a.put o.dst (.agg e.toArray)) W) : wpList Try.prog ops Q (o :: rest) a W := Kd.event_run hgd (exec_evK k ho (fun _ => rfl)) (h _ rfl (evK_ok k hk))
theorem sound_ex : sound [evK 1, evK 2, evK 3] = true := by kernel_rfl
theorem sound_ex2 : sound [evK 2] = false := by kernel_rfl
set_option maxHeartbeats 4000000 in
theorem awake19_any (w : World) : Calls Try.prog 7 #[] w fun e w' => e = .returned (.bool true) ∧ Below w.heap.size w w' := by
  go_enter Try.func7, Try.ntmps7
  go_upto_region 2 with fail
  have BK := Lib.hid (blk_new w (.cells #[.slice none 0 0, .int .i64 0] 37))
  have HB := Lib.hid (below_alloc (Below.refl w.heap.size w) (.cells #[.slice none 0 0, .int .i64 0] 37))
  obtain ⟨g, hg⟩ : ∃ g, w.heap.size = g := ⟨_, rfl⟩
  have HG := Lib.hid hg
  rw [hg] at BK ⊢
  clear hg
  generalize w.alloc (.cells #[.slice none 0 0, .int .i64 0] 37) = w1 at BK HB ⊢
  go_upto_region 3 with (first
    | ((with_reducible refine gate_ (.build 31 #[(1, .const (.int .i64 1)), (2, .const (.int .i64 1))]) rfl ?_); refine ev_build rfl 1 (by decide) rfl ?_; intro e1 he hle; have HE1 := Lib.hid he; have HLE1 := Lib.hid hle; clear he hle)
    | ((with_reducible refine gate_ (.build 31 #[(1, .const (.int .i64 2)), (2, .const (.int .i64 1))]) rfl ?_); refine ev_build rfl 2 (by decide) rfl ?_; intro e2 he hle; have HE2 := Lib.hid he; have HLE2 := Lib.hid hle; clear he hle)
    | ((with_reducible refine gate_ (.build 31 #[(1, .const (.int .i64 3)), (2, .const (.int .i64 1))]) rfl ?_); refine ev_build rfl 3 (by decide) rfl ?_; intro e3 he hle; have HE3 := Lib.hid he; have HLE3 := Lib.hid hle; clear he hle)
    | ((with_reducible refine gate_ (.buildSlice 22 3 #[(0, .tmp 5), (1, .tmp 6), (2, .tmp 7)]) rfl ?_); go_loud (refine Kd.event_run rfl (exec_lits 3 #[(0, .tmp 5), (1, .tmp 6), (2, .tmp 7)] rfl [e1, e2, e3] (all3 HLE1.out HLE2.out HLE3.out) rfl (by decide) (by decide) rfl) ?_); go_loud (have BL := Lib.hid (blk_new w1 (.cells [e1, e2, e3].flatten.toArray 31)); have HB2 := Lib.hid (below_alloc (Below.refl w1.heap.size w1) (.cells [e1, e2, e3].flatten.toArray 31)); (obtain ⟨gl, hgl⟩ : ∃ gl, w1.heap.size = gl := ⟨_, rfl⟩); have HGL : Hid (g < gl) := Lib.hid (by have := blk_lt BK.out; omega); rw [hgl] at BL ⊢; (generalize w1.alloc (.cells [e1, e2, e3].flatten.toArray 31) = w2 at BL HB2 ⊢)))
    | (go_at_call 9; go_loud (refine (Note_any w2 g g (fun k => k ≠ g) (.slice none 0 0) 0 [] [e1, e2, e3] (some ⟨gl, 0, none⟩) 3 (blk_below BK.out HB2.out) (Kd.R_nil _ _ _ _ _) (by have := blk_lt BL.out; have := HGL.out; omega) (fun k h => h) (fun k hk => by have := blk_lt BL.out; have := HGL.out; omega) (by decide) (C_flat BL.out (all3 HLE1.out HLE2.out HLE3.out) (by show 3 ≤ 9223372036854775807; decide)) (fun ad h _ hx => awake_far HGL.out h hx) (by show 0 + 3 ≤ 128; decide)).mono ?_); rintro e w3 ⟨rfl, v1, hnt⟩; have HNT := Lib.hid hnt; clear hnt))
  have HLG := Lib.hid HNT.out.lg
  obtain ⟨l3, hl3⟩ : ∃ l3, [] ++ [e1, e2, e3].map (setS 0) = l3 := ⟨_, rfl⟩
  have HLL : Hid (l3 = [evK 1, evK 2, evK 3]) := Lib.hid (by rw [← hl3, HE1.out, HE2.out, HE3.out]; kernel_rfl)
  have HR3 : Hid (E24.R 31 w3 g (fun k => k ≠ g) v1 l3) := Lib.hid (by have h := HNT.out.r; rw [hl3] at h; exact h)
  have HB3 : Hid (Below w.heap.size w w3) := Lib.hid (below_weaken HB.out (show w.heap.size ≤ g by rw [HG.out]; exact Nat.le_refl _) ((below_weaken' HB2.out (by have := blk_lt BL.out; have := HGL.out; omega) (HNT.out.ch.toBelow (B := g) (by have := blk_lt BL.out; have := HGL.out; omega) (fun k hk hx => by rcases hx with hx | hx; omega; cases hx)))))
  have HS1 : Hid (sound l3 = true) := Lib.hid (by rw [HLL.out]; exact sound_ex)
  have HF : Hid ((l3.filter (ofK 2 4)).length = 1) := Lib.hid (by rw [HLL.out]; kernel_rfl)
  have HN3 : Hid (l3.length ≤ 64) := Lib.hid (by rw [HLL.out]; decide)
  clear HNT hl3 HE1 HE2 HE3 HLE1 HLE2 HLE3 BL HB2 HGL HB BK HLL
  obtain ⟨n3, hn3⟩ : ∃ n, l3.length = n := ⟨_, rfl⟩
  have HN := Lib.hid hn3
  clear hn3
  have tok1 : True := trivial
  go_wp2_with (first
    | (go_at_call 11; refine (Events_any w3 g g (fun k => k ≠ g) v1 0 l3 HLG.out HR3.out (by have := HN3.out; omega)).mono ?_; rintro e w4 ⟨v4, rfl, hr, hb⟩; have HB4 := Lib.hid (below_step HB3.out hb); have HLG4 := Lib.hid (blk_below HLG.out hb); have HR4 := Lib.hid (Kd.R_below HR3.out hb); (obtain ⟨A4, c4, hv4, hc4, hC4⟩ := Kd.R_reads hr); rw [HN.out] at hv4; subst hv4; have HC4 := Lib.hid hC4; clear hr hb hc4 hC4 HB3 HLG HR3)
    | (have _t := tok1; go_at_call 6; go_loud (refine (sound_at A4 c4 l3 n3 true w4 HN.out HS1.out HC4.out HN3.out).mono ?_); rintro e w5 ⟨rfl, hb⟩; have HB5 := Lib.hid (below_step HB4.out hb); have HLG5 := Lib.hid (blk_below HLG4.out hb); have HR5 := Lib.hid (Kd.R_below HR4.out hb); clear hb HB4 HLG4 HR4 HC4 tok1 _t; have tok2 : True := trivial)
    | ((with_reducible refine gate_ (.build 31 #[(1, .const (.int .i64 2)), (2, .const (.int .i64 1))]) rfl ?_); refine gate_guard (by rfl) ?_; refine ev_build rfl 2 (by decide) rfl ?_; intro e4 he hle; have HE4 := Lib.hid he; have HLE4 := Lib.hid hle; clear he hle)
    | ((with_reducible refine gate_ (.buildSlice 22 1 #[(0, .tmp 14)]) rfl ?_); refine gate_guard (by rfl) ?_; go_loud (refine Kd.event_run rfl (exec_lits 1 #[(0, .tmp 14)] rfl [e4] (fun c hc => by rw [List.mem_singleton.1 hc]; exact HLE4.out) rfl (by decide) (by decide) rfl) ?_); have BL := Lib.hid (blk_new w5 (.cells [e4].flatten.toArray 31)); have HB6 := Lib.hid (below_alloc (Below.refl w5.heap.size w5) (.cells [e4].flatten.toArray 31)); have HBW := Lib.hid (below_step HB5.out HB6.out); have HLG6 := Lib.hid (blk_below HLG5.out HB6.out); have HR6 := Lib.hid (Kd.R_below HR5.out HB6.out); (generalize w5.heap.size = gl at BL ⊢); (generalize w5.alloc (.cells [e4].flatten.toArray 31) = w6 at BL HBW HLG6 HR6 ⊢); clear HB5 HLG5 HR5 HB6)
    | (have _t := tok2; go_at_call 6; go_loud (refine (sound_at (some ⟨gl, 0, none⟩) 1 [e4] 1 false w6 rfl (by rw [HE4.out]; exact sound_ex2) (C_flat BL.out (fun c hc => by rw [List.mem_singleton.1 hc]; exact HLE4.out) (by show 1 ≤ 9223372036854775807; decide)) (by show 1 ≤ 64; decide)).mono ?_); rintro e w7 ⟨rfl, hb⟩; have HB7 := Lib.hid (below_step HBW.out hb); have HLG7 := Lib.hid (blk_below HLG6.out hb); have HR7 := Lib.hid (Kd.R_below HR6.out hb); clear hb HBW HLG6 HR6 BL tok2 _t)
    | (go_at_call 13; go_loud (refine (Order_any (.pointer (some ⟨g, 0, none⟩)) w7 l3 (fun W' hW => Events_any W' g g (fun k => k ≠ g) v1 0 l3 (blk_below HLG7.out hW) (Kd.R_below HR7.out hW) (by have := HN3.out; omega)) (by have := HN3.out; omega)).mono ?_); rintro e w8 ⟨v8, rfl, hr, hb⟩; have HB8 := Lib.hid (below_step HB7.out hb); (obtain ⟨A8, c8, hv8⟩ := Kd.R_slice hr); rw [HF.out] at hv8; subst hv8; clear hr hb HB7 HLG7 HR7))
  go_ret
  exact ⟨rfl, HB8.out⟩
end Go.Proofs.Yteeaimbinhmjfaa.Hist
