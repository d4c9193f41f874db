/- Law 42: the nodes that sleep, and those that are awake, as lists; two lists that grow beside both plants. -/
import Derived.Test.YtmjkgnlmdcmdbaaDoorPl6
namespace Go.Proofs.YtmjkgnlmdcmdbaaDoor.Power
open Go.RowKit Go.Proofs.YtmjkgnlmdcmdbaaDoorW.PrintWords Go.Proofs.YtmjkgnlmdcmdbaaDoorW.PrintLast Go.Proofs.YtmjkgnlmdcmdbaaDoorW.PrintMore Go.Proofs.YtmjkgnlmdcmdbaaDoor.Row Go.Proofs.YtmjkgnlmdcmdbaaDoor.Sets Go.Proofs.YtmjkgnlmdcmdbaaDoor.Node Go.Proofs.YtmjkgnlmdcmdbaaDoor.Each
set_option linter.unusedVariables false
set_option linter.unusedSimpArgs false
set_option maxRecDepth 100000
def selL (f : Nat → Bool) (k : Nat) : List Int := Sets.nums ((List.range k).filter f)
theorem sel_yes (f : Nat → Bool) (k : Nat) (h : f k = true) : selL f (k + 1) = selL f k ++ [(k : Int)] := by
  unfold selL
  rw [List.range_succ, List.filter_append]
  simp [Sets.nums, h]
theorem sel_no (f : Nat → Bool) (k : Nat) (h : f k = false) : selL f (k + 1) = selL f k := by
  unfold selL
  rw [List.range_succ, List.filter_append]
  simp [Sets.nums, h]
theorem sel_len (f : Nat → Bool) (k : Nat) : (selL f k).length ≤ k := by
  unfold selL Sets.nums
  rw [List.length_map]
  exact Nat.le_trans (List.length_filter_le _ _) (by simp)
theorem sel_is (f : Nat → Bool) (k s : Nat) (hk : k ≤ 64) (hs : s < 18446744073709551616) (h : ∀ i, i < 64 → s.testBit i = (decide (i < k) && f i)) : ofS (selL f k) = s := by
  unfold selL
  refine eq_of_bits _ _ (ofS_lt _) hs fun i hi => ?_
  rw [ofS_bit _ _ hi, h i hi]
  have e : ((i : Int) ∈ Sets.nums ((List.range k).filter f)) ↔ (i < k ∧ f i = true) := by
    unfold Sets.nums
    rw [List.mem_map]
    constructor
    · rintro ⟨j, hj, hji⟩
      obtain rfl : j = i := by have hji : (j : Int) = (i : Int) := hji; omega
      rw [List.mem_filter, List.mem_range] at hj
      exact hj
    · intro hj
      exact ⟨i, by rw [List.mem_filter, List.mem_range]; exact hj, rfl⟩
  rw [decide_eq_decide.2 e, Bool.decide_and]
  cases f i <;> simp
theorem asleep_is (p : Pl) (ho : PlOk p) (hi : InN p) : ofS (selL (fun i => p.s.testBit i) p.N) = p.s := sel_is _ _ _ ho.hN.2 ho.hs fun i hlt => by
  cases hb : p.s.testBit i
  · simp
  · rw [decide_eq_true (hi i hlt hb)]; rfl
theorem awake_is (p : Pl) (ho : PlOk p) : ofS (selL (upB p) p.N) = awkS p p.N := sel_is _ _ _ ho.hN.2 (awkS_lt _ _) fun i hlt => awkS_bit p i hlt p.N
/-- both plants, and two lists that grow -/
structure LP (w0 w : World) (b bp : Nat) (p : Pl) (B0 : Nat) (v6 v7 : Value) (I U : List Int) : Prop where
  sp : SP w0 w b bp p
  o6 : Kd.R (Kd.int .i64) 3 w B0 (fun k => True ∧ some k ≠ v7.ownBlock) v6 I
  o7 : Kd.R (Kd.int .i64) 3 w B0 (fun k => True ∧ some k ≠ v6.ownBlock) v7 U
  ap : b < B0 ∧ bp < B0 ∧ B0 ≤ w.heap.size
section
variable {w0 w w' : World} {b bp : Nat} {p : Pl} {B0 : Nat} {v6 v7 : Value} {I U : List Int}
theorem SP.far (h : SP w0 w b bp p) (hb : Below B0 w w') (h1 : b < B0) (h2 : bp < B0) : SP w0 w' b bp p :=
  ⟨h.q.of_heap (hb.block b h1), PQ.of_heap h.u (hb.block bp h2), h.ok, h.inn, h.be.trans (hb.mono (by have := h.hb; omega)), h.ne, h.hb⟩
theorem LP.below (h : LP w0 w b bp p B0 v6 v7 I U) (hb : Below w.heap.size w w') : LP w0 w' b bp p B0 v6 v7 I U :=
  ⟨h.sp.below hb, Kd.R_below h.o6 hb, Kd.R_below h.o7 hb, h.ap.1, h.ap.2.1, Nat.le_trans h.ap.2.2 hb.size⟩
theorem LP.app6 (h : LP w0 w b bp p B0 v6 v7 I U) {w1 : World} {v1 : Value} {x : Int} (ho : Kd.R (Kd.int .i64) 3 w1 B0 (fun k => True ∧ some k ≠ v7.ownBlock) v1 (I ++ [x])) (hb : Below B0 w w1) (hg : w.grownBy w1 v6.ownBlock) (hat : v1.ownBlock = v6.ownBlock ∨ ∃ b, v1.ownBlock = some b ∧ w.heap.size ≤ b) :
    LP w0 w1 b bp p B0 v1 v7 (I ++ [x]) U := ⟨h.sp.far hb h.ap.1 h.ap.2.1, ho, Kd.R_after h.o7 hg hat, h.ap.1, h.ap.2.1, Nat.le_trans h.ap.2.2 hb.size⟩
theorem LP.app7 (h : LP w0 w b bp p B0 v6 v7 I U) {w1 : World} {v1 : Value} {x : Int} (ho : Kd.R (Kd.int .i64) 3 w1 B0 (fun k => True ∧ some k ≠ v6.ownBlock) v1 (U ++ [x])) (hb : Below B0 w w1) (hg : w.grownBy w1 v7.ownBlock) (hat : v1.ownBlock = v7.ownBlock ∨ ∃ b, v1.ownBlock = some b ∧ w.heap.size ≤ b) :
    LP w0 w1 b bp p B0 v6 v1 I (U ++ [x]) := ⟨h.sp.far hb h.ap.1 h.ap.2.1, Kd.R_after h.o6 hg hat, ho, h.ap.1, h.ap.2.1, Nat.le_trans h.ap.2.2 hb.size⟩
theorem LP.new6 (h : LP w0 w b bp p B0 v6 v7 I U) (k : Nat) (hk : w.heap.size ≤ k) : True ∧ some k ≠ v7.ownBlock := ⟨trivial, fun e => by have := Kd.R_lt h.o7 k e.symm; omega⟩
theorem LP.new7 (h : LP w0 w b bp p B0 v6 v7 I U) (k : Nat) (hk : w.heap.size ≤ k) : True ∧ some k ≠ v6.ownBlock := ⟨trivial, fun e => by have := Kd.R_lt h.o6 k e.symm; omega⟩
theorem LP.of6 (h : LP w0 w b bp p B0 v6 v7 I U) (hI : I.length ≤ 64) {s : Nat} (hs : ofS I = s) : Calls Tryd.prog 24 #[v6] w fun e w' => e = .returned (.int .u64 s) ∧ w = w' := by
  obtain ⟨A, c, rfl, hc, hC⟩ := Kd.R_reads h.o6
  refine (of_any A c I w (Rds.ofC hC) (by omega)).mono ?_
  rintro e w' ⟨rfl, rfl⟩
  exact ⟨by rw [hs], rfl⟩
theorem LP.of7 (h : LP w0 w b bp p B0 v6 v7 I U) (hU : U.length ≤ 64) {s : Nat} (hs : ofS U = s) : Calls Tryd.prog 24 #[v7] w fun e w' => e = .returned (.int .u64 s) ∧ w = w' := by
  obtain ⟨A, c, rfl, hc, hC⟩ := Kd.R_reads h.o7
  refine (of_any A c U w (Rds.ofC hC) (by omega)).mono ?_
  rintro e w' ⟨rfl, rfl⟩
  exact ⟨by rw [hs], rfl⟩
end
end Go.Proofs.YtmjkgnlmdcmdbaaDoor.Power
