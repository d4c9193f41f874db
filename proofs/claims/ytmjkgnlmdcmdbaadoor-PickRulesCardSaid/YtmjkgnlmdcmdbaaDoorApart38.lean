/- pick.apart: two ranges over Each. -/
import Derived.Test.YtmjkgnlmdcmdbaaDoorEach2
import Derived.RegionIn
namespace Go.Proofs.YtmjkgnlmdcmdbaaDoor.Pick
open Go.RowKit Go.Shelf Go.Proofs.YtmjkgnlmdcmdbaaDoorW.PrintWords Go.Proofs.YtmjkgnlmdcmdbaaDoorW.PrintMore Go.Proofs.YtmjkgnlmdcmdbaaDoor.Sets Go.Proofs.YtmjkgnlmdcmdbaaDoor.Each
set_option linter.unusedVariables false
set_option linter.unusedSimpArgs false
attribute [local go_sem] Oper.semAt_some
/-- one node on: the set so far, the last one that was taken -/
def apStep (n : Int) (p : Nat × Int) (k : Int) : Nat × Int := if (lenS p.1 : Int) < n ∧ p.2 + 1 < k then (withS p.1 k, k) else p
def ap1 (L : List Nat) (n : Int) : Nat → Nat × Int
  | 0 => (0, -2)
  | i + 1 => apStep n (ap1 L n i) (L.getD i 0 : Nat)
def ap2 (L : List Nat) (n : Int) (o : Nat) : Nat → Nat
  | 0 => o
  | i + 1 => if (lenS (ap2 L n o i) : Int) < n then withS (ap2 L n o i) (L.getD i 0 : Nat) else ap2 L n o i
def apartS (s : Nat) (n : Int) : Nat := ap2 (nodes s) n (ap1 (nodes s) n (lenS s)).1 (lenS s)
/-- apart's boxes: the number, the set, the last one -/
structure AI (w W : World) (b : Nat) (n : Int) (o : Nat) (la : Int) : Prop where
  c0 : W.cell? ⟨b, 0, none⟩ = some (.int .i64 n)
  c1 : W.cell? ⟨b + 1, 0, none⟩ = some (.int .u64 o)
  c2 : W.cell? ⟨b + 1 + 1, 0, none⟩ = some (.int .i64 la)
  f1 : W.frozen? ⟨b + 1, 0, none⟩ = false
  f2 : W.frozen? ⟨b + 1 + 1, 0, none⟩ = false
  be : Below w.heap.size w W
  bb : w.heap.size = b
section
variable {w W W' : World} {b : Nat} {n la : Int} {o : Nat}
theorem AI.putObj (h : AI w W b n o la) (l : Nat) (x : Obj) (hl : b + 1 + 1 < l) : AI w (W.putObj l x) b n o la := by
  have e : ∀ k, k ≤ b + 1 + 1 → (W.putObj l x).heap[k]? = W.heap[k]? := fun k hk => World.putObj_heap_other (by omega)
  have hs := h.be.size
  have hb := h.bb
  exact ⟨(World.cell?_of_block (e b (by omega))).trans h.c0, (World.cell?_of_block (e (b + 1) (by omega))).trans h.c1, (World.cell?_of_block (e (b + 1 + 1) (by omega))).trans h.c2,
    (World.frozen?_of_block (e (b + 1) (by omega))).trans h.f1, (World.frozen?_of_block (e (b + 1 + 1) (by omega))).trans h.f2, h.be.grown (grownBy_putObj' W l x) hs (fun k ek => by cases ek; omega), hb⟩
theorem AI.below (h : AI w W b n o la) (hb : Below W.heap.size W W') : AI w W' b n o la :=
  ⟨(hb.cell (p := ⟨b, 0, none⟩) (World.block_lt_of_cell? W _ h.c0)).trans h.c0, (hb.cell (p := ⟨b + 1, 0, none⟩) (World.block_lt_of_cell? W _ h.c1)).trans h.c1, (hb.cell (p := ⟨b + 1 + 1, 0, none⟩) (World.block_lt_of_cell? W _ h.c2)).trans h.c2,
    (World.frozen?_of_block (a := ⟨b + 1, 0, none⟩) (hb.block _ (World.block_lt_of_cell? W _ h.c1))).trans h.f1, (World.frozen?_of_block (a := ⟨b + 1 + 1, 0, none⟩) (hb.block _ (World.block_lt_of_cell? W _ h.c2))).trans h.f2, h.be.trans (hb.mono h.be.size), h.bb⟩
theorem AI.lt (h : AI w W b n o la) : b + 1 + 1 < W.heap.size := World.block_lt_of_cell? W _ h.c2
theorem AI.new (w : World) (n : Int) : AI w (((w.alloc (.cells #[.int .i64 n] 3)).alloc (.cells #[.int .u64 0] 23)).alloc (.cells #[.int .i64 (-2)] 3)) w.heap.size n 0 (-2) := by
  have h0 := blk_new w (.cells #[.int .i64 n] 3)
  have h1 := blk_new (w.alloc (.cells #[.int .i64 n] 3)) (.cells #[.int .u64 0] 23)
  have h2 := blk_new ((w.alloc (.cells #[.int .i64 n] 3)).alloc (.cells #[.int .u64 0] 23)) (.cells #[.int .i64 (-2)] 3)
  rw [World.size_alloc] at h1
  rw [World.size_alloc, World.size_alloc] at h2
  have h0' := blk_alloc (blk_alloc h0 (.cells #[.int .u64 0] 23)) (.cells #[.int .i64 (-2)] 3)
  have h1' := blk_alloc h1 (.cells #[.int .i64 (-2)] 3)
  exact ⟨(blk_cell h0' 0).trans rfl, (blk_cell h1' 0).trans rfl, (blk_cell h2 0).trans rfl, blk_frozen h1' 0, blk_frozen h2 0, below_alloc (below_alloc (below_alloc (Below.refl w.heap.size w) _) _) _, rfl⟩
theorem AI.drew (h : AI w W b n o la) : AI w W.drew b n o la := ⟨h.c0, h.c1, h.c2, h.f1, h.f2, below_drew h.be, h.bb⟩
theorem AI.set1 (h : AI w W b n o la) (o' : Nat) : AI w (W.setCell ⟨b + 1, 0, none⟩ (.int .u64 o')) b n o' la := by
  obtain ⟨c0, c1, c2, f1, f2, be, bb⟩ := h
  exact ⟨by go_cell, by go_cell, by go_cell, by simp [go_sem, f1], by simp [go_sem, f2], be.setCell (p := ⟨b + 1, 0, none⟩) (by show w.heap.size ≤ b + 1; omega) _, bb⟩
theorem AI.set2 (h : AI w W b n o la) (la' : Int) : AI w (W.setCell ⟨b + 1 + 1, 0, none⟩ (.int .i64 la')) b n o la' := by
  obtain ⟨c0, c1, c2, f1, f2, be, bb⟩ := h
  exact ⟨by go_cell, by go_cell, by go_cell, by simp [go_sem, f1], by simp [go_sem, f2], be.setCell (p := ⟨b + 1 + 1, 0, none⟩) (by show w.heap.size ≤ b + 1 + 1; omega) _, bb⟩
end
theorem vals_at (s k : Nat) (v : Value) (h : (vals s)[k]? = some v) : ∃ x : Nat, v = .int .i64 (x : Int) ∧ (nodes s).getD k 0 = x ∧ x < 64 ∧ k < lenS s := by
  unfold vals at h
  rw [List.getElem?_map] at h
  cases hk : (nodes s)[k]? with
  | none => rw [hk] at h; cases h
  | some x =>
    rw [hk] at h
    injection h with h
    refine ⟨x, h.symm, ?_, nodes_lt s x (List.mem_of_getElem? hk), (List.getElem?_eq_some_iff.1 hk).1⟩
    rw [List.getD_eq_getElem?_getD, hk]
    rfl
theorem nodes_at_lt (s k : Nat) : (nodes s).getD k 0 < 64 := by
  rw [List.getD_eq_getElem?_getD]
  cases hk : (nodes s)[k]? with
  | none => decide
  | some x => exact nodes_lt s x (List.mem_of_getElem? hk)
theorem ap1_in (s : Nat) (n : Int) : ∀ k, (ap1 (nodes s) n k).1 < 18446744073709551616 ∧ -2 ≤ (ap1 (nodes s) n k).2 ∧ (ap1 (nodes s) n k).2 ≤ 63
  | 0 => by unfold ap1; exact ⟨by decide, by decide, by decide⟩
  | k + 1 => by
    have ih := ap1_in s n k
    have hx := nodes_at_lt s k
    unfold ap1 apStep
    split
    · exact ⟨withS_lt _ _ ih.1, by show -2 ≤ (((nodes s).getD k 0 : Nat) : Int); omega, by show (((nodes s).getD k 0 : Nat) : Int) ≤ 63; omega⟩
    · exact ih
theorem ap2_in (s : Nat) (n : Int) (o : Nat) (ho : o < 18446744073709551616) : ∀ k, ap2 (nodes s) n o k < 18446744073709551616
  | 0 => ho
  | k + 1 => by
    have ih := ap2_in s n o ho k
    unfold ap2
    split
    · exact withS_lt _ _ ih
    · exact ih
set_option maxRecDepth 100000 in
set_option maxHeartbeats 2000000 in
theorem apart_any (s : Nat) (n : Int) (w : World) (hs : s < 18446744073709551616) (hT : Tab w) :
    Calls Tryd.prog 105 #[.int .u64 (s : Int), .int .i64 n] w fun e w' => e = .returned (.int .u64 (apartS s n : Nat)) ∧ Below w.heap.size w w' := by
  refine (callsIn_wide (n := 5)).1 ?_
  refine callsIn_of_wp_marks Tryd.func105 rfl trivial ?_ rfl
  have hmf : ∀ (fn : Fn) (first cap : Array Value) (w : World), (Instr.makeFunc fn first cap).run Tryd.prog w = .ok (.func fn first cap) w := fun _ _ _ _ => rfl
  simp only [Tryd.ntmps105, List.size_toArray, List.length_cons, List.length_nil, Nat.reduceAdd, Nat.reduceSub, Array.replicate_succ, Array.replicate_zero, List.push_toArray, List.append_toArray, List.nil_append, List.cons_append]
  gi_wp2
  have HTA := Lib.hid hT
  have hmx : Tryd.prog.follows .mixedOrders = true := by kernel_rfl
  have HA0 := Lib.hid (AI.new w n)
  obtain ⟨b, hb⟩ : ∃ b, w.heap.size = b := ⟨_, rfl⟩
  have HBE := Lib.hid hb
  rw [hb] at HA0 ⊢
  clear hb
  generalize ((w.alloc (.cells #[.int .i64 n] 3)).alloc (.cells #[.int .u64 0] 23)).alloc (.cells #[.int .i64 (-2)] 3) = W0 at HA0 ⊢
  refine loop_first rfl (enters_of Tryd.func95 (by kernel_rfl) rfl) (each_hands s (5 - 1) hs (by decide)) (fun k W => AI w W b n (ap1 (nodes s) n k).1 (ap1 (nodes s) n k).2) ?hI ?h0 ?hT ?a1 ?assign ?body ?done
  case assign =>
    intro l v W K hK
    gi_wp2
    exact hK
  case hT => exact fun k W h => HTA.out.below h.be HTA.out.lt
  case hI =>
    intro k W l o hl h
    exact h.putObj l o (by have := HA0.out.lt; omega)
  case h0 => exact fun o1 o2 => HA0.out.below (below_alloc (below_alloc (Below.refl _ _) _) _)
  case body =>
    intro l k v W hv hA
    obtain ⟨x, rfl, hx, hx64, hk⟩ := vals_at s k v hv
    have hin := ap1_in s n k
    have hst : ap1 (nodes s) n (k + 1) = apStep n (ap1 (nodes s) n k) x := by rw [← hx]; rfl
    obtain ⟨o, ho⟩ : ∃ o, (ap1 (nodes s) n k).1 = o := ⟨_, rfl⟩
    obtain ⟨la, hla⟩ : ∃ o, (ap1 (nodes s) n k).2 = o := ⟨_, rfl⟩
    have hpa : ap1 (nodes s) n k = (o, la) := by rw [← ho, ← hla]
    unfold apStep at hst
    rw [hpa] at hst
    dsimp only at hst
    rw [ho, hla] at hA hin
    have KL := Lib.hid (fun W => len_any o W hin.1)
    have KW := Lib.hid (fun W => with_any o (x : Int) W hin.1)
    have HST := Lib.hid hst
    obtain ⟨o2, ho2⟩ : ∃ o2, withS o (x : Int) = o2 := ⟨_, rfl⟩
    rw [ho2] at KW HST
    obtain ⟨L, hL⟩ : ∃ L, lenS o = L := ⟨_, rfl⟩
    have HL := Lib.hid hL
    rw [hL] at KL
    have c0 := hA.c0
    have c1 := hA.c1
    have c2 := hA.c2
    have f1 := hA.f1
    have f2 := hA.f2
    have w1 : wrap64 (la + 1) = la + 1 := by unfold wrap64; omega
    have w2 : IntKind.i64.wrap (la + 1) = la + 1 := by rw [IntKind.wrap_i64]; omega
    clear hst hv hpa ho hla ho2 hL hT hk hx
    by_cases e1 : (L : Int) < n
    · have e2 : decide ((L : Int) < n) = true := decide_eq_true e1
      by_cases e3 : la + 1 < (x : Int)
      · have e4 : decide (la + 1 < (x : Int)) = true := decide_eq_true e3
        gi_wp2
        gi_region_with_o (refine ⟨trivial, ?_⟩; gi_at_call 32; refine (CallsIn.inRound l (callsIn_wide.2 (KL.out _))).mono ?_; rintro e w' ⟨rfl, rfl⟩)
        all_goals gi_wp2_with (refine ⟨trivial, ?_⟩; gi_at_call 30; refine (CallsIn.inRound l (callsIn_wide.2 (KW.out _))).mono ?_; rintro e w' ⟨rfl, rfl⟩)
        all_goals exact ⟨((KeepsOthers.drew _).trans (KeepsOthers.setCell _ _ _)).trans (KeepsOthers.setCell _ _ _), by show AI w _ b n (ap1 (nodes s) n (k + 1)).1 (ap1 (nodes s) n (k + 1)).2; rw [HST.out, if_pos ⟨by rw [HL.out]; exact e1, e3⟩]; exact (hA.drew.set1 o2).set2 x⟩
      · have e4 : decide (la + 1 < (x : Int)) = false := decide_eq_false e3
        gi_wp2
        gi_region_with_o (refine ⟨trivial, ?_⟩; gi_at_call 32; refine (CallsIn.inRound l (callsIn_wide.2 (KL.out _))).mono ?_; rintro e w' ⟨rfl, rfl⟩)
        all_goals gi_wp2
        all_goals exact ⟨KeepsOthers.drew _, by show AI w _ b n (ap1 (nodes s) n (k + 1)).1 (ap1 (nodes s) n (k + 1)).2; rw [HST.out, if_neg (fun hh => by have := hh.2; omega)]; exact hA.drew⟩
    · have e2 : decide ((L : Int) < n) = false := decide_eq_false e1
      gi_wp2
      gi_region_with_o (refine ⟨trivial, ?_⟩; gi_at_call 32; refine (CallsIn.inRound l (callsIn_wide.2 (KL.out _))).mono ?_; rintro e w' ⟨rfl, rfl⟩)
      all_goals gi_wp2
      all_goals exact ⟨KeepsOthers.drew _, by show AI w _ b n (ap1 (nodes s) n (k + 1)).1 (ap1 (nodes s) n (k + 1)).2; rw [HST.out, if_neg (fun hh => by have h1 := hh.1; rw [HL.out] at h1; omega)]; exact hA.drew⟩
  case done =>
    intro D W hD hA hK
    rw [vals_len] at hA
    have HW0 : Hid (b + 1 + 1 < D) := Lib.hid (by have := HA0.out.lt; omega)
    clear HA0
    have hin := ap1_in s n (lenS s)
    obtain ⟨o1, ho1⟩ : ∃ o, (ap1 (nodes s) n (lenS s)).1 = o := ⟨_, rfl⟩
    have HO1 := Lib.hid ho1
    obtain ⟨la, hla⟩ : ∃ o, (ap1 (nodes s) n (lenS s)).2 = o := ⟨_, rfl⟩
    rw [ho1, hla] at hA
    rw [ho1] at hin
    have HA := Lib.hid hA
    have HK := Lib.hid hK
    have hDW : D < W.heap.size := (Array.getElem?_eq_some_iff.1 hK).1
    have HDB : Hid (b + 1 + 1 < D) := Lib.hid (by have := HW0.out; omega)
    have hc1 := hA.c1
    clear hA hK ho1 hla hT
    gi_wp2
    refine loop_first rfl (enters_of Tryd.func95 (by kernel_rfl) rfl) (each_hands s (5 - 1) hs (by decide)) (fun k W => AI w W b n (ap2 (nodes s) n o1 k) la ∧ W.heap[D]? = some (.deferred (some []))) ?hI2 ?h02 ?hT2 ?a12 ?assign2 ?body2 ?done2
    case assign2 =>
      intro l v W K hK
      gi_wp2
      exact hK
    case hT2 => exact fun k W h => HTA.out.below h.1.be HTA.out.lt
    case hI2 =>
      intro k W' l o hl h
      exact ⟨h.1.putObj l o (by have := HDB.out; omega), (World.putObj_heap_other (by omega)).trans h.2⟩
    case h02 => exact fun o1 o2 => ⟨HA.out.below (below_alloc (below_alloc (Below.refl _ _) _) _), ((below_alloc (below_alloc (Below.refl _ _) _) _).block D hDW).trans HK.out⟩
    case body2 =>
      intro l k v W' hv hA
      obtain ⟨hA, hD2⟩ := hA
      obtain ⟨x, rfl, hx, hx64, hk⟩ := vals_at s k v hv
      have hin2 := ap2_in s n o1 hin.1 k
      have hst : ap2 (nodes s) n o1 (k + 1) = if (lenS (ap2 (nodes s) n o1 k) : Int) < n then withS (ap2 (nodes s) n o1 k) x else ap2 (nodes s) n o1 k := by rw [← hx]; rfl
      obtain ⟨o, ho⟩ : ∃ o, ap2 (nodes s) n o1 k = o := ⟨_, rfl⟩
      rw [ho] at hA hst hin2
      have KL := Lib.hid (fun W => len_any o W hin2)
      have KW := Lib.hid (fun W => with_any o (x : Int) W hin2)
      obtain ⟨o2, ho2⟩ : ∃ o2, withS o (x : Int) = o2 := ⟨_, rfl⟩
      rw [ho2] at KW hst
      obtain ⟨L, hL⟩ : ∃ L, lenS o = L := ⟨_, rfl⟩
      rw [hL] at KL hst
      have HST := Lib.hid hst
      have HD2 := Lib.hid hD2
      have c0 := hA.c0
      have c1 := hA.c1
      have f1 := hA.f1
      clear hst hv ho ho2 hL hk hx hD2 hc1
      by_cases e1 : (L : Int) < n
      · have e2 : decide ((L : Int) < n) = true := decide_eq_true e1
        gi_wp2
        gi_region_with_o (refine ⟨trivial, ?_⟩; gi_at_call 32; refine (CallsIn.inRound l (callsIn_wide.2 (KL.out _))).mono ?_; rintro e w' ⟨rfl, rfl⟩)
        all_goals gi_wp2_with (refine ⟨trivial, ?_⟩; gi_at_call 30; refine (CallsIn.inRound l (callsIn_wide.2 (KW.out _))).mono ?_; rintro e w' ⟨rfl, rfl⟩)
        all_goals exact ⟨(KeepsOthers.drew _).trans (KeepsOthers.setCell _ _ _), by show AI w _ b n (ap2 (nodes s) n o1 (k + 1)) la ∧ _; rw [HST.out, if_pos e1]; exact ⟨hA.drew.set1 o2, (Below.heap_setCell _ ⟨b + 1, 0, none⟩ _ D (by have := HDB.out; show D ≠ b + 1; omega)).trans HD2.out⟩⟩
      · have e2 : decide ((L : Int) < n) = false := decide_eq_false e1
        gi_wp2
        gi_region_with_o (refine ⟨trivial, ?_⟩; gi_at_call 32; refine (CallsIn.inRound l (callsIn_wide.2 (KL.out _))).mono ?_; rintro e w' ⟨rfl, rfl⟩)
        all_goals gi_wp2
        all_goals exact ⟨KeepsOthers.drew _, by show AI w _ b n (ap2 (nodes s) n o1 (k + 1)) la ∧ _; rw [HST.out, if_neg (by omega)]; exact ⟨hA.drew, HD2.out⟩⟩
    case done2 =>
      intro D2 W2 hD2 hA2 hK2
      rw [vals_len] at hA2
      obtain ⟨hA2, hD⟩ := hA2
      have hres : ap2 (nodes s) n o1 (lenS s) = apartS s n := by unfold apartS; rw [HO1.out]
      rw [hres] at hA2
      have c1 := hA2.c1
      have HA2 := Lib.hid hA2
      have hne : D ≠ D2 := by omega
      clear hres hA2 hc1
      gi_wp2
      refine ⟨by simp, .inl ⟨_, _, rfl, run_takeDeferred hK2, ?_⟩⟩
      refine ⟨by simp, .inl ⟨_, _, rfl, run_takeDeferred ((World.putObj_heap_other hne).trans hD), ?_⟩⟩
      exact ⟨_, results_tmp rfl _ _ _, rfl, ((HA2.out.putObj D2 _ (by have := HDB.out; omega)).putObj D _ HDB.out).be⟩
end Go.Proofs.YtmjkgnlmdcmdbaaDoor.Pick
