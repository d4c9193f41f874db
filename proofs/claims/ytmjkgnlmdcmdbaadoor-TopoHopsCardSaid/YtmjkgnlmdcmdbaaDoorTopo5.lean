/- Law 39: the example; TopoNobody. -/
import Derived.Test.YtmjkgnlmdcmdbaaDoorTopo4
namespace Go.Proofs.YtmjkgnlmdcmdbaaDoor.Topo
open Go.RowKit Go.Proofs.YtmjkgnlmdcmdbaaDoorW.PrintWords Go.Proofs.YtmjkgnlmdcmdbaaDoorW.PrintLast Go.Proofs.YtmjkgnlmdcmdbaaDoorW.PrintMore Go.Proofs.YtmjkgnlmdcmdbaaDoor.Row Go.Proofs.YtmjkgnlmdcmdbaaDoor.Sets Go.Proofs.YtmjkgnlmdcmdbaaDoor.Node
set_option linter.unusedVariables false
set_option linter.unusedSimpArgs false
set_option maxRecDepth 100000
def AL : Nat → List Int | 0 => [] | 1 => [-1] | 2 => [-1, 0] | _ => [-1, 0, 0]
def ML : Nat → List Nat | 0 => [] | 1 => [0] | 2 => [3, 3] | _ => [15, 3, 12]
def DL : Nat → List Int | 0 => [] | 1 => [0] | 2 => [0, 1] | _ => [0, 1, 1]
theorem ML_lt (i k : Nat) : (ML i).getD k 0 < 18446744073709551616 := by
  have h : ∀ l : List Nat, (∀ x ∈ l, x < 18446744073709551616) → l.getD k 0 < 18446744073709551616 := fun l hl => by
    rw [List.getD_eq_getElem?_getD]
    cases hx : l[k]? with
    | none => exact (by decide : (0 : Nat) < 18446744073709551616)
    | some x => exact hl x (List.mem_of_getElem? hx)
  refine h _ ?_
  match i with
  | 0 => decide
  | 1 => decide
  | 2 => decide
  | i + 3 => show ∀ x ∈ [15, 3, 12], x < 18446744073709551616; decide
theorem TT.new (w : World) : TT (w.alloc (.cells #[.slice none 0 0, .slice none 0 0, .slice none 0 0] 134)) w.heap.size (.slice none 0 0) (.slice none 0 0) (.slice none 0 0) [] [] [] := by
  have hb := blk_new w (.cells #[.slice none 0 0, .slice none 0 0, .slice none 0 0] 134)
  exact ⟨(blk_cell hb 0).trans rfl, (blk_cell hb 1).trans rfl, (blk_cell hb 2).trans rfl, blk_frozen hb 0, blk_frozen hb 1, blk_frozen hb 2, Kd.R_nil _ _ _ _ _, Kd.R_nil _ _ _ _ _, Kd.R_nil _ _ _ _ _⟩
theorem put_step (i b : Nat) (hi : i < 3) (va vm vd : Value) (a : Int) (q : Nat) (hq : q < 18446744073709551616) (ha : (i, a, q) = (0, -1, 0) ∨ (i, a, q) = (1, 0, 3) ∨ (i, a, q) = (2, 0, 12)) (w0 w : World) (h : TT w b va vm vd (AL i) (ML i) (DL i)) (hB : Below w0.heap.size w0 w) (hb : w0.heap.size ≤ b) :
    Calls Tryd.prog 108 #[.pointer (some ⟨b, 0, none⟩), .agg #[.int .i64 a, .int .u64 q]] w (PutPost w0 b (AL (i + 1)) (ML (i + 1)) (DL (i + 1))) := by
  rcases ha with h1 | h1 | h1 <;> injection h1 with h1 h2 <;> injection h2 with h2 h3 <;> subst h1 h2 h3
  · exact put_any b 0 va vm vd [] [] [] (-1) 0 w0 w h hB hb rfl rfl rfl (by decide) (by decide) (by decide) (by decide) (ML_lt 0) hq
  · exact put_any b 1 va vm vd [-1] [0] [0] 0 3 w0 w h hB hb rfl rfl rfl (by decide) (by decide) (by decide) (by decide) (ML_lt 1) hq
  · exact put_any b 2 va vm vd [-1, 0] [0, 1] [3, 3] 0 12 w0 w h hB hb rfl rfl rfl (by decide) (by decide) (by decide) (by decide) (ML_lt 2) hq
def NewEx (w : World) (e : Ending) (w' : World) : Prop := ∃ b va vm vd, e = .returned (.tuple #[.pointer (some ⟨b, 0, none⟩), .int .i64 0]) ∧ TT w' b va vm vd [-1, 0, 0] [15, 3, 12] [0, 1, 1] ∧ Below w.heap.size w w'
set_option maxHeartbeats 1000000 in
theorem New_ex (g : Nat) (w : World) (h : w.heap[g]? = some (.cells #[.int .i64 (-1), .int .u64 0, .int .i64 0, .int .u64 3, .int .i64 0, .int .u64 12] 136 (0, 0))) : Calls Tryd.prog 75 #[.slice (some ⟨g, 0, none⟩) 3 3] w (NewEx w) := by
  have HG := Lib.hid h
  clear h
  go_enter Tryd.func75, Tryd.ntmps75
  go_wp2
  have HT := Lib.hid (TT.new w)
  have HB := Lib.hid (below_alloc (Below.refl w.heap.size w) (.cells #[.slice none 0 0, .slice none 0 0, .slice none 0 0] 134))
  go_loopg [5, 20] 4 (fun kq v5 v20 w' => ∃ (i : Nat) (va vm vd : Value), ((i = 0 ∧ v5 = .int .u64 0 ∧ v20 = .int .i64 0) ∨ (i = 1 ∧ v5 = .int .u64 0 ∧ v20 = .int .i64 1) ∨ (i = 2 ∧ v5 = .int .u64 3 ∧ v20 = .int .i64 2) ∨ (i = 3 ∧ v5 = .int .u64 15 ∧ v20 = .int .i64 3)) ∧ Aside0 (i + kq = 4 ∧ 1 ≤ kq) ∧ Aside0 (TT w' w.heap.size va vm vd (AL i) (ML i) (DL i)) ∧ Aside0 (Below w.heap.size w w'))
  case atStart => exact ⟨0, _, _, _, .inl ⟨rfl, rfl, rfl⟩, ⟨by omega, by omega⟩, ⟨HT.out⟩, ⟨HB.out⟩⟩
  case round =>
    clear HT HB
    obtain ⟨i, va, vm, vd, hi, HI, HT, HB⟩ := hrel
    obtain ⟨k1, rfl⟩ : ∃ k1, gk = k1 + 1 := ⟨gk - 1, by have := HI.out; omega⟩
    have hg := (HB.out.block g (blk_lt HG.out)).trans HG.out
    rcases hi with ⟨rfl, rfl, rfl⟩ | ⟨rfl, rfl, rfl⟩ | ⟨rfl, rfl, rfl⟩ | ⟨rfl, rfl, rfl⟩
    · have q0 : wr.cell? ⟨g, 0, none⟩ = some (.int .i64 (-1)) := (blk_cell hg 0).trans rfl
      have q1 : wr.cell? ⟨g, 1, none⟩ = some (.int .u64 0) := (blk_cell hg 1).trans rfl
      clear hg
      go_wp2_with (go_at_call 108; go_loud (refine (put_step 0 w.heap.size (by decide) va vm vd (-1) 0 (by decide) (.inl rfl) w _ (HT.out.below (by first | exact below_alloc (Below.refl _ _) _ | exact ((below_alloc (Below.refl _ _) _).setCell (Nat.le_refl _) _).setCell (Nat.le_refl _) _)) (by first | exact below_alloc HB.out _ | exact ((below_alloc HB.out _).setCell HB.out.size _).setCell HB.out.size _) (Nat.le_refl _)).mono ?_; rintro e w4 ⟨rfl, ⟨va', vm', vd', hT⟩, hB⟩; have HT1 := Lib.hid hT; have HB1 := Lib.hid hB; clear hT hB))
      go_roundg k1
      case measure => have := HI.out; omega
      case rel => exact ⟨1, va', vm', vd', .inr (.inl ⟨rfl, by go_num, by go_num⟩), ⟨by have := HI.out; omega, by have := HI.out; omega⟩, ⟨HT1.out⟩, ⟨HB1.out⟩⟩
    · have q0 : wr.cell? ⟨g, 2, none⟩ = some (.int .i64 0) := (blk_cell hg 2).trans rfl
      have q1 : wr.cell? ⟨g, 3, none⟩ = some (.int .u64 3) := (blk_cell hg 3).trans rfl
      clear hg
      go_wp2_with (go_at_call 108; go_loud (refine (put_step 1 w.heap.size (by decide) va vm vd 0 3 (by decide) (.inr (.inl rfl)) w _ (HT.out.below (by first | exact below_alloc (Below.refl _ _) _ | exact ((below_alloc (Below.refl _ _) _).setCell (Nat.le_refl _) _).setCell (Nat.le_refl _) _)) (by first | exact below_alloc HB.out _ | exact ((below_alloc HB.out _).setCell HB.out.size _).setCell HB.out.size _) (Nat.le_refl _)).mono ?_; rintro e w4 ⟨rfl, ⟨va', vm', vd', hT⟩, hB⟩; have HT1 := Lib.hid hT; have HB1 := Lib.hid hB; clear hT hB))
      go_roundg k1
      case measure => have := HI.out; omega
      case rel => exact ⟨2, va', vm', vd', .inr (.inr (.inl ⟨rfl, by go_num, by go_num⟩)), ⟨by have := HI.out; omega, by have := HI.out; omega⟩, ⟨HT1.out⟩, ⟨HB1.out⟩⟩
    · have q0 : wr.cell? ⟨g, 4, none⟩ = some (.int .i64 0) := (blk_cell hg 4).trans rfl
      have q1 : wr.cell? ⟨g, 5, none⟩ = some (.int .u64 12) := (blk_cell hg 5).trans rfl
      clear hg
      go_wp2_with (go_at_call 108; go_loud (refine (put_step 2 w.heap.size (by decide) va vm vd 0 12 (by decide) (.inr (.inr rfl)) w _ (HT.out.below (by first | exact below_alloc (Below.refl _ _) _ | exact ((below_alloc (Below.refl _ _) _).setCell (Nat.le_refl _) _).setCell (Nat.le_refl _) _)) (by first | exact below_alloc HB.out _ | exact ((below_alloc HB.out _).setCell HB.out.size _).setCell HB.out.size _) (Nat.le_refl _)).mono ?_; rintro e w4 ⟨rfl, ⟨va', vm', vd', hT⟩, hB⟩; have HT1 := Lib.hid hT; have HB1 := Lib.hid hB; clear hT hB))
      go_roundg k1
      case measure => have := HI.out; omega
      case rel => exact ⟨3, va', vm', vd', .inr (.inr (.inr ⟨rfl, by go_num, by go_num⟩)), ⟨by have := HI.out; omega, by have := HI.out; omega⟩, ⟨HT1.out⟩, ⟨HB1.out⟩⟩
    · clear hg
      go_wp2
      go_ret2
      exact ⟨w.heap.size, va, vm, vd, rfl, HT.out, HB.out⟩
theorem over_0 : overS [15, 3, 12] [0, 1, 1] (ofS [0]) 3 = ((1 : Nat) : Int) := by decide
theorem over_1 : overS [15, 3, 12] [0, 1, 1] (ofS [1]) 3 = ((1 : Nat) : Int) := by decide
theorem over_2 : overS [15, 3, 12] [0, 1, 1] (ofS [2]) 3 = ((2 : Nat) : Int) := by decide
theorem over_01 : overS [15, 3, 12] [0, 1, 1] (ofS [0, 1]) 3 = ((1 : Nat) : Int) := by decide
theorem over_02 : overS [15, 3, 12] [0, 1, 1] (ofS [0, 2]) 3 = ((0 : Nat) : Int) := by decide
theorem awake39_any (w : World) : Calls Tryd.prog 77 #[] w fun e w' => e = .returned (.bool true) ∧ Below w.heap.size w w' := by
  have K1 : Hid (∀ (W : World) (b : Nat) (va vm vd : Value), TT W b va vm vd [-1, 0, 0] [15, 3, 12] [0, 1, 1] → Calls Tryd.prog 78 #[.pointer (some ⟨b, 0, none⟩), .int .i64 0, .int .i64 1] W fun e w' => e = .returned (.int .i64 1) ∧ Below W.heap.size W w') := Lib.hid (fun W b va vm vd h =>
    Hops_any h (n := 3) (by decide) rfl rfl rfl (by decide) (ML_lt 3) (by decide) 0 1 (by decide) (by decide) (by decide) 1 1 1 over_0 over_1 over_01)
  have K2 : Hid (∀ (W : World) (b : Nat) (va vm vd : Value), TT W b va vm vd [-1, 0, 0] [15, 3, 12] [0, 1, 1] → Calls Tryd.prog 78 #[.pointer (some ⟨b, 0, none⟩), .int .i64 0, .int .i64 2] W fun e w' => e = .returned (.int .i64 3) ∧ Below W.heap.size W w') := Lib.hid (fun W b va vm vd h =>
    Hops_any h (n := 3) (by decide) rfl rfl rfl (by decide) (ML_lt 3) (by decide) 0 2 (by decide) (by decide) (by decide) 1 2 0 over_0 over_2 over_02)
  have K3 : Hid (∀ (W : World) (b : Nat) (va vm vd : Value), TT W b va vm vd [-1, 0, 0] [15, 3, 12] [0, 1, 1] → Calls Tryd.prog 83 #[.pointer (some ⟨b, 0, none⟩), .int .i64 0] W fun e w' => e = .returned (.int .u64 15) ∧ W = w') := Lib.hid (fun W b va vm vd h => by
    have := Nodes_any h (n := 3) (by decide) rfl rfl (by decide) 0
    exact this)
  go_enter Tryd.func77, Tryd.ntmps77
  go_wp2_with (first
    | (go_at_call 75; go_loud (refine (New_ex w.heap.size _ (blk_new w _)).mono ?_; rintro e w2 ⟨b, va, vm, vd, rfl, h1, h2⟩; have H1 := Lib.hid h1; have H2 := Lib.hid (below_step (below_alloc (Below.refl w.heap.size w) _) h2); clear h1 h2))
    | (go_at_call 78; with_reducible refine (K1.out _ b va vm vd H1.out).mono ?_; rintro e w3 ⟨rfl, hb⟩; have H3 := Lib.hid (H1.out.below hb); have H4 := Lib.hid (below_step H2.out hb); clear hb)
    | (go_at_call 78; with_reducible refine (K2.out _ b va vm vd H3.out).mono ?_; rintro e w4 ⟨rfl, hb⟩; have H5 := Lib.hid (H3.out.below hb); have H6 := Lib.hid (below_step H4.out hb); clear hb)
    | (go_at_call 83; with_reducible refine (K3.out _ b va vm vd H5.out).mono ?_; rintro e w5 ⟨rfl, rfl⟩))
  go_ret
  exact ⟨rfl, H6.out⟩
theorem Cost_nil (w : World) (hT : Tab w) : Calls Tryd.prog 80 #[.pointer none, .int .u64 0] w fun e w' => e = .returned (.int .i64 0) ∧ Below w.heap.size w w' := by
  have kl := list_any 0 w (by decide) hT
  unfold ListIs at kl
  rw [show lenS 0 = 0 by decide] at kl
  have KL : Hid (Calls Tryd.prog 25 #[.int .u64 0] w fun e w' => ∃ A c, e = .returned (.slice A 0 c) ∧ 0 ≤ c ∧ Rds (Value.int .i64) w' A (nums (nodes 0)) ∧ Below w.heap.size w w') := Lib.hid kl
  clear hT kl
  go_enter Tryd.func80, Tryd.ntmps80
  go_wp2_with (go_at_call 25; refine KL.out.mono ?_; rintro e w2 ⟨A, c, rfl, hc, hr, hb⟩; have HB := Lib.hid hb; clear hb hr hc)
  go_loopg [6, 16] 1 (fun kq v6 v16 w' => v6 = .int .i64 0 ∧ v16 = .int .i64 0 ∧ Aside0 (Below w.heap.size w w'))
  case atStart => exact ⟨rfl, rfl, ⟨HB.out⟩⟩
  case round =>
    clear HB
    obtain ⟨rfl, rfl, HB⟩ := hrel
    go_wp2
    go_ret
    exact ⟨rfl, HB.out⟩
theorem TopoNobody_any (a x : Int) (w : World) (ha : (Lit.int .i64 a).wf = true) (hx : (Lit.int .u64 x).wf = true) (hT : Tab w) :
    Calls Tryd.prog 18 #[.int .i64 a, .int .u64 x] w fun e w' => e = .returned (.bool true) ∧ Below w.heap.size w w' := by
  obtain ⟨s, rfl, hs⟩ := u64_out x hx
  have HC := Lib.hid (Cost_nil w hT)
  have HW := Lib.hid (fun W => awake39_any W)
  clear hx hT ha
  go_enter Tryd.func18, Tryd.ntmps18
  go_wp2_with (first
    | (go_at_call 81; refine (Pick_nil s 1 _).mono ?_; rintro e w2 ⟨rfl, rfl⟩)
    | (go_at_call 82; refine (Len_nil _).mono ?_; rintro e w2 ⟨rfl, rfl⟩)
    | (go_at_call 83; refine (Nodes_nil a _).mono ?_; rintro e w2 ⟨rfl, rfl⟩)
    | (go_at_call 84; refine (Over_nil s _).mono ?_; rintro e w2 ⟨rfl, rfl⟩)
    | (go_at_call 78; refine (Hops_nil a a _).mono ?_; rintro e w2 ⟨rfl, rfl⟩)
    | (go_at_call 80; refine HC.out.mono ?_; rintro e w3 ⟨rfl, hb⟩; have B1 := Lib.hid hb; clear hb)
    | (go_at_call 77; refine (HW.out _).mono ?_; rintro e w4 ⟨rfl, hb⟩; have B2 := Lib.hid (below_step B1.out hb); clear hb))
  go_ret
  exact ⟨rfl, B2.out⟩
end Go.Proofs.YtmjkgnlmdcmdbaaDoor.Topo
