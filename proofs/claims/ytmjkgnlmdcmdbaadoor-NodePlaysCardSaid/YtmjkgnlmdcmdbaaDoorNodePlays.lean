/- NodePlays. -/
import Derived.Test.YtmjkgnlmdcmdbaaDoorLike62
namespace Go.Proofs.YtmjkgnlmdcmdbaaDoor.Node
open Go.RowKit Go.Proofs.YtmjkgnlmdcmdbaaDoorW.PrintWords Go.Proofs.YtmjkgnlmdcmdbaaDoorW.PrintLast Go.Proofs.YtmjkgnlmdcmdbaaDoorW.PrintMore Go.Proofs.YtmjkgnlmdcmdbaaDoor.Row Go.Proofs.YtmjkgnlmdcmdbaaDoor.Sets Go.Proofs.YtmjkgnlmdcmdbaaDoor.Flat
set_option linter.unusedVariables false
set_option linter.unusedSimpArgs false
set_option maxRecDepth 100000
theorem rank_all (p : Nat → Bool) (n : Nat) (h : ∀ j, j < n → p j = true) : rank p n = n := by
  induction n with
  | zero => rfl
  | succ n ih => rw [rank_succ, ih (fun j hj => h j (by omega)), h n (by omega)]; rfl
theorem lenS_all (N : Nat) (hN : N ≤ 64) : lenS (allS (N : Int)) = N := by
  have e : lenS (allS (N : Int)) = rank (fun j => (allS (N : Int)).testBit j) 64 := rfl
  rw [e, rank_out (fun j => (allS (N : Int)).testBit j) N 64 hN (fun j h1 h2 => by show (allS (N : Int)).testBit j = false; rw [allS_bit _ _ h2, decide_eq_false (by omega)])]
  exact rank_all _ _ fun j hj => by rw [allS_bit _ _ (by omega), decide_eq_true (by omega)]
theorem PI_ones (N : Nat) : PI N 0 0 (List.replicate N 1) :=
  ⟨List.length_replicate, fun j hj => by
    rw [List.getD_eq_getElem?_getD, List.getElem?_replicate, if_pos hj]
    simp [st2], fun j _ _ => by simp⟩
/-- the plain table while it is laid -/
structure PB (w : World) (bp : Nat) (v : Value) (l : List Int) : Prop where
  c : w.cell? ⟨bp, 0, none⟩ = some v
  f : w.frozen? ⟨bp, 0, none⟩ = false
  r : Kd.R (Kd.int .i64) 3 w (bp + 1) (fun _ => True) v l
theorem PB.lt {w : World} {bp : Nat} {v : Value} {l : List Int} (h : PB w bp v l) : bp < w.heap.size := World.block_lt_of_cell? w _ h.c
theorem PB.new (w : World) : PB (w.alloc (.cells #[.slice none 0 0] 59)) w.heap.size (.slice none 0 0) [] := by
  have hb := blk_new w (.cells #[.slice none 0 0] 59)
  exact ⟨(blk_cell hb 0).trans rfl, blk_frozen hb 0, Kd.R_nil _ _ _ _ _⟩
theorem PB.app {w w1 : World} {bp : Nat} {v v1 : Value} {l : List Int} {x : Int} (h : PB w bp v l) (ho : Kd.R (Kd.int .i64) 3 w1 (bp + 1) (fun _ => True) v1 (l ++ [x])) (hb : Below (bp + 1) w w1) : PB (w1.setCell ⟨bp, 0, none⟩ v1) bp v1 (l ++ [x]) := by
  have hk : w1.heap[bp]? = w.heap[bp]? := hb.block bp (by omega)
  have c : w1.cell? ⟨bp, 0, none⟩ = some v := (World.cell?_of_block (a := ⟨bp, 0, none⟩) hk).trans h.c
  have f : w1.frozen? ⟨bp, 0, none⟩ = false := (World.frozen?_of_block (a := ⟨bp, 0, none⟩) hk).trans h.f
  exact ⟨by go_cell, by simp [go_sem, f], Kd.R_mono (Kd.R_far (p := ⟨bp, 0, none⟩) (Kd.R_bound ho) (fun k hk => by have := hk.2.1; show k ≠ bp; omega) _) (fun _ hk => hk.1)⟩
theorem PB.pl {w : World} {bp : Nat} {v : Value} {l : List Int} (h : PB w bp v l) (hl : 0 < l.length) : ∃ g cap, bp < g ∧ PL w bp g cap l := by
  obtain ⟨g, cap, rfl, hc, hg, hn, hr⟩ := GRow.of_own (enc := Value.int .i64) (xs := l) (Kd.own_of_R h.r) hl
  exact ⟨g, cap, by omega, h.c, h.f, hr, by omega⟩
set_option maxHeartbeats 4000000 in
theorem NodePlays_any (n : Int) (A : Option Addr) (len cap : Nat) (z : List (List Value)) (w : World) (hn : (Lit.int .i64 n).wf = true) (hc : len ≤ cap) (hm : cap ≤ maxLen) (hr : FlatRow w A len [.int .i64, .int .i64, .int .u64] z) (hT : Tab w) :
    Calls Tryd.prog 8 #[.int .i64 n, .slice A len cap] w fun e w' => e = .returned (.bool true) ∧ Below w.heap.size w w' := by
  have HS := Lib.hid (flatOp hr)
  have hlen : len ≤ 9223372036854775807 := by unfold maxLen at hm; omega
  have HT := Lib.hid hT
  have HW := Lib.hid (fun W (h : Below w.heap.size w W) => awake06_any W (HT.out.below h HT.out.lt))
  clear hr hn hT hc hm
  by_cases hno : n < 1 ∨ 64 < n
  · have K1 := Lib.hid (new_out n w hno)
    rcases (by omega : n < 1 ∨ (1 ≤ n ∧ 64 < n)) with h1 | ⟨h1, h2⟩
    · have b1 : decide (n < 1) = true := decide_eq_true h1
      clear hno
      go_enter Tryd.func8, Tryd.ntmps8
      go_wp2_with (first
        | (go_at_call 35; refine K1.out.mono ?_; rintro e w1 ⟨rfl, rfl⟩)
        | (go_at_call 36; refine (HW.out _ (Below.refl _ _)).mono ?_; rintro e w3 ⟨rfl, hb3⟩))
      go_ret
      exact ⟨rfl, hb3⟩
    · have b1 : decide (n < 1) = false := decide_eq_false (by omega)
      have b2 : decide (64 < n) = true := decide_eq_true h2
      clear hno
      go_enter Tryd.func8, Tryd.ntmps8
      go_wp2_with (first
        | (go_at_call 35; refine K1.out.mono ?_; rintro e w1 ⟨rfl, rfl⟩)
        | (go_at_call 36; refine (HW.out _ (Below.refl _ _)).mono ?_; rintro e w3 ⟨rfl, hb3⟩))
      go_ret
      exact ⟨rfl, hb3⟩
  · obtain ⟨N, rfl⟩ : ∃ N : Nat, n = (N : Int) := ⟨n.toNat, by omega⟩
    have n1 : 1 ≤ N := by omega
    have n2 : N ≤ 64 := by omega
    have K1 := Lib.hid (new_any (N : Int) w (by omega) (by omega))
    have KZ : Hid (∀ W, NT W w.heap.size (allS N) 0 0 → Calls Tryd.prog 44 #[.pointer (some ⟨w.heap.size, 0, none⟩)] W fun e w' => e = .returned (.int .i64 (N : Int)) ∧ W = w') := Lib.hid (fun W h => by
      have := Size_any w.heap.size (allS N) 0 0 W h (sm_all N 0 0 n1 n2 (by omega) (by omega))
      rwa [lenS_all N n2] at this)
    have b1 : decide ((N : Int) < 1) = false := decide_eq_false (by omega)
    have b2 : decide (64 < (N : Int)) = false := decide_eq_false (by omega)
    have b3 : ((N : Int) != (N : Int)) = false := by simp
    clear hno
    go_enter Tryd.func8, Tryd.ntmps8
    go_wp2_with (first
      | (go_at_call 35; refine K1.out.mono ?_; rintro e w1 ⟨rfl, hn, hb⟩; have N0 := Lib.hid hn; have B0 := Lib.hid hb; clear hn hb)
      | (go_at_call 44; refine (KZ.out _ N0.out).mono ?_; rintro e w2 ⟨rfl, rfl⟩))
    obtain ⟨bp, hbp⟩ : ∃ bp, w1.heap.size = bp := ⟨_, rfl⟩
    have P0 := Lib.hid (PB.new w1)
    have N1 := Lib.hid (N0.out.alloc (.cells #[.slice none 0 0] 59))
    have B1 := Lib.hid (below_alloc B0.out (.cells #[.slice none 0 0] 59))
    have G0 := Lib.hid N0.out.lt
    rw [hbp] at G0 P0
    rw [hbp]
    clear N0 B0 K1 KZ b3
    generalize w1.alloc (.cells #[.slice none 0 0] 59) = w2 at P0 N1 B1 ⊢
    clear hbp
    go_loopg [8] (N + 1) (fun kq v8 w' => ∃ (i : Nat) (v : Value), v8 = .int .i64 i ∧ Aside0 (i + kq = N + 1 ∧ 1 ≤ kq) ∧ Aside0 (PB w' bp v (List.replicate i 1)) ∧ Aside0 (NT w' w.heap.size (allS N) 0 0) ∧ Aside0 (Below w.heap.size w w'))
    case atStart => exact ⟨0, _, rfl, ⟨by omega, by omega⟩, ⟨P0.out⟩, ⟨N1.out⟩, ⟨B1.out⟩⟩
    case round =>
      clear P0 N1 B1
      obtain ⟨i, v, rfl, HI, HP, HN, HB⟩ := hrel
      obtain ⟨k1, rfl⟩ : ∃ k1, gk = k1 + 1 := ⟨gk - 1, by have := HI.out; omega⟩
      by_cases c1 : i < N
      · have d1 : decide (i < N) = true := decide_eq_true c1
        obtain ⟨A6, k6, hv6⟩ := Kd.R_slice HP.out.r
        rw [List.length_replicate] at hv6
        subst hv6
        have cp := HP.out.c
        have fp := HP.out.f
        have LM : Hid ((List.replicate i (1 : Int)).length ≤ 64) := Lib.hid (by rw [List.length_replicate]; omega)
        go_wp2_with ((with_reducible refine gate_builtin (b := .append) (xs := #[.tmp 53, .tmp 54]) rfl ?_); at_builtin; refine Kd.R_append (Kd.int .i64) (w0 := ?wz) (bp + 1) rfl (.tmp 53) (.tmp 54) 30 3 (.int .i64 0) 8 rfl Tryd.underlying30 info_int rfl (by decide) (by omega) _ (List.replicate i (1 : Int)) (1 : Int) [.int .i64 1] (fun _ => True) (fun _ => False) rfl rfl ?aP (fun _ hk => hk.elim) ?aF ?aO ?aB ?aS ?aL ?_; (case aP => exact rfl); (case aB => exact Below.refl _ _); (case aF => exact (fun _ _ => trivial)); (case aO => exact HP.out.r); (case aS => exact HP.out.lt); (case aL => have := LM.out; omega); intro v113 w5 ho hb hg hat; obtain ⟨A8, k8, hv8⟩ := Kd.R_slice ho; rw [List.length_append, List.length_replicate, List.length_singleton] at hv8; subst hv8; have HP1 := Lib.hid (HP.out.app ho hb); have HN1 := Lib.hid (HN.out.below hb (by have := G0.out; omega)); have HB1 := Lib.hid (HB.out.trans (hb.mono (by have := G0.out; omega))); have cp := (World.cell?_of_block (a := ⟨bp, 0, none⟩) (hb.block bp (Nat.lt_succ_self bp))).trans HP.out.c; have fp := (World.frozen?_of_block (a := ⟨bp, 0, none⟩) (hb.block bp (Nat.lt_succ_self bp))).trans HP.out.f; clear hb ho hg hat)
        go_roundg k1
        case measure => have := HI.out; omega
        case rel => exact ⟨i + 1, _, by go_num, ⟨by have := HI.out; omega, by have := HI.out; omega⟩, ⟨by rw [List.replicate_succ']; exact HP1.out⟩, ⟨HN1.out.far _ (by show w.heap.size ≠ bp; have := G0.out; omega) _⟩, ⟨HB1.out.setCell (by show w.heap.size ≤ bp; have := G0.out; omega) _⟩⟩
      · have d1 : decide (i < N) = false := decide_eq_false c1
        obtain rfl : i = N := by have := HI.out; omega
        obtain ⟨g, gc, hg, hpl⟩ := HP.out.pl (by rw [List.length_replicate]; omega)
        have L0 := Lib.hid hpl
        have G1 : Hid (w.heap.size ≠ bp ∧ w.heap.size ≠ g) := Lib.hid (by have := G0.out; omega)
        have G2 : Hid (w.heap.size ≤ w.heap.size ∧ w.heap.size ≤ g) := Lib.hid (by have := G0.out; omega)
        clear hpl HP hg
        go_wp2
        go_loopg [9] 51 (fun kq v9 w' => ∃ (k u d : Nat) (l : List Int), v9 = .int .i64 k ∧ Aside0 (k + kq = 51 ∧ 1 ≤ kq) ∧ Aside0 (NT w' w.heap.size (allS i) u d) ∧ Aside0 (PL w' bp g gc l) ∧ Aside0 (PI i u d l) ∧ Aside0 (u < 18446744073709551616 ∧ d < 18446744073709551616) ∧ Aside0 (Below w.heap.size w w'))
        case atStart => exact ⟨0, 0, 0, List.replicate i 1, rfl, ⟨by omega, by omega⟩, ⟨HN.out⟩, ⟨L0.out⟩, ⟨PI_ones i⟩, ⟨by omega, by omega⟩, ⟨HB.out⟩⟩
        case round =>
          clear L0 HN HB HI
          obtain ⟨k, u, d, l, rfl, HI, HN, HL, HP, HU, HB⟩ := hrel
          have hi50 : k ≤ 50 := by have := HI.out; omega
          by_cases c2 : k < len
          · have d2 : decide (k < len) = true := decide_eq_true c2
            by_cases c3 : k < 50
            · have d3 : decide (k < 50) = true := decide_eq_true c3
              obtain ⟨k1, rfl⟩ : ∃ k1, gk = k1 + 1 := ⟨gk - 1, by have := HI.out; omega⟩
              obtain ⟨ad, x, y, q, rfl, s0, s1, s2, hq⟩ := HS.out k c2
              obtain ⟨s, rfl, hs⟩ := u64_out q hq
              have s0' := cell_far s0 HB.out
              have s1' := cell_far s1 HB.out
              have s2' := cell_far s2 HB.out
              rw [Nat.add_zero] at s0'
              rw [add_one] at s1'
              rw [add_two] at s2'
              have KS := Lib.hid (step06_any i w.heap.size bp g gc u d s l x y w wr n1 n2 HU.out.1 HU.out.2 hs HP.out HN.out HL.out G1.out HB.out G2.out HT.out)
              clear s0 s1 s2 hq
              go_wp2_with (first
                | (go_at_call 45; refine KS.out.mono ?_; rintro e w4 ⟨rfl, u', d', l', h1, h2, h3, h4, h5⟩; have HN1 := Lib.hid h1; have HL1 := Lib.hid h2; have HP1 := Lib.hid h3; have HU1 := Lib.hid h4; have HB1 := Lib.hid h5; clear h1 h2 h3 h4 h5)
                | (go_at_call 46; refine (like06_any i w.heap.size bp g gc u' d' l' _ n1 n2 HU1.out.1 HU1.out.2 HP1.out HN1.out HL1.out).mono ?_; rintro e w6 ⟨rfl, hb⟩; have HN2 := Lib.hid (HN1.out.below hb HN1.out.lt); have HL2 := Lib.hid (HL1.out.below hb); have HB2 := Lib.hid (below_step HB1.out hb); clear hb))
              go_roundg k1
              case measure => have := HI.out; omega
              case rel => exact ⟨k + 1, u', d', l', by go_num, ⟨by have := HI.out; omega, by have := HI.out; omega⟩, ⟨HN2.out⟩, ⟨HL2.out⟩, ⟨HP1.out⟩, ⟨HU1.out⟩, ⟨HB2.out⟩⟩
            · have d3 : decide (k < 50) = false := decide_eq_false c3
              go_wp2_with (go_at_call 36; refine (HW.out _ HB.out).mono ?_; rintro e w3 ⟨rfl, hb3⟩)
              go_ret
              exact ⟨rfl, below_step HB.out hb3⟩
          · have d2 : decide (k < len) = false := decide_eq_false c2
            go_wp2_with (go_at_call 36; refine (HW.out _ HB.out).mono ?_; rintro e w3 ⟨rfl, hb3⟩)
            go_ret
            exact ⟨rfl, below_step HB.out hb3⟩
end Go.Proofs.YtmjkgnlmdcmdbaaDoor.Node
