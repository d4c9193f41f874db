/- pick.Rows: a set's rows. -/
import Derived.Test.YtmjkgnlmdcmdbaaDoorSetAwake
import Derived.Test.YtmjkgnlmdcmdbaaDoorSetApart
import Derived.Deep.DeepCutAuto
import Derived.Deep.CutBlock
namespace Go.Proofs.YtmjkgnlmdcmdbaaDoor.Pick
open Go.RowKit Go.Proofs.YtmjkgnlmdcmdbaaDoorW.PrintWords Go.Proofs.YtmjkgnlmdcmdbaaDoorW.PrintLast Go.Proofs.YtmjkgnlmdcmdbaaDoorW.PrintMore Go.Proofs.YtmjkgnlmdcmdbaaDoor.Row Go.Proofs.YtmjkgnlmdcmdbaaDoor.Sets
set_option linter.unusedVariables false
set_option linter.unusedSimpArgs false
/-- nodes, rising, are rows: each from a node, and how long -/
def RowsOf : List Nat → List (Nat × Nat) → Prop
  | l, [] => l = []
  | l, p :: L => 1 ≤ p.2 ∧ ∃ r, l = List.range' p.1 p.2 ++ r ∧ (p.1 + p.2) ∉ r ∧ RowsOf r L
def rowSet (p : Nat × Nat) : Nat := mk (List.range' p.1 p.2)
theorem low_is (t k : Nat) (ht : t < 18446744073709551616) (hb : t.testBit k = true) (hlo : ∀ i, i < k → t.testBit i = false) : t ≠ 0 ∧ Lib.ctz 64 t = k := by
  have h0 : t ≠ 0 := by rintro rfl; rw [Nat.zero_testBit] at hb; cases hb
  obtain ⟨a, b, c, -⟩ := low_bits t h0 ht
  refine ⟨h0, ?_⟩
  rcases Nat.lt_trichotomy (Lib.ctz 64 t) k with h | h | h
  · rw [hlo _ h] at b; cases b
  · exact h
  · rw [c k h] at hb; cases hb
theorem take_low (t k : Nat) (ht : t < 18446744073709551616) (hk : k < 64) (hb : t.testBit k = true) (hlo : ∀ i, i < k → t.testBit i = false) : nodes t = k :: nodes (withoutS t (k : Int)) := by
  obtain ⟨h0, e⟩ := low_is t k ht hb hlo
  have h := drop_low t (withoutS t (k : Int)) h0 ht (fun i hi => by
    rw [withoutS_bit _ _ _ hi, e]
    congr 1
    by_cases h : i = k
    · subst h; simp
    · have : ¬ ((i : Int) = (k : Int)) := by omega
      simp [h, this])
  rw [e] at h
  exact h
theorem range_snoc (a j : Nat) : List.range' a (j + 1) = List.range' a j ++ [a + j] := by
  rw [List.range'_concat]
  simp
theorem rowSet_lt (a j : Nat) (h : a + j ≤ 64) : mk (List.range' a j) < 18446744073709551616 := mk_lt _ fun i hi => by
  rw [List.mem_range'] at hi
  obtain ⟨q, hq, rfl⟩ := hi
  omega
theorem rowSet_step (a j : Nat) (h : a + j < 64) : withS (mk (List.range' a j)) ((a + j : Nat) : Int) = mk (List.range' a (j + 1)) := by
  rw [withS_at _ _ h, range_snoc, mk_snoc]
/-- the rows, in memory -/
def RowsPost (s : Nat) (w : World) (e : Ending) (w' : World) : Prop := ∃ A c L, e = .returned (.slice A (List.length L) c) ∧ List.length L ≤ c ∧ Rds (Value.int .u64) w' A (Sets.nums (L.map rowSet)) ∧ RowsOf (nodes s) L ∧ (∀ p ∈ L, p.1 + p.2 ≤ 64) ∧ Below w.heap.size w w'
set_option maxRecDepth 100000 in
set_option maxHeartbeats 2000000 in
theorem Rows_any (s : Nat) (w : World) (hs : s < 18446744073709551616) (hT : Tab w) : Calls Tryd.prog 71 #[.int .u64 (s : Int)] w (RowsPost s w) := by
  have HB := Aside0.mk (Below.refl w.heap.size w)
  have HT := Lib.hid hT
  clear hT
  go_enter Tryd.func71, Tryd.ntmps71
  go_wp2
  go_loopg [0, 3] 66 (fun kq v0 v3 w' => ∃ (t : Nat) (Ld : List (Nat × Nat)), v0 = .int .u64 (t : Int) ∧ Aside0 (lenS t + 1 ≤ kq ∧ t < 18446744073709551616 ∧ Ld.length + lenS t ≤ 64 ∧ ∀ p ∈ Ld, p.1 + p.2 ≤ 64) ∧ Aside0 (∀ Lr, RowsOf (nodes t) Lr → RowsOf (nodes s) (Ld ++ Lr)) ∧ Aside0 (Kd.R (Kd.int .u64) 23 w' w.heap.size (fun _ => True) v3 (Sets.nums (Ld.map rowSet))) ∧ Aside0 (Below w.heap.size w w'))
  case atStart => exact ⟨s, [], rfl, ⟨by have := lenS_le s; omega, hs, by have := lenS_le s; simp; omega, fun p hp => by cases hp⟩, ⟨fun Lr h => h⟩, ⟨Kd.R_nil _ _ _ _ _⟩, ⟨HB.out⟩⟩
  case round =>
    clear HB
    obtain ⟨t, Ld, rfl, HI, HR, HO, HB⟩ := hrel
    obtain ⟨k1, rfl⟩ : ∃ k1, gk = k1 + 1 := ⟨gk - 1, by have := HI.out; omega⟩
    have ht := HI.out.2.1
    by_cases h0 : t = 0
    · subst h0
      have hO := HO.out
      obtain ⟨A, c, hv, hc, hC⟩ := Kd.R_reads hO
      have hlen : (Sets.nums (Ld.map rowSet)).length = Ld.length := by simp [Sets.nums]
      have HRd := Lib.hid (Rds.ofC hC)
      rw [hlen] at hv hc
      subst hv
      have hres := HR.out [] nodes_zero
      rw [List.append_nil] at hres
      have HRES := Lib.hid hres
      clear hO hC HO hlen hres
      go_wp2
      go_ret
      exact ⟨A, c, Ld, rfl, hc, HRd.out, HRES.out, HI.out.2.2.2, HB.out⟩
    · have b0 : ((t : Int) != 0) = true := by simp; omega
      obtain ⟨a64, abit, alow, -⟩ := low_bits t h0 ht
      have KL := Lib.hid (fun W (h : Tab W) => low_any t W ht h)
      rw [lowS_at t h0] at KL
      obtain ⟨a, ha⟩ : ∃ a, Lib.ctz 64 t = a := ⟨_, rfl⟩
      rw [ha] at KL a64 abit alow
      clear ha
      go_upto_block 2 with (go_at_call 33; refine (KL.out _ (HT.out.below HB.out HT.out.lt)).mono ?_; rintro e w2 ⟨rfl, rfl⟩)
      go_cut [0, 5] (fun v0 v5 wx => ∃ (t' j : Nat), v0 = .int .u64 (t' : Int) ∧ v5 = .int .u64 (mk (List.range' a j) : Nat) ∧ Aside0 (1 ≤ j ∧ a + j ≤ 64 ∧ t' < 18446744073709551616 ∧ nodes t = List.range' a j ++ nodes t' ∧ (a + j) ∉ nodes t') ∧ wr = wx)
      case first =>
        go_wp2
        go_loopg [0, 4, 5] 66 (fun kq v0 v4 v5 w' => ∃ (t' j : Nat), v0 = .int .u64 (t' : Int) ∧ v4 = .int .i64 ((a : Int) + (j : Int)) ∧ v5 = .int .u64 (mk (List.range' a j) : Nat) ∧ Aside0 (j + kq = 66 ∧ a + j ≤ 64 ∧ t' < 18446744073709551616 ∧ nodes t = List.range' a j ++ nodes t' ∧ (∀ i, i < a + j → t'.testBit i = false) ∧ (j = 0 → t'.testBit a = true)) ∧ wr = w')
        case atStart => exact ⟨t, 0, rfl, by go_num, rfl, ⟨by omega, by omega, ht, rfl, fun i hi => alow i (by omega), fun _ => abit⟩, rfl⟩
        case round =>
          obtain ⟨t', j, rfl, rfl, rfl, HJ, rfl⟩ := hrel
          obtain ⟨k2, rfl⟩ : ∃ k2, gk = k2 + 1 := ⟨gk - 1, by have := HJ.out; omega⟩
          have ht' := HJ.out.2.2.1
          have haj := HJ.out.2.1
          have KH0 := fun W => has_any t' ((a : Int) + (j : Int)) W ht'
          have KW0 := fun W => with_any (mk (List.range' a j)) ((a : Int) + (j : Int)) W (rowSet_lt a j haj)
          have KO := Lib.hid (fun W => without_any t' ((a : Int) + (j : Int)) W ht')
          have hcast : ((a : Int) + (j : Int)) = ((a + j : Nat) : Int) := by omega
          by_cases hk : a + j < 64 ∧ t'.testBit (a + j) = true
          · have hh : hasS t' ((a : Int) + (j : Int)) = true := by rw [hcast, hasS_at _ _ hk.1]; exact hk.2
            rw [hh] at KH0
            have hw : withS (mk (List.range' a j)) ((a : Int) + (j : Int)) = mk (List.range' a (j + 1)) := by rw [hcast]; exact rowSet_step a j hk.1
            rw [hw] at KW0
            have KH := Lib.hid KH0
            have KW := Lib.hid KW0
            have hn := take_low t' (a + j) ht' hk.1 hk.2 HJ.out.2.2.2.2.1
            rw [← hcast] at hn
            have hol := withoutS_lt t' ((a : Int) + (j : Int)) ht'
            have hob : ∀ i, i < a + (j + 1) → (withoutS t' ((a : Int) + (j : Int))).testBit i = false := fun i hi => by
              rw [withoutS_bit _ _ _ (by omega), hcast]
              by_cases e : i = a + j
              · subst e; simp
              · rw [HJ.out.2.2.2.2.1 i (by omega)]; rfl
            obtain ⟨t2, ht2⟩ : ∃ t2, withoutS t' ((a : Int) + (j : Int)) = t2 := ⟨_, rfl⟩
            rw [ht2] at KO hn hol hob
            have HN := Lib.hid hn
            have HOB := Lib.hid hob
            have w1 : wrap64 ((a : Int) + (j : Int) + 1) = (a : Int) + ((j + 1 : Nat) : Int) := by unfold wrap64; omega
            have w2 : IntKind.i64.wrap ((a : Int) + (j : Int) + 1) = (a : Int) + ((j + 1 : Nat) : Int) := by rw [IntKind.wrap_i64]; omega
            have hk1 := hk.1
            clear KH0 KW0 hh hw hn hob ht2 hk hcast
            go_wp2_with (first
              | (go_at_call 29; refine (KH.out _).mono ?_; rintro e w2 ⟨rfl, rfl⟩)
              | (go_at_call 30; refine (KW.out _).mono ?_; rintro e w2 ⟨rfl, rfl⟩)
              | (go_at_call 31; refine (KO.out _).mono ?_; rintro e w2 ⟨rfl, rfl⟩))
            go_roundg k2
            case measure => have := HJ.out; omega
            case rel => exact ⟨t2, j + 1, rfl, by first | rfl | go_num, rfl, ⟨by have := HJ.out; omega, by omega, hol, by rw [HJ.out.2.2.2.1, HN.out, range_snoc, List.append_assoc]; rfl, HOB.out, fun h => by omega⟩, rfl⟩
          · have hh : hasS t' ((a : Int) + (j : Int)) = false := by
              rw [hcast]
              by_cases e : a + j < 64
              · rw [hasS_at _ _ e]
                cases hb : t'.testBit (a + j)
                · rfl
                · exact absurd ⟨e, hb⟩ hk
              · exact hasS_out _ _ (by omega)
            rw [hh] at KH0
            have KH := Lib.hid KH0
            have hj1 : 1 ≤ j := by
              rcases Nat.eq_zero_or_pos j with h | h
              · subst h
                exact absurd ⟨by omega, HJ.out.2.2.2.2.2 rfl⟩ hk
              · exact h
            have hno : (a + j) ∉ nodes t' := fun h => hk ((mem_nodes _ _).1 h)
            have HNO := Lib.hid hno
            clear KH0 KW0 hh hno hk hcast
            go_wp2_with (go_at_call 29; refine (KH.out _).mono ?_; rintro e w2 ⟨rfl, rfl⟩)
            go_meet
            exact ⟨t', j, rfl, rfl, ⟨hj1, haj, ht', HJ.out.2.2.2.1, HNO.out⟩, rfl⟩
      case rest =>
        obtain ⟨t', j, rfl, rfl, HC, rfl⟩ := hcut
        have hrl := rowSet_lt a j HC.out.2.1
        have HL1 : Hid ((Sets.nums (Ld.map rowSet)).length = Ld.length) := Lib.hid (by simp [Sets.nums])
        have HN2 : Hid (Sets.nums ((Ld ++ [(a, j)]).map rowSet) = Sets.nums (Ld.map rowSet) ++ [((mk (List.range' a j) : Nat) : Int)]) := Lib.hid (by simp [Sets.nums, rowSet])
        have hlt : lenS t' + j = lenS t := by
          have := congrArg List.length HC.out.2.2.2.1
          rw [List.length_append, List.length_range'] at this
          simp only [lenS]
          omega
        have HLT := Lib.hid hlt
        clear hlt
        go_wp2_with ((with_reducible refine gate_builtin (b := .append) (xs := #[.tmp 21, .tmp 23]) rfl ?_); at_builtin; go_loud (refine Kd.R_append (Kd.int .u64) (w0 := w) w.heap.size rfl (.tmp 21) (.tmp 23) 36 23 (.int .u64 0) 8 rfl Tryd.underlying36 info_set rfl (by decide) (by omega) _ (Sets.nums (Ld.map rowSet)) ((mk (List.range' a j) : Nat) : Int) [.int .u64 ((mk (List.range' a j) : Nat) : Int)] (fun _ => True) (fun _ => False) rfl rfl ?aP (fun _ hk => hk.elim) ?aF ?aO ?aB ?aS ?aL ?_; (case aP => exact rfl); (case aB => exact HB.out); (case aF => exact (fun _ _ => trivial)); (case aO => exact HO.out); (case aS => exact below_size HB.out); (case aL => have := HL1.out; have := HI.out; omega); intro v113 w5 ho hb hg hat; have HB1 := Lib.hid hb; have HO1 := Lib.hid ho; clear hb ho hg hat))
        go_roundg k1
        case measure => have := HI.out; have := HLT.out; have := HC.out.1; omega
        case rel => exact ⟨t', Ld ++ [(a, j)], rfl, ⟨by have := HI.out; have := HLT.out; have := HC.out.1; omega, HC.out.2.2.1, by rw [List.length_append, List.length_singleton]; have := HI.out; have := HLT.out; have := HC.out.1; omega, fun p hp => by
            rcases List.mem_append.1 hp with h | h
            · exact HI.out.2.2.2 p h
            · rw [List.mem_singleton] at h; subst h; exact HC.out.2.1⟩, ⟨fun Lr h => by
            rw [List.append_assoc]
            exact HR.out _ ⟨HC.out.1, _, HC.out.2.2.2.1, HC.out.2.2.2.2, h⟩⟩, ⟨by rw [HN2.out]; exact HO1.out⟩, ⟨HB1.out⟩⟩
end Go.Proofs.YtmjkgnlmdcmdbaaDoor.Pick
