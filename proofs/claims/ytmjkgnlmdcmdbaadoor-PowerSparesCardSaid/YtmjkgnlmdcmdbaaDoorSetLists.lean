/- SetLists: the set of any nodes, of the first ones, and its nodes; the law's walk. -/
import Derived.Test.YtmjkgnlmdcmdbaaDoorSetApart
namespace Go.Proofs.YtmjkgnlmdcmdbaaDoor.Sets
open Go.RowKit Go.Proofs.YtmjkgnlmdcmdbaaDoorW.PrintWords Go.Proofs.YtmjkgnlmdcmdbaaDoorW.PrintLast Go.Proofs.YtmjkgnlmdcmdbaaDoorW.PrintMore Go.Proofs.YtmjkgnlmdcmdbaaDoor.Row Go.Proofs.YtmjkgnlmdcmdbaaDoor.Open
set_option linter.unusedVariables false
set_option linter.unusedSimpArgs false
theorem nodes_rank (s i : Nat) (hi : i < 64) (hb : s.testBit i = true) : (nodes s)[rank (fun j => s.testBit j) i]? = some i := by
  unfold nodes rank
  have e : List.range 64 = List.range i ++ (List.range (64 - i)).map (i + ·) := by
    rw [← List.range_add]
    congr 1
    omega
  rw [e, List.filter_append, List.getElem?_append_right (Nat.le_refl _), Nat.sub_self]
  obtain ⟨m, hm⟩ : ∃ m, 64 - i = m + 1 := ⟨64 - i - 1, by omega⟩
  rw [hm, List.range_succ_eq_map, List.map_cons, List.filter_cons, if_pos (by simpa using hb)]
  simp
theorem run_make_bools (w : World) : (Instr.makeSlice 26 (.int .i64 64) (.int .i64 64)).run Tryd.prog w = .ok (.slice (some ⟨w.heap.size, 0, none⟩) 64 64) (w.alloc (.cells (Array.replicate 64 (.bool false)) 4)) := by
  obtain ⟨i, hi, hi2⟩ := Option.map_eq_some_iff.1 info_bool
  simp only [Prod.mk.injEq] at hi2
  obtain ⟨hz, hs, hb⟩ := hi2
  exact run_make_int (P := Tryd.prog) 26 4 i (.bool false) Tryd.underlying26 hi hz hs rfl 64 (by rw [hb]; omega) (by omega) w
theorem row_make (w : World) : GRow Value.bool 4 (w.alloc (.cells (Array.replicate 64 (.bool false)) 4)) w.heap.size (List.replicate 64 false) :=
  GRow.new w _ (fun j hj => by
    rw [Array.getElem?_replicate, List.getElem_replicate]
    rw [List.length_replicate] at hj
    rw [if_pos hj])
theorem rep_get (n j : Nat) : (List.replicate n false).getD j false = false := by
  rw [List.getD_eq_getElem?_getD, List.getElem?_replicate]
  split <;> rfl
/-- the truths of what a list has -/
def InL (la : List Bool) (l : List Int) : Prop := la.length = 64 ∧ ∀ j, j < 64 → la.getD j false = decide ((j : Int) ∈ l)
theorem InL.start : InL (List.replicate 64 false) [] := ⟨List.length_replicate, fun j hj => by rw [rep_get]; simp⟩
theorem InL.put {la : List Bool} {l : List Int} {x : Int} (h : InL la l) (h0 : 0 ≤ x) (h1 : x < 64) : InL (la.set x.toNat true) (l ++ [x]) := ⟨by rw [List.length_set]; exact h.1, fun j hj => by
  have h2 := h.2 j hj
  rw [List.getD_eq_getElem?_getD, List.getElem?_set]
  by_cases hij : x.toNat = j
  · have e : (j : Int) = x := by omega
    rw [if_pos hij, if_pos (by rw [h.1]; omega)]
    simp [e]
  · have e : ¬ (j : Int) = x := by omega
    rw [if_neg hij, ← List.getD_eq_getElem?_getD, h2]
    simp [e]⟩
theorem InL.skip {la : List Bool} {l : List Int} {x : Int} (h : InL la l) (h1 : x < 0 ∨ 64 ≤ x) : InL la (l ++ [x]) := ⟨h.1, fun j hj => by
  have e : ¬ (j : Int) = x := by omega
  rw [h.2 j hj]
  simp [e]⟩
theorem InL.bit {la : List Bool} {l : List Int} (h : InL la l) (j : Nat) (hj : j < 64) : la.getD j false = (ofS l).testBit j := by rw [h.2 j hj, ofS_bit l j hj]
theorem InL.is {la : List Bool} {l : List Int} (h : InL la l) : bitsOf la = ofS l :=
  eq_of_bits _ _ (bitsOf_lt la) (ofS_lt l) fun i hi => by rw [bitsOf_bit la i hi, h.bit i hi]
/-- the first k are true -/
def FirstL (lb : List Bool) (k : Nat) : Prop := lb.length = 64 ∧ ∀ j, j < 64 → lb.getD j false = decide (j < k)
theorem FirstL.start : FirstL (List.replicate 64 false) 0 := ⟨List.length_replicate, fun j hj => by rw [rep_get]; simp⟩
theorem FirstL.put {lb : List Bool} {k : Nat} (h : FirstL lb k) (hk : k < 64) : FirstL (lb.set k true) (k + 1) := ⟨by rw [List.length_set]; exact h.1, fun j hj => by
  rw [List.getD_eq_getElem?_getD, List.getElem?_set]
  by_cases hij : k = j
  · subst hij
    rw [if_pos rfl, if_pos (by rw [h.1]; omega)]
    simp
  · rw [if_neg hij, ← List.getD_eq_getElem?_getD, h.2 j hj]
    by_cases h1 : j < k
    · have : j < k + 1 := by omega
      simp [h1, this]
    · have : ¬ j < k + 1 := by omega
      simp [h1, this]⟩
theorem FirstL.is {lb : List Bool} {k : Nat} {n : Int} (h : FirstL lb k) (hk : ∀ j : Nat, j < 64 → (j < k ↔ (j : Int) < n)) : bitsOf lb = allS n :=
  eq_of_bits _ _ (bitsOf_lt lb) (allS_lt n) fun i hi => by
    rw [bitsOf_bit lb i hi, allS_bit n i hi, h.2 i hi]
    by_cases h1 : i < k
    · simp [h1, (hk i hi).1 h1]
    · have : ¬ (i : Int) < n := fun h => h1 ((hk i hi).2 h)
      simp [h1, this]
set_option maxRecDepth 100000 in
set_option maxHeartbeats 4000000 in
theorem SetLists_any (A : Option Addr) (len cap : Nat) (z : List Int) (n : Int) (w : World) (hz : IsRow .i64 w A len cap z) (y : len * 8 ≤ 140737488351232) (hn : (Lit.int .i64 n).wf = true) (hT : Tab w) :
    Calls Tryd.prog 4 #[.slice A len cap, .int .i64 n] w fun e w' => e = .returned (.bool true) ∧ Below w.heap.size w w' := by
  obtain ⟨l, rfl, hC, hm, hwf, hcap⟩ := hz.list
  have HR0 := Lib.hid (Rds.ofC hC)
  have HT := Lib.hid hT
  clear hC hwf hz hT hn
  unfold maxLen at hm
  have MK := Lib.hid run_make_bools
  go_enter Tryd.func4, Tryd.ntmps4
  go_upto_if 15 with fail
  go_cut [0] (fun v wx => ∃ (l1 : List Int) (c : Nat), v = .slice A l1.length c ∧ l1.length ≤ 100 ∧ Aside0 (Rds (Value.int .i64) w A l1) ∧ w = wx)
  case first =>
    by_cases h : 100 < l.length
    · have b0 : decide (100 < l.length) = true := decide_eq_true h
      have HT20 : Hid ((l.take 100).length = 100) := Lib.hid (by rw [List.length_take]; omega)
      obtain ⟨ad, rfl, _⟩ := HR0.out.rd_ 0 (by omega) (by omega)
      go_wp2
      go_meet
      exact ⟨l.take 100, cap, by rw [HT20.out], by rw [HT20.out]; omega, ⟨HR0.out.take 100⟩, rfl⟩
    · have b0 : decide (100 < l.length) = false := decide_eq_false h
      go_wp2
      go_meet
      exact ⟨l, cap, rfl, by omega, ⟨HR0.out⟩, rfl⟩
  case rest =>
    obtain ⟨l1, c, rfl, h20, HR, rfl⟩ := hcut
    clear HR0 hm hcap y
    have MK1 := MK.out
    go_upto_block 0 with fail
    have r1 := (row_make w).alloc (.cells (Array.replicate 64 (.bool false)) 4)
    have r2 := row_make (w.alloc (.cells (Array.replicate 64 (.bool false)) 4))
    have hb := below_alloc (below_alloc (Below.refl w.heap.size w) (.cells (Array.replicate 64 (.bool false)) 4)) (.cells (Array.replicate 64 (.bool false)) 4)
    rw [World.size_alloc] at r2
    clear MK1
    generalize (w.alloc (.cells (Array.replicate 64 (.bool false)) 4)).alloc (.cells (Array.replicate 64 (.bool false)) 4) = W0 at r1 r2 hb ⊢
    have HA := Lib.hid r1
    have HBR := Lib.hid r2
    have HB := Lib.hid hb
    clear r1 r2 hb
    go_wp2
    go_loopg [7] (l1.length + 1) (fun kq v7 w' => ∃ (i : Nat) (la : List Bool), v7 = .int .i64 i ∧ Aside0 (i + kq = l1.length + 1 ∧ 1 ≤ kq) ∧ Aside0 (InL la (l1.take i)) ∧ Aside0 (GRow Value.bool 4 w' w.heap.size la) ∧ Aside0 (GRow Value.bool 4 w' (w.heap.size + 1) (List.replicate 64 false)) ∧ Aside0 (Below w.heap.size w w'))
    case atStart => exact ⟨0, List.replicate 64 false, rfl, ⟨by omega, by omega⟩, ⟨InL.start⟩, ⟨HA.out⟩, ⟨HBR.out⟩, ⟨HB.out⟩⟩
    case round =>
      clear HA HBR HB
      obtain ⟨i, la, rfl, HI, HL, HA, HBR, HB⟩ := hrel
      obtain ⟨k1, rfl⟩ : ∃ k1, gk = k1 + 1 := ⟨gk - 1, by have := HI.out; omega⟩
      by_cases c1 : i < l1.length
      · have b1 : decide (i < l1.length) = true := decide_eq_true c1
        obtain ⟨ad, rfl, t0⟩ := HR.out.rd_ (i : Int) (by omega) (by omega)
        rw [Int.toNat_natCast] at t0
        obtain ⟨x, hx⟩ : ∃ x, rd l1 (i : Int) = x := ⟨_, rfl⟩
        rw [hx] at t0
        have HN : Hid (l1.take (i + 1) = l1.take i ++ [x]) := Lib.hid (by
          rw [List.take_succ_eq_append_getElem c1, ← hx]
          simp [rd, c1])
        have t0' : wr.cell? (ad.add i) = some (.int .i64 x) := (HB.out.cell (World.block_lt_of_cell? w _ t0)).trans t0
        clear hx t0
        by_cases c2 : 0 ≤ x
        · have b2 : decide (0 ≤ x) = true := decide_eq_true c2
          by_cases c3 : x < 64
          · have b3 : decide (x < 64) = true := decide_eq_true c3
            have x0 : (0 ≤ x ∧ x < 64) = True := eq_true ⟨c2, c3⟩
            have qa := HA.out.cell x.toNat (by rw [HL.out.1]; omega)
            have fa := HA.out.soft x.toNat
            go_wp2
            go_roundg k1
            case measure => have := HI.out; omega
            case rel => exact ⟨i + 1, la.set x.toNat true, by go_num, ⟨by have := HI.out; omega, by have := HI.out; omega⟩, ⟨by rw [HN.out]; exact HL.out.put c2 c3⟩, ⟨HA.out.set x.toNat true⟩, ⟨HBR.out.far ⟨w.heap.size, x.toNat, none⟩ (by simp) (.bool true)⟩, ⟨HB.out.setCell (p := ⟨w.heap.size, x.toNat, none⟩) (Nat.le_refl _) (.bool true)⟩⟩
          · have b3 : decide (x < 64) = false := decide_eq_false c3
            go_wp2
            go_roundg k1
            case measure => have := HI.out; omega
            case rel => exact ⟨i + 1, la, by go_num, ⟨by have := HI.out; omega, by have := HI.out; omega⟩, ⟨by rw [HN.out]; exact HL.out.skip (by omega)⟩, ⟨HA.out⟩, ⟨HBR.out⟩, ⟨HB.out⟩⟩
        · have b2 : decide (0 ≤ x) = false := decide_eq_false c2
          go_wp2
          go_roundg k1
          case measure => have := HI.out; omega
          case rel => exact ⟨i + 1, la, by go_num, ⟨by have := HI.out; omega, by have := HI.out; omega⟩, ⟨by rw [HN.out]; exact HL.out.skip (by omega)⟩, ⟨HA.out⟩, ⟨HBR.out⟩, ⟨HB.out⟩⟩
      · have b1 : decide (i < l1.length) = false := decide_eq_false c1
        obtain rfl : i = l1.length := by have := HI.out; omega
        have HLF : Hid (InL la l1) := Lib.hid (by have := HL.out; rwa [List.take_length] at this)
        clear HL HI c1
        go_upto_block 2 with fail
        go_cut [] (fun wx => ∃ (lb : List Bool) (k : Nat), Aside0 (FirstL lb k ∧ ∀ j : Nat, j < 64 → (j < k ↔ (j : Int) < n)) ∧ Aside0 (GRow Value.bool 4 wx w.heap.size la) ∧ Aside0 (GRow Value.bool 4 wx (w.heap.size + 1) lb) ∧ Aside0 (Below w.heap.size w wx))
        case first =>
          go_wp2
          go_loopg [8] 66 (fun kq v8 w' => ∃ (k : Nat) (lb : List Bool), v8 = .int .i64 k ∧ Aside0 (k + kq = 66 ∧ k ≤ 64 ∧ ((k : Int) ≤ n ∨ k = 0)) ∧ Aside0 (FirstL lb k) ∧ Aside0 (GRow Value.bool 4 w' w.heap.size la) ∧ Aside0 (GRow Value.bool 4 w' (w.heap.size + 1) lb) ∧ Aside0 (Below w.heap.size w w'))
          case atStart => exact ⟨0, List.replicate 64 false, rfl, ⟨by omega, by omega, .inr rfl⟩, ⟨FirstL.start⟩, ⟨HA.out⟩, ⟨HBR.out⟩, ⟨HB.out⟩⟩
          case round =>
            clear HA HBR HB
            obtain ⟨k, lb, rfl, HK, HF, HA, HBR, HB⟩ := hrel
            by_cases d1 : k < 64
            · have e1 : decide (k < 64) = true := decide_eq_true d1
              by_cases d2 : (k : Int) < n
              · have e2 : decide ((k : Int) < n) = true := decide_eq_true d2
                obtain ⟨k2, hk2⟩ : ∃ k2, 66 - k = k2 + 1 := ⟨65 - k, by omega⟩
                have qa := HBR.out.cell k (by rw [HF.out.1]; exact d1)
                have fa := HBR.out.soft k
                go_wp2
                go_roundg k2
                case measure => have := HK.out; omega
                case rel => exact ⟨k + 1, lb.set k true, by go_num, ⟨by omega, by omega, .inl (by omega)⟩, ⟨HF.out.put d1⟩, ⟨HA.out.far ⟨w.heap.size + 1, k, none⟩ (by simp) (.bool true)⟩, ⟨HBR.out.set k true⟩, ⟨HB.out.setCell (p := ⟨w.heap.size + 1, k, none⟩) (by simp) (.bool true)⟩⟩
              · have e2 : decide ((k : Int) < n) = false := decide_eq_false d2
                go_wp2
                go_meet
                exact ⟨lb, k, ⟨HF.out, fun j hj => by have := HK.out; omega⟩, ⟨HA.out⟩, ⟨HBR.out⟩, ⟨HB.out⟩⟩
            · have e1 : decide (k < 64) = false := decide_eq_false d1
              go_wp2
              go_meet
              exact ⟨lb, k, ⟨HF.out, fun j hj => by have := HK.out; omega⟩, ⟨HA.out⟩, ⟨HBR.out⟩, ⟨HB.out⟩⟩
        case rest =>
          obtain ⟨lb, k, HF, HA2, HB2, HBL⟩ := hcut
          obtain ⟨wd, rfl⟩ : ∃ wd : World, wd = wc := ⟨_, rfl⟩
          clear HA HBR HB
          have hs := ofS_lt l1
          have KO := Lib.hid (of_any A c l1 wd (HR.out.below HBL.out) (by omega))
          have hf := HF.out.1.is HF.out.2
          obtain ⟨s, hsd⟩ : ∃ s, ofS l1 = s := ⟨_, rfl⟩
          have hla := HLF.out.is
          have hbit := fun j hj => HLF.out.bit j hj
          rw [hsd] at hs KO hla
          simp only [hsd] at hbit
          have HBIT := Lib.hid hbit
          have HLA := Lib.hid hla
          have HFF := Lib.hid hf
          have KL := Lib.hid (list_any s wd hs (HT.out.below HBL.out HT.out.lt))
          clear hbit hla hf hsd
          go_wp2_with (first
            | (go_at_call 24; refine KO.out.mono ?_; rintro e w2 ⟨rfl, rfl⟩)
            | (go_at_call 25; refine KL.out.mono ?_; rintro e w2 ⟨A2, c2, rfl, hc2, hr2, hb2⟩; have HR2 := Lib.hid hr2; have HB3 := Lib.hid hb2; clear hr2 hb2))
          have HA3 := Lib.hid (HA2.out.below HB3.out HA2.out.lt)
          have HB4 := Lib.hid (HB2.out.below HB3.out HB2.out.lt)
          have HBL2 := Lib.hid (below_step HBL.out HB3.out)
          have hl64 := lenS_le s
          clear HA2 HB2 HBL HB3 KO KL
          go_loop [11, 12] (fun v11 v12 => ∃ (i m : Nat), v11 = .int .i64 m ∧ v12 = .int .i64 i ∧ Aside0 (i ≤ 64 ∧ m = rank (fun j => s.testBit j) i) ∧ m ≤ 64) (fun _ v12 => 64 - (intOf v12).toNat)
          case atStart => exact ⟨0, 0, rfl, rfl, ⟨by omega, rfl⟩, by omega⟩
          case round =>
            obtain ⟨i, m, rfl, rfl, HM, hm64⟩ := hrel
            by_cases d1 : i < 64
            · have e1 : decide (i < 64) = true := decide_eq_true d1
              have hli : i < la.length := by rw [HLF.out.1]; exact d1
              have qa := HA3.out.cell i hli
              have hrk := rank_succ (fun j => s.testBit j) i
              have hbi := HBIT.out i d1
              have hg : la[i] = s.testBit i := by rw [← hbi]; simp [hli]
              rw [hg] at qa
              obtain ⟨b, hb⟩ : ∃ b, s.testBit i = b := ⟨_, rfl⟩
              rw [hb] at qa
              simp only [hb] at hrk
              have HRK := Lib.hid hrk
              have HBI := Lib.hid hb
              clear hrk hbi hg hb hli
              cases b with
              | false =>
                go_wp2
                go_round
                case rel => exact ⟨i + 1, m, rfl, by go_num, ⟨by omega, by rw [HRK.out, ← HM.out.2]; simp⟩, hm64⟩
                case measure => simp [intOf]; omega
              | true =>
                have hnr := nodes_rank s i d1 HBI.out
                rw [← HM.out.2] at hnr
                have hml : m < (nodes s).length := (List.getElem?_eq_some_iff.1 hnr).1
                have hml2 : m < lenS s := hml
                obtain ⟨ad, rfl, t0⟩ := HR2.out.at_ 0 (m : Int) (by omega) (by simp [nums]; exact hml)
                rw [Int.toNat_natCast] at t0
                have hv : (nums (nodes s)).getD m 0 = (i : Int) := by
                  rw [List.getD_eq_getElem?_getD]
                  simp [nums, hnr]
                rw [hv] at t0
                have e2 : decide (lenS s ≤ m) = false := decide_eq_false (by omega)
                have e3 : ((i : Int) != (i : Int)) = false := by simp
                clear hnr hml hv
                go_wp2
                go_round
                case rel => exact ⟨i + 1, m + 1, by go_num, by go_num, ⟨by omega, by rw [HRK.out, ← HM.out.2]; simp⟩, by omega⟩
                case measure => simp [intOf]; omega
            · have e1 : decide (i < 64) = false := decide_eq_false d1
              obtain rfl : i = 64 := by have := HM.out; omega
              obtain rfl : m = lenS s := HM.out.2
              have KA := Lib.hid (fun c => of03_any (some ⟨w.heap.size, 0, none⟩) c la w2 HA3.out.rds HLF.out.1)
              have KB := Lib.hid (fun c => of03_any (some ⟨w.heap.size + 1, 0, none⟩) c lb w2 HB4.out.rds HF.out.1.1)
              rw [HLA.out] at KA
              rw [HFF.out] at KB
              have KW := Lib.hid (awake03_any w2 (HT.out.below HBL2.out HT.out.lt))
              go_wp2_with (first
                | (go_at_call 23; (with_reducible refine (KA.out _).mono ?_); rintro e w3 ⟨rfl, rfl⟩)
                | (go_at_call 23; (with_reducible refine (KB.out _).mono ?_); rintro e w3 ⟨rfl, rfl⟩)
                | (go_at_call 26; refine (all_any n _).mono ?_; rintro e w3 ⟨rfl, rfl⟩)
                | (go_at_call 22; refine KW.out.mono ?_; rintro e w3 ⟨rfl, hb3⟩))
              go_ret
              exact ⟨rfl, below_step HBL2.out hb3⟩
end Go.Proofs.YtmjkgnlmdcmdbaaDoor.Sets
