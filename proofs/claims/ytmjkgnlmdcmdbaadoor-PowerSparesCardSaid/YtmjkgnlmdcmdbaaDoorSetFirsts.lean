/- SetFirsts: the lowest so many nodes, and the lowest row; the law's walk. -/
import Derived.Test.YtmjkgnlmdcmdbaaDoorSetLists
namespace Go.Proofs.YtmjkgnlmdcmdbaaDoor.Sets
open Go.RowKit Go.Proofs.YtmjkgnlmdcmdbaaDoorW.PrintWords Go.Proofs.YtmjkgnlmdcmdbaaDoorW.PrintLast Go.Proofs.YtmjkgnlmdcmdbaaDoorW.PrintMore Go.Proofs.YtmjkgnlmdcmdbaaDoor.Row Go.Proofs.YtmjkgnlmdcmdbaaDoor.Open
set_option linter.unusedVariables false
set_option linter.unusedSimpArgs false
theorem rank_mono (p : Nat → Bool) (i j : Nat) (h : i ≤ j) : rank p i ≤ rank p j := by
  induction j with
  | zero => obtain rfl : i = 0 := by omega
            exact Nat.le_refl _
  | succ j ih =>
    by_cases e : i = j + 1
    · subst e; exact Nat.le_refl _
    · rw [rank_succ]
      have := ih (by omega)
      omega
theorem row_rank (s k n : Nat) (h : rowIn s k n) : ∀ i, i ≤ n → i ≤ rank (fun j => s.testBit j) (k + i) := by
  intro i
  induction i with
  | zero => intro _; omega
  | succ i ih =>
    intro hi
    have h1 := ih (by omega)
    have h2 := rank_succ (fun j => s.testBit j) (k + i)
    rw [show k + (i + 1) = k + i + 1 by omega, h2]
    have h3 : s.testBit (k + i) = true := h i (by omega)
    simp only [h3, if_true]
    omega
theorem row_few (s k n : Nat) (h : rowIn s k n) (hk : k + n ≤ 64) : n ≤ lenS s :=
  Nat.le_trans (row_rank s k n h n (Nat.le_refl _)) (rank_mono (fun j => s.testBit j) (k + n) 64 hk)
theorem run_none (s : Nat) (n : Int) (r : Nat) (b : Bool) (h : RunIs s n r b) (hn : n < 0 ∨ (lenS s : Int) < n) : r = 0 ∧ b = false := by
  rcases h with ⟨h1, h2, _⟩ | ⟨_, h0, h64, k, hk, hr, _, _⟩
  · exact ⟨h2, h1⟩
  · have := row_few s k n.toNat hr (by omega)
    omega
theorem run_at (s : Nat) (n : Int) (r : Nat) (b : Bool) (h : RunIs s n r b) (k : Nat) (h0 : 0 ≤ n) (hk : (k : Int) + n ≤ 64) (hr : rowIn s k n.toNat) (hm : ∀ j : Nat, j < k → ¬ rowIn s j n.toNat) : b = true ∧ r = (2 ^ n.toNat - 1) * 2 ^ k := by
  rcases h with ⟨_, _, h⟩ | ⟨h1, _, _, k', hk', hr', hm', e⟩
  · rcases h with h | h | h
    · omega
    · omega
    · exact absurd hr (h k hk)
  · have : k' = k := by
      rcases Nat.lt_trichotomy k' k with h | h | h
      · exact absurd hr' (hm k' h)
      · exact h
      · exact absurd hr (hm' k h)
    subst this
    exact ⟨h1, e⟩
theorem run_not (s : Nat) (n : Int) (r : Nat) (b : Bool) (h : RunIs s n r b) (hm : ∀ j : Nat, (j : Int) + n ≤ 64 → ¬ rowIn s j n.toNat) : b = false ∧ r = 0 := by
  rcases h with ⟨h1, h2, _⟩ | ⟨_, _, _, k, hk, hr, _, _⟩
  · exact ⟨h1, h2⟩
  · exact absurd hr (hm k hk)
/-- the first n of a set, of those below i -/
def FirstsL (s : Nat) (n : Int) (i : Nat) (l : List Bool) : Prop := l.length = 64 ∧ ∀ j, j < 64 → l.getD j false = (decide (j < i) && (s.testBit j && decide ((rank (fun j => s.testBit j) j : Int) < n)))
theorem FirstsL.start (s : Nat) (n : Int) : FirstsL s n 0 (List.replicate 64 false) := ⟨List.length_replicate, fun j hj => by rw [rep_get]; simp⟩
theorem FirstsL.put {s : Nat} {n : Int} {i : Nat} {l : List Bool} (h : FirstsL s n i l) (hi : i < 64) (hb : s.testBit i = true) (hr : (rank (fun j => s.testBit j) i : Int) < n) : FirstsL s n (i + 1) (l.set i true) := ⟨by rw [List.length_set]; exact h.1, fun j hj => by
  rw [List.getD_eq_getElem?_getD, List.getElem?_set]
  by_cases hij : i = j
  · subst hij
    rw [if_pos rfl, if_pos (by rw [h.1]; omega)]
    simp [hb, hr]
  · rw [if_neg hij, ← List.getD_eq_getElem?_getD, h.2 j hj]
    congr 1
    by_cases h1 : j < i
    · have : j < i + 1 := by omega
      simp [h1, this]
    · have : ¬ j < i + 1 := by omega
      simp [h1, this]⟩
theorem FirstsL.keep {s : Nat} {n : Int} {i : Nat} {l : List Bool} (h : FirstsL s n i l) (hi : s.testBit i = false ∨ ¬ (rank (fun j => s.testBit j) i : Int) < n) : FirstsL s n (i + 1) l := ⟨h.1, fun j hj => by
  rw [h.2 j hj]
  by_cases hij : i = j
  · subst hij
    rcases hi with hi | hi
    · simp [hi]
    · simp [hi]
  · congr 1
    by_cases h1 : j < i
    · have : j < i + 1 := by omega
      simp [h1, this]
    · have : ¬ j < i + 1 := by omega
      simp [h1, this]⟩
theorem FirstsL.is {s : Nat} {n : Int} {l : List Bool} (h : FirstsL s n 64 l) (h0 : 0 ≤ n) (h1 : n ≤ (lenS s : Int)) : bitsOf l = firstS s n :=
  eq_of_bits _ _ (bitsOf_lt l) (firstS_lt s n) fun i hi => by
    have e1 : firstS s n = mk ((nodes s).take n.toNat) := by unfold firstS; rw [if_neg (by omega)]
    rw [bitsOf_bit l i hi, h.2 i hi, e1, mk_bit, Bool.eq_iff_iff]
    have hc : ((rank (fun j => s.testBit j) i : Int) < n) ↔ rank (fun j => s.testBit j) i < n.toNat := by omega
    rw [decide_eq_true_eq, mem_take, Bool.and_eq_true, Bool.and_eq_true, decide_eq_true_eq, decide_eq_true_eq, hc]
/-- a row from k up to i -/
def RowL (k i : Nat) (l : List Bool) : Prop := l.length = 64 ∧ ∀ j, j < 64 → l.getD j false = (decide (k ≤ j) && decide (j < i))
theorem RowL.start (k : Nat) : RowL k k (List.replicate 64 false) := ⟨List.length_replicate, fun j hj => by
  rw [rep_get]
  by_cases h : k ≤ j
  · have : ¬ j < k := by omega
    simp [this]
  · simp [h]⟩
theorem RowL.put {k i : Nat} {l : List Bool} (h : RowL k i l) (hk : k ≤ i) (hi : i < 64) : RowL k (i + 1) (l.set i true) := ⟨by rw [List.length_set]; exact h.1, fun j hj => by
  rw [List.getD_eq_getElem?_getD, List.getElem?_set]
  by_cases hij : i = j
  · subst hij
    rw [if_pos rfl, if_pos (by rw [h.1]; omega)]
    simp [hk]
  · rw [if_neg hij, ← List.getD_eq_getElem?_getD, h.2 j hj]
    congr 1
    by_cases h1 : j < i
    · have : j < i + 1 := by omega
      simp [h1, this]
    · have : ¬ j < i + 1 := by omega
      simp [h1, this]⟩
theorem RowL.is {k : Nat} {n : Int} {l : List Bool} (h : RowL k (k + n.toNat) l) (h0 : 0 ≤ n) (hk : (k : Int) + n ≤ 64) : bitsOf l = (2 ^ n.toNat - 1) * 2 ^ k :=
  eq_of_bits _ _ (bitsOf_lt l) (row_lt k n h0 hk) fun i hi => by rw [bitsOf_bit l i hi, h.2 i hi, row_bit]
set_option maxRecDepth 100000 in
set_option maxHeartbeats 4000000 in
theorem SetFirsts_any (x n : Int) (w : World) (hx : (Lit.int .u64 x).wf = true) (hn : (Lit.int .i64 n).wf = true) (hT : Tab w) :
    Calls Tryd.prog 3 #[.int .u64 x, .int .i64 n] w fun e w' => e = .returned (.bool true) ∧ Below w.heap.size w w' := by
  obtain ⟨s, rfl, hs⟩ := u64_out x hx
  have HT := Lib.hid hT
  clear hx hn hT
  have hl64 := lenS_le s
  have MK := Lib.hid run_make_bools
  have KF := Lib.hid (first_any s n w hs HT.out)
  have MK1 := MK.out
  go_enter Tryd.func3, Tryd.ntmps3
  go_upto_block 0 with (first
    | (go_at_call 19; refine KF.out.mono ?_; rintro e w2 ⟨rfl, rfl⟩)
    | (go_at_call 20; refine (run_any s n _ hs).mono ?_; rintro e w2 ⟨r, b, rfl, hr64, hr, rfl⟩; have HRN := Lib.hid hr; clear hr))
  have r1 := row_make w
  have hb1 := below_alloc (Below.refl w.heap.size w) (.cells (Array.replicate 64 (.bool false)) 4)
  generalize w.alloc (.cells (Array.replicate 64 (.bool false)) 4) = W0 at r1 hb1 ⊢
  have HA := Lib.hid r1
  have HB := Lib.hid hb1
  clear r1 hb1 KF MK1
  go_wp2
  go_loopg [11, 12] 65 (fun kq v11 v12 w' => ∃ (m i : Nat) (la : List Bool), v11 = .int .i64 m ∧ v12 = .int .i64 i ∧ Aside0 (i + kq = 65 ∧ 1 ≤ kq ∧ m = rank (fun j => s.testBit j) i) ∧ m ≤ i ∧ Aside0 (FirstsL s n i la) ∧ Aside0 (GRow Value.bool 4 w' w.heap.size la) ∧ Aside0 (Below w.heap.size w w'))
  case atStart => exact ⟨0, 0, List.replicate 64 false, rfl, rfl, ⟨by omega, by omega, rfl⟩, by omega, ⟨FirstsL.start s n⟩, ⟨HA.out⟩, ⟨HB.out⟩⟩
  case round =>
    clear HA HB
    obtain ⟨m, i, la, rfl, rfl, HI, hmi, HF, HA, HB⟩ := hrel
    obtain ⟨k1, rfl⟩ : ∃ k1, gk = k1 + 1 := ⟨gk - 1, by have := HI.out; omega⟩
    by_cases c1 : i < 64
    · have b1 : decide (i < 64) = true := decide_eq_true c1
      have hrk := rank_succ (fun j => s.testBit j) i
      have KH := Lib.hid (fun W => has03_any s (i : Int) W hs)
      rw [hasS_at s i c1] at KH
      obtain ⟨p, hp⟩ : ∃ p, s.testBit i = p := ⟨_, rfl⟩
      rw [hp] at KH
      simp only [hp] at hrk
      have HP := Lib.hid hp
      have HRK := Lib.hid hrk
      have qa := HA.out.cell i (by rw [HF.out.1]; exact c1)
      have fa := HA.out.soft i
      clear hp hrk
      cases p with
      | false =>
        go_wp2_with (go_at_call 21; refine (KH.out _).mono ?_; rintro e w2 ⟨rfl, rfl⟩)
        go_roundg k1
        case measure => have := HI.out; omega
        case rel => exact ⟨m, i + 1, la, rfl, by go_num, ⟨by have := HI.out; omega, by have := HI.out; omega, by rw [HRK.out, ← HI.out.2.2]; simp⟩, by omega, ⟨HF.out.keep (.inl HP.out)⟩, ⟨HA.out⟩, ⟨HB.out⟩⟩
      | true =>
        by_cases c2 : (m : Int) < n
        · have b2 : decide ((m : Int) < n) = true := decide_eq_true c2
          go_wp2_with (go_at_call 21; refine (KH.out _).mono ?_; rintro e w2 ⟨rfl, rfl⟩)
          go_roundg k1
          case measure => have := HI.out; omega
          case rel => exact ⟨m + 1, i + 1, la.set i true, by go_num, by go_num, ⟨by have := HI.out; omega, by have := HI.out; omega, by rw [HRK.out, ← HI.out.2.2]; simp⟩, by omega, ⟨HF.out.put c1 HP.out (by rw [← HI.out.2.2]; exact c2)⟩, ⟨HA.out.set i true⟩, ⟨HB.out.setCell (p := ⟨w.heap.size, i, none⟩) (Nat.le_refl _) (.bool true)⟩⟩
        · have b2 : decide ((m : Int) < n) = false := decide_eq_false c2
          go_wp2_with (go_at_call 21; refine (KH.out _).mono ?_; rintro e w2 ⟨rfl, rfl⟩)
          go_roundg k1
          case measure => have := HI.out; omega
          case rel => exact ⟨m + 1, i + 1, la, by go_num, by go_num, ⟨by have := HI.out; omega, by have := HI.out; omega, by rw [HRK.out, ← HI.out.2.2]; simp⟩, by omega, ⟨HF.out.keep (.inr (by rw [← HI.out.2.2]; omega))⟩, ⟨HA.out⟩, ⟨HB.out⟩⟩
    · have b1 : decide (i < 64) = false := decide_eq_false c1
      obtain rfl : i = 64 := by have := HI.out; omega
      obtain rfl : m = lenS s := HI.out.2.2
      have KW := Lib.hid (fun W (h : Below w.heap.size w W) => awake03_any W (HT.out.below h HT.out.lt))
      by_cases hn0 : n < 0
      · obtain ⟨rfl, rfl⟩ := run_none s n r b HRN.out (.inl hn0)
        have e1 : firstS s n = 0 := by unfold firstS; rw [if_pos (.inl hn0)]
        have e2 : firstB s n = false := by unfold firstB; simp; omega
        rw [e1, e2]
        have b2 : decide (n < 0) = true := decide_eq_true hn0
        have b3 : decide (0 ≤ n) = false := decide_eq_false (by omega)
        clear e1 e2
        go_wp2_with (go_at_call 22; refine (KW.out _ HB.out).mono ?_; rintro e w3 ⟨rfl, hb3⟩)
        go_ret
        exact ⟨rfl, below_step HB.out hb3⟩
      · have b2 : decide (n < 0) = false := decide_eq_false hn0
        have b3 : decide (0 ≤ n) = true := decide_eq_true (by omega)
        by_cases hn1 : (lenS s : Int) < n
        · obtain ⟨rfl, rfl⟩ := run_none s n r b HRN.out (.inr hn1)
          have e1 : firstS s n = 0 := by unfold firstS; rw [if_pos (.inr hn1)]
          have e2 : firstB s n = false := by unfold firstB; simp; omega
          rw [e1, e2]
          have b4 : decide ((lenS s : Int) < n) = true := decide_eq_true hn1
          clear e1 e2
          by_cases hn2 : n ≤ 64
          · have b5 : decide (n ≤ 64) = true := decide_eq_true hn2
            go_wp2_with (go_at_call 22; refine (KW.out _ HB.out).mono ?_; rintro e w3 ⟨rfl, hb3⟩)
            go_ret
            exact ⟨rfl, below_step HB.out hb3⟩
          · have b5 : decide (n ≤ 64) = false := decide_eq_false hn2
            go_wp2_with (go_at_call 22; refine (KW.out _ HB.out).mono ?_; rintro e w3 ⟨rfl, hb3⟩)
            go_ret
            exact ⟨rfl, below_step HB.out hb3⟩
        · have b4 : decide ((lenS s : Int) < n) = false := decide_eq_false hn1
          have e2 : firstB s n = true := by unfold firstB; simp; omega
          have hfi := HF.out.is (by omega) (by omega)
          have KA := Lib.hid (fun c => of03_any (some ⟨w.heap.size, 0, none⟩) c la wr HA.out.rds HF.out.1)
          rw [hfi] at KA
          rw [e2]
          have n0 : 0 ≤ n := by omega
          have n64 : n ≤ 64 := by omega
          clear e2 hfi hn0 hn1
          go_upto_block 2 with (go_at_call 23; (with_reducible refine (KA.out _).mono ?_); rintro e w3 ⟨rfl, rfl⟩)
          go_wp2
          clear KA HF HA
          go_loopg [13] 67 (fun kq v13 w' => ∃ (k : Nat), v13 = .int .i64 k ∧ Aside0 (k + kq = 67 ∧ (k : Int) ≤ 65 - n ∧ ∀ j : Nat, j < k → ¬ rowIn s j n.toNat) ∧ k ≤ 65 ∧ Aside0 (Below w.heap.size w w'))
          case atStart => exact ⟨0, rfl, ⟨by omega, by omega, fun j hj => by omega⟩, by omega, ⟨HB.out⟩⟩
          case round =>
            clear HB
            obtain ⟨k, rfl, HK, hk65, HB⟩ := hrel
            by_cases d1 : (k : Int) + n ≤ 64
            · have e1 : decide ((k : Int) + n ≤ 64) = true := decide_eq_true d1
              obtain ⟨k2, rfl⟩ : ∃ k2, gk = k2 + 1 := ⟨gk - 1, by have := HK.out; omega⟩
              have MK2 := MK.out
              go_upto_block 4 with fail
              have r2 := row_make wr
              have hb2 := below_alloc HB.out (.cells (Array.replicate 64 (.bool false)) 4)
              have hge := HB.out.size
              generalize wr.alloc (.cells (Array.replicate 64 (.bool false)) 4) = W1 at r2 hb2 ⊢
              generalize wr.heap.size = g at r2 hge ⊢
              have HR := Lib.hid r2
              have HB2 := Lib.hid hb2
              have HGE := Lib.hid hge
              clear r2 hb2 hge MK2
              go_wp2
              go_loopg [15, 16] 66 (fun kq v15 v16 w' => ∃ (q : Bool) (i : Nat) (lb : List Bool), v15 = .bool q ∧ v16 = .int .i64 i ∧ Aside0 (k ≤ i ∧ (i : Int) ≤ k + n ∧ i + kq = 66 + k ∧ (q = true ↔ ∀ j, j < i - k → s.testBit (k + j) = true)) ∧ i ≤ 64 ∧ Aside0 (RowL k i lb) ∧ Aside0 (GRow Value.bool 4 w' g lb) ∧ Aside0 (Below w.heap.size w w'))
              case atStart => exact ⟨true, k, List.replicate 64 false, rfl, rfl, ⟨by omega, by omega, by omega, ⟨fun _ j hj => by omega, fun _ => rfl⟩⟩, by omega, ⟨RowL.start k⟩, ⟨HR.out⟩, ⟨HB2.out⟩⟩
              case round =>
                clear HR HB2
                obtain ⟨q, i, lb, rfl, rfl, HQ, hi64, HL, HR, HB2⟩ := hrel
                by_cases f1 : (i : Int) < (k : Int) + n
                · have g1 : decide ((i : Int) < (k : Int) + n) = true := decide_eq_true f1
                  obtain ⟨k3, rfl⟩ : ∃ k3, gk = k3 + 1 := ⟨gk - 1, by have := HQ.out; omega⟩
                  have hi : i < 64 := by omega
                  have qa := HR.out.cell i (by rw [HL.out.1]; exact hi)
                  have fa := HR.out.soft i
                  have KH := Lib.hid (fun W => has03_any s (i : Int) W hs)
                  rw [hasS_at s i hi] at KH
                  have stp : (∀ j, j < i + 1 - k → s.testBit (k + j) = true) ↔ (∀ j, j < i - k → s.testBit (k + j) = true) ∧ s.testBit i = true := by
                    constructor
                    · intro h
                      refine ⟨fun j hj => h j (by omega), ?_⟩
                      have := h (i - k) (by have := HQ.out; omega)
                      rwa [show k + (i - k) = i by have := HQ.out; omega] at this
                    · rintro ⟨h1, h2⟩ j hj
                      by_cases hji : j < i - k
                      · exact h1 j hji
                      · rw [show k + j = i by have := HQ.out; omega]; exact h2
                  obtain ⟨p, hp⟩ : ∃ p, s.testBit i = p := ⟨_, rfl⟩
                  rw [hp] at KH stp
                  have STP := Lib.hid stp
                  clear stp hp
                  cases q with
                  | false =>
                    go_wp2
                    go_roundg k3
                    case measure => have := HQ.out; omega
                    case rel => exact ⟨false, i + 1, lb.set i true, rfl, by go_num, ⟨by have := HQ.out; omega, by omega, by have := HQ.out; omega, ⟨fun h => (by cases h), fun h => HQ.out.2.2.2.2 (STP.out.1 h).1⟩⟩, by omega, ⟨HL.out.put HQ.out.1 hi⟩, ⟨HR.out.set i true⟩, ⟨HB2.out.setCell (p := ⟨g, i, none⟩) HGE.out (.bool true)⟩⟩
                  | true =>
                    go_wp2_with (go_at_call 21; refine (KH.out _).mono ?_; rintro e w2 ⟨rfl, rfl⟩)
                    go_roundg k3
                    case measure => have := HQ.out; omega
                    case rel => exact ⟨p, i + 1, lb.set i true, rfl, by go_num, ⟨by have := HQ.out; omega, by omega, by have := HQ.out; omega, ⟨fun h => STP.out.2 ⟨HQ.out.2.2.2.1 (by first | rfl | trivial), h⟩, fun h => (STP.out.1 h).2⟩⟩, by omega, ⟨HL.out.put HQ.out.1 hi⟩, ⟨HR.out.set i true⟩, ⟨HB2.out.setCell (p := ⟨g, i, none⟩) HGE.out (.bool true)⟩⟩
                · have g1 : decide ((i : Int) < (k : Int) + n) = false := decide_eq_false f1
                  have hik : i = k + n.toNat := by have := HQ.out; omega
                  have HIK := Lib.hid hik
                  clear hik
                  have hrow : q = true ↔ rowIn s k n.toNat := by
                    rw [HQ.out.2.2.2, HIK.out, show k + n.toNat - k = n.toNat by omega]
                    exact Iff.rfl
                  have HROW := Lib.hid hrow
                  clear hrow
                  cases q with
                  | true =>
                    have hri := HROW.out.1 (by first | rfl | trivial)
                    obtain ⟨rfl, hrr⟩ := run_at s n r b HRN.out k n0 d1 hri HK.out.2.2
                    have KA := Lib.hid (fun c => of03_any (some ⟨g, 0, none⟩) c lb wr HR.out.rds HL.out.1)
                    have hbo := (show RowL k (k + n.toNat) lb by rw [← HIK.out]; exact HL.out).is n0 d1
                    rw [hbo, ← hrr] at KA
                    clear hri hrr hbo
                    go_wp2_with (first
                      | (go_at_call 23; (with_reducible refine (KA.out _).mono ?_); rintro e w3 ⟨rfl, rfl⟩)
                      | (go_at_call 22; refine (KW.out _ HB2.out).mono ?_; rintro e w3 ⟨rfl, hb3⟩))
                    go_ret
                    exact ⟨rfl, below_step HB2.out hb3⟩
                  | false =>
                    have hri : ¬ rowIn s k n.toNat := fun h => by
                      have := HROW.out.2 h
                      first | cases this | simp at this
                    have HRI := Lib.hid hri
                    clear hri
                    go_wp2
                    go_roundg k2
                    case measure => have := HK.out; omega
                    case rel =>
                      refine ⟨k + 1, by go_num, ⟨by have := HK.out; omega, by omega, fun j hj => ?_⟩, by omega, ⟨HB2.out⟩⟩
                      by_cases hjk : j < k
                      · exact HK.out.2.2 j hjk
                      · obtain rfl : j = k := by omega
                        exact HRI.out
            · have e1 : decide ((k : Int) + n ≤ 64) = false := decide_eq_false d1
              obtain ⟨rfl, rfl⟩ := run_not s n r b HRN.out (fun j hj => HK.out.2.2 j (by omega))
              go_wp2_with (go_at_call 22; refine (KW.out _ HB.out).mono ?_; rintro e w3 ⟨rfl, hb3⟩)
              go_ret
              exact ⟨rfl, below_step HB.out hb3⟩
end Go.Proofs.YtmjkgnlmdcmdbaaDoor.Sets
