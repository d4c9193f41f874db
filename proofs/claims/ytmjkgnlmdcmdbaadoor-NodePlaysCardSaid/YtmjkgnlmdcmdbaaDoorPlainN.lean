/- Law 6's plain table, by hand walks: it answers as the table does. -/
import Derived.Test.YtmjkgnlmdcmdbaaDoorNodeBack
namespace Go.Proofs.YtmjkgnlmdcmdbaaDoor.Node
open Go.RowKit Go.Proofs.YtmjkgnlmdcmdbaaDoorW.PrintWords Go.Proofs.YtmjkgnlmdcmdbaaDoorW.PrintLast Go.Proofs.YtmjkgnlmdcmdbaaDoorW.PrintMore Go.Proofs.YtmjkgnlmdcmdbaaDoor.Row Go.Proofs.YtmjkgnlmdcmdbaaDoor.Sets
set_option linter.unusedVariables false
set_option linter.unusedSimpArgs false
set_option maxRecDepth 100000
/-- a node's state out of two truths -/
def st2 (x y : Bool) : Int := if x = true then (if y = true then 3 else 2) else (if y = true then 4 else 1)
/-- a list of states is the table's -/
structure PI (N u d : Nat) (l : List Int) : Prop where
  len : l.length = N
  st : ∀ j, j < N → l.getD j 0 = st2 (u.testBit j) (d.testBit j)
  out : ∀ j, N ≤ j → j < 64 → u.testBit j = false ∧ d.testBit j = false
theorem minus_iff (x y : Nat) (hx : x < 18446744073709551616) (hy : y < 18446744073709551616) : minus x y = 0 ↔ ∀ i, i < 64 → x.testBit i = true → y.testBit i = true := by
  constructor
  · intro h i hi hb
    have := minus_bit x y i hy hi
    rw [h, Nat.zero_testBit, hb] at this
    cases hyb : y.testBit i
    · rw [hyb] at this; cases this
    · rfl
  · exact minus_zero x y hy hx
theorem idle_st (N u d : Nat) (l : List Int) (h : PI N u d l) (hN : N ≤ 64) (hu : u < 18446744073709551616) (hd : d < 18446744073709551616) (j : Nat) (hj : j < 64) : (idleS (allS N) u d).testBit j = (decide (j < N) && decide (l.getD j 0 = 1)) := by
  rw [idleS_bit _ _ _ _ hu hd hj, allS_bit _ _ hj]
  have e : decide ((j : Int) < (N : Int)) = decide (j < N) := by simp
  rw [e]
  by_cases hjn : j < N
  · rw [h.st j hjn]
    cases u.testBit j <;> cases d.testBit j <;> simp [hjn, st2]
  · simp [hjn]
/-- all of a set are in states x, y -/
def InIs (l : List Int) (s : Nat) (x y : Int) : Prop := ∀ n, n < 64 → s.testBit n = true → n < l.length ∧ (l.getD n 0 = x ∨ l.getD n 0 = y)
theorem in_idle (N u d s : Nat) (l : List Int) (h : PI N u d l) (hN : N ≤ 64) (hu : u < 18446744073709551616) (hd : d < 18446744073709551616) (hs : s < 18446744073709551616) : InIs l s 1 1 ↔ minus s (idleS (allS N) u d) = 0 := by
  rw [minus_iff s _ hs (idleS_lt _ _ _ (allS_lt _))]
  constructor
  · intro hi j hj hb
    rw [idle_st N u d l h hN hu hd j hj]
    obtain ⟨h1, h2⟩ := hi j hj hb
    rw [h.len] at h1
    have : l.getD j 0 = 1 := by rcases h2 with h2 | h2 <;> exact h2
    rw [decide_eq_true h1, decide_eq_true this]
    rfl
  · intro hi j hj hb
    have := hi j hj hb
    rw [idle_st N u d l h hN hu hd j hj, Bool.and_eq_true, decide_eq_true_eq, decide_eq_true_eq] at this
    exact ⟨by rw [h.len]; exact this.1, .inl this.2⟩
theorem in_used (N u d s : Nat) (l : List Int) (h : PI N u d l) (hN : N ≤ 64) (hu : u < 18446744073709551616) (hs : s < 18446744073709551616) : InIs l s 2 3 ↔ minus s u = 0 := by
  rw [minus_iff s u hs hu]
  constructor
  · intro hi j hj hb
    obtain ⟨h1, h2⟩ := hi j hj hb
    rw [h.len] at h1
    rw [h.st j h1] at h2
    cases hub : u.testBit j
    · rw [hub] at h2
      unfold st2 at h2
      cases hdb : d.testBit j <;> rw [hdb] at h2 <;> simp at h2
    · rfl
  · intro hi j hj hb
    have hub := hi j hj hb
    have hjn : j < N := by
      rcases Nat.lt_or_ge j N with h1 | h1
      · exact h1
      · rw [(h.out j h1 hj).1] at hub; cases hub
    refine ⟨by rw [h.len]; exact hjn, ?_⟩
    rw [h.st j hjn, hub]
    unfold st2
    cases d.testBit j <;> simp
theorem rank_congr (p q : Nat → Bool) (n : Nat) (h : ∀ j, j < n → p j = q j) : rank p n = rank q n := by
  unfold rank
  congr 1
  exact List.filter_congr fun j hj => h j (List.mem_range.1 hj)
theorem rank_out (p : Nat → Bool) (n m : Nat) (hm : n ≤ m) (h : ∀ j, n ≤ j → j < m → p j = false) : rank p m = rank p n := by
  induction m with
  | zero => obtain rfl : n = 0 := by omega
            rfl
  | succ m ih =>
    by_cases e : n = m + 1
    · subst e; rfl
    · rw [rank_succ, h m (by omega) (by omega), ih (by omega) (fun j h1 h2 => h j h1 (by omega))]
      simp
/-- the plain table at block bp: its row of states lies at block g -/
structure PL (w : World) (bp g cap : Nat) (l : List Int) : Prop where
  c : w.cell? ⟨bp, 0, none⟩ = some (.slice (some ⟨g, 0, none⟩) l.length cap)
  f : w.frozen? ⟨bp, 0, none⟩ = false
  r : GRow (Value.int .i64) 3 w g l
  ne : bp ≠ g
theorem PL.lt {w : World} {bp g cap : Nat} {l : List Int} (h : PL w bp g cap l) : bp < w.heap.size := World.block_lt_of_cell? w _ h.c
theorem PL.heaps {w w' : World} {bp g cap : Nat} {l : List Int} (h : PL w bp g cap l) (h1 : w'.heap[bp]? = w.heap[bp]?) (h2 : w'.heap[g]? = w.heap[g]?) : PL w' bp g cap l :=
  ⟨(World.cell?_of_block (a := ⟨bp, 0, none⟩) h1).trans h.c, (World.frozen?_of_block (a := ⟨bp, 0, none⟩) h1).trans h.f, h.r.of_heap h2, h.ne⟩
theorem PL.upd {w w' : World} {b bp g cap : Nat} {l : List Int} (h : PL w bp g cap l) (hu : Upd b w w') (h1 : bp ≠ b) (h2 : g ≠ b) : PL w' bp g cap l := h.heaps (hu.1.2 bp h.lt h1) (hu.1.2 g h.r.lt h2)
theorem PL.below {w w' : World} {bp g cap : Nat} {l : List Int} (h : PL w bp g cap l) (hb : Below w.heap.size w w') : PL w' bp g cap l := h.heaps (hb.block bp h.lt) (hb.block g h.r.lt)
theorem PL.drew {w : World} {bp g cap : Nat} {l : List Int} (h : PL w bp g cap l) : PL w.drew bp g cap l := h.heaps rfl rfl
theorem PL.put {w : World} {bp g cap : Nat} {l : List Int} (h : PL w bp g cap l) (j : Nat) (v : Int) : PL (w.setCell ⟨g, j, none⟩ (.int .i64 v)) bp g cap (l.set j v) := by
  have e := Below.heap_setCell w ⟨g, j, none⟩ (.int .i64 v) bp h.ne
  refine ⟨(World.cell?_of_block (a := ⟨bp, 0, none⟩) e).trans ?_, (World.frozen?_of_block (a := ⟨bp, 0, none⟩) e).trans h.f, h.r.set j v, h.ne⟩
  rw [List.length_set]
  exact h.c
theorem PL.at_ {w : World} {bp g cap : Nat} {l : List Int} (h : PL w bp g cap l) (j : Nat) (hj : j < l.length) : w.cell? ⟨g, j, none⟩ = some (.int .i64 (l.getD j 0)) := by
  have := h.r.cell j hj
  rw [this]
  simp [hj]
theorem has06_any (s : Nat) (n : Int) (w : World) (hs : s < 18446744073709551616) :
    Calls Tryd.prog 113 #[.int .u64 s, .int .i64 n] w fun e w' => e = .returned (.bool (hasS s n)) ∧ w = w' := by
  go_enter Tryd.func113, Tryd.ntmps113
  go_wp2_with (go_at_call 29; refine (has_any s n _ hs).mono ?_; rintro e w2 ⟨rfl, rfl⟩)
  go_ret
  exact ⟨rfl, rfl⟩
def InPost (l : List Int) (s : Nat) (x y : Int) (w : World) (e : Ending) (w' : World) : Prop := ∃ q : Bool, e = .returned (.bool q) ∧ (q = true ↔ InIs l s x y) ∧ w = w'
theorem in_any (bp g cap : Nat) (l : List Int) (s : Nat) (x y : Int) (w : World) (h : PL w bp g cap l) (hs : s < 18446744073709551616) (hl : l.length ≤ 64) :
    Calls Tryd.prog 112 #[.pointer (some ⟨bp, 0, none⟩), .int .u64 s, .int .i64 x, .int .i64 y] w (InPost l s x y w) := by
  have H := Lib.hid h
  have c := h.c
  clear h
  go_enter Tryd.func112, Tryd.ntmps112
  go_wp2
  go_loop [9] (fun v9 => ∃ i : Nat, v9 = .int .i64 i ∧ i ≤ 64 ∧ Aside0 (∀ n, n < i → s.testBit n = true → n < l.length ∧ (l.getD n 0 = x ∨ l.getD n 0 = y))) (fun v9 => 64 - (intOf v9).toNat)
  case atStart => exact ⟨0, rfl, by omega, ⟨fun n hn => by omega⟩⟩
  case round =>
    obtain ⟨i, rfl, hi, HI⟩ := hrel
    by_cases c1 : i < 64
    · have b1 : decide (i < 64) = true := decide_eq_true c1
      have K := Lib.hid (fun W => has06_any s (i : Int) W hs)
      rw [hasS_at s i c1] at K
      have stp : (s.testBit i = true → i < l.length ∧ (l.getD i 0 = x ∨ l.getD i 0 = y)) → ∀ n, n < i + 1 → s.testBit n = true → n < l.length ∧ (l.getD n 0 = x ∨ l.getD n 0 = y) := fun h n hn hb => by
        by_cases hni : n < i
        · exact HI.out n hni hb
        · obtain rfl : n = i := by omega
          exact h hb
      have ST := Lib.hid stp
      obtain ⟨b, hb⟩ : ∃ b, s.testBit i = b := ⟨_, rfl⟩
      rw [hb] at K ST
      have HBI := Lib.hid hb
      clear hb stp
      cases b with
      | false =>
        go_wp2_with (go_at_call 113; refine (K.out _).mono ?_; rintro e w2 ⟨rfl, rfl⟩)
        go_round
        case rel => exact ⟨i + 1, by go_num, by omega, ⟨ST.out (fun h => by cases h)⟩⟩
        case measure => simp [intOf]; omega
      | true =>
        by_cases c2 : l.length ≤ i
        · have b2 : decide (l.length ≤ i) = true := decide_eq_true c2
          go_wp2_with (go_at_call 113; refine (K.out _).mono ?_; rintro e w2 ⟨rfl, rfl⟩)
          go_ret
          refine ⟨false, rfl, ⟨fun h => (by cases h), fun h => ?_⟩, rfl⟩
          have := (h i c1 HBI.out).1
          omega
        · have b2 : decide (l.length ≤ i) = false := decide_eq_false c2
          have c3 : i < l.length := by omega
          have q1 := H.out.at_ i c3
          obtain ⟨v, hv⟩ : ∃ v, l.getD i 0 = v := ⟨_, rfl⟩
          rw [hv] at q1 ST
          have HV := Lib.hid hv
          clear hv c2
          by_cases e1 : v = x
          · have b3 : (v != x) = false := by simp [e1]
            have E1 := Lib.hid e1
            clear e1
            go_wp2_with (go_at_call 113; refine (K.out _).mono ?_; rintro e w2 ⟨rfl, rfl⟩)
            go_round
            case rel => exact ⟨i + 1, by go_num, by omega, ⟨ST.out (fun _ => ⟨c3, .inl E1.out⟩)⟩⟩
            case measure => simp [intOf]; omega
          · have b3 : (v != x) = true := by simpa using e1
            have E1 := Lib.hid e1
            clear e1
            by_cases e2 : v = y
            · have b4 : (v != y) = false := by simp [e2]
              have E2 := Lib.hid e2
              clear e2
              go_wp2_with (go_at_call 113; refine (K.out _).mono ?_; rintro e w2 ⟨rfl, rfl⟩)
              go_round
              case rel => exact ⟨i + 1, by go_num, by omega, ⟨ST.out (fun _ => ⟨c3, .inr E2.out⟩)⟩⟩
              case measure => simp [intOf]; omega
            · have b4 : (v != y) = true := by simpa using e2
              have E2 := Lib.hid e2
              clear e2
              go_wp2_with (go_at_call 113; refine (K.out _).mono ?_; rintro e w2 ⟨rfl, rfl⟩)
              go_ret
              refine ⟨false, rfl, ⟨fun h => (by cases h), fun h => ?_⟩, rfl⟩
              rcases (h i c1 HBI.out).2 with h | h
              · exact absurd (HV.out.symm.trans h) E1.out
              · exact absurd (HV.out.symm.trans h) E2.out
    · have b1 : decide (i < 64) = false := decide_eq_false c1
      obtain rfl : i = 64 := by omega
      go_wp2
      go_ret
      exact ⟨true, rfl, ⟨fun _ => HI.out, fun _ => rfl⟩, rfl⟩
/-- the plain table after a call: it returned this, and is as the table -/
def After (N u' d' : Nat) (bp g cap : Nat) (v : Value) (w : World) (e : Ending) (w' : World) : Prop := e = .returned v ∧ ∃ l', PL w' bp g cap l' ∧ PI N u' d' l' ∧ Upd g w w'
theorem Upd.set {b : Nat} {w : World} (o : Nat) (v : Value) : Upd b w (w.setCell ⟨b, o, none⟩ v) := (Upd.refl b w).setCell o v
theorem claim_step {l l' : List Int} {s i : Nat} {f : Nat → Int} (h : l'.length = l.length ∧ ∀ j, j < l.length → l'.getD j 0 = if j < i ∧ s.testBit j = true then f j else l.getD j 0) (hi : i < l.length) :
    (s.testBit i = true → (l'.set i (f i)).length = l.length ∧ ∀ j, j < l.length → (l'.set i (f i)).getD j 0 = if j < i + 1 ∧ s.testBit j = true then f j else l.getD j 0) ∧
    (s.testBit i = false → l'.length = l.length ∧ ∀ j, j < l.length → l'.getD j 0 = if j < i + 1 ∧ s.testBit j = true then f j else l.getD j 0) := by
  refine ⟨fun hb => ⟨by rw [List.length_set]; exact h.1, fun j hj => ?_⟩, fun hb => ⟨h.1, fun j hj => ?_⟩⟩
  · rw [List.getD_eq_getElem?_getD, List.getElem?_set]
    by_cases hij : i = j
    · subst hij
      rw [if_pos rfl, if_pos (by rw [h.1]; exact hi), if_pos ⟨by omega, hb⟩]
      rfl
    · rw [if_neg hij, ← List.getD_eq_getElem?_getD, h.2 j hj]
      by_cases h1 : j < i ∧ s.testBit j = true
      · rw [if_pos h1, if_pos ⟨by omega, h1.2⟩]
      · rw [if_neg h1, if_neg (fun h2 => h1 ⟨by omega, h2.2⟩)]
  · rw [h.2 j hj]
    by_cases h1 : j < i ∧ s.testBit j = true
    · rw [if_pos h1, if_pos ⟨by omega, h1.2⟩]
    · rw [if_neg h1, if_neg (fun h2 => h1 ⟨by
        have : j ≠ i := fun e => by subst e; rw [hb] at h2; cases h2.2
        omega, h2.2⟩)]
theorem claim06_any (N bp g cap : Nat) (l : List Int) (u d s : Nat) (w : World) (h : PL w bp g cap l) (hp : PI N u d l) (hN : N ≤ 64) (hu : u < 18446744073709551616) (hd : d < 18446744073709551616) (hs : s < 18446744073709551616) :
    Calls Tryd.prog 91 #[.pointer (some ⟨bp, 0, none⟩), .int .u64 s] w (After N (claimU (allS N) u d s) d bp g cap (.int .i64 (claimE (allS N) u d s)) w) := by
  have H := Lib.hid h
  have HP := Lib.hid hp
  have hlen := hp.len
  have hl64 : l.length ≤ 64 := by omega
  by_cases h0 : s = 0
  · obtain ⟨b1, b2⟩ := eq_b s h0
    have e1 : claimE (allS N) u d s = 1 := by unfold claimE; rw [if_pos h0]
    have e2 : claimU (allS N) u d s = u := by unfold claimU; rw [e1]; rfl
    rw [e1, e2]
    clear e1 e2 h0 h hp hlen
    go_enter Tryd.func91, Tryd.ntmps91
    go_wp2
    go_ret
    exact ⟨rfl, l, H.out, HP.out, Upd.refl _ _⟩
  · obtain ⟨b1, b2⟩ := neq_b s h0
    have K := Lib.hid (in_any bp g cap l s 1 1 w h hs hl64)
    have hin := in_idle N u d s l hp hN hu hd hs
    by_cases hq : minus s (idleS (allS N) u d) = 0
    · have e1 : claimE (allS N) u d s = 0 := by unfold claimE; rw [if_neg h0, if_pos hq]
      have e2 : claimU (allS N) u d s = u ||| s := by unfold claimU; rw [e1]; rfl
      rw [e1, e2]
      have hI := hin.2 hq
      have HIN := Lib.hid hI
      clear e1 e2 h0 hq hI hin
      go_enter Tryd.func91, Tryd.ntmps91
      go_wp2_with (go_at_call 112; refine K.out.mono ?_; rintro e w2 ⟨q, rfl, hq, rfl⟩; obtain rfl : q = true := hq.2 HIN.out; clear hq)
      have hu0 := Upd.refl g w
      have HU0 := Lib.hid hu0
      clear hu0 h hp hlen
      go_loopg [5] (N + 1) (fun kq v5 w' => ∃ (i : Nat) (l' : List Int), v5 = .int .i64 i ∧ Aside0 (i + kq = N + 1 ∧ 1 ≤ kq) ∧ Aside0 (PL w' bp g cap l') ∧ Aside0 (l'.length = l.length ∧ ∀ j, j < l.length → l'.getD j 0 = if j < i ∧ s.testBit j = true then 2 else l.getD j 0) ∧ Aside0 (Upd g w w'))
      case atStart => exact ⟨0, l, rfl, ⟨by omega, by omega⟩, ⟨H.out⟩, ⟨rfl, fun j hj => by rw [if_neg (by omega)]⟩, ⟨HU0.out⟩⟩
      case round =>
        clear HU0
        obtain ⟨i, l', rfl, HI, HL, HG, HU⟩ := hrel
        obtain ⟨k1, rfl⟩ : ∃ k1, gk = k1 + 1 := ⟨gk - 1, by have := HI.out; omega⟩
        have c := HL.out.c
        rw [HG.out.1, HP.out.len] at c
        by_cases c1 : i < N
        · have b3 : decide (i < N) = true := decide_eq_true c1
          have hi : i < l.length := by rw [HP.out.len]; exact c1
          have hi64 : i < 64 := by omega
          have KH := Lib.hid (fun W => has06_any s (i : Int) W hs)
          rw [hasS_at s i hi64] at KH
          have ST := Lib.hid (claim_step (f := fun _ => 2) HG.out hi)
          have qa := HL.out.at_ i (by rw [HG.out.1]; exact hi)
          have fa := HL.out.r.soft i
          obtain ⟨b, hb⟩ : ∃ b, s.testBit i = b := ⟨_, rfl⟩
          rw [hb] at KH ST
          clear hb hi
          cases b with
          | true =>
            go_wp2_with (go_at_call 113; refine (KH.out _).mono ?_; rintro e w2 ⟨rfl, rfl⟩)
            go_roundg k1
            case measure => have := HI.out; omega
            case rel => exact ⟨i + 1, l'.set i 2, by go_num, ⟨by have := HI.out; omega, by have := HI.out; omega⟩, ⟨HL.out.put i 2⟩, ⟨ST.out.1 (by first | rfl | trivial)⟩, ⟨HU.out.setCell i _⟩⟩
          | false =>
            go_wp2_with (go_at_call 113; refine (KH.out _).mono ?_; rintro e w2 ⟨rfl, rfl⟩)
            go_roundg k1
            case measure => have := HI.out; omega
            case rel => exact ⟨i + 1, l', by go_num, ⟨by have := HI.out; omega, by have := HI.out; omega⟩, ⟨HL.out⟩, ⟨ST.out.2 (by first | rfl | trivial)⟩, ⟨HU.out⟩⟩
        · have b3 : decide (i < N) = false := decide_eq_false c1
          obtain rfl : i = N := by have := HI.out; omega
          go_wp2
          go_ret
          refine ⟨rfl, l', HL.out, ⟨HG.out.1.trans HP.out.len, fun j hj => ?_, fun j h1 h2 => ?_⟩, HU.out⟩
          · rw [HG.out.2 j (by rw [HP.out.len]; exact hj), Nat.testBit_or]
            cases hb : s.testBit j
            · rw [if_neg (fun h => by cases h.2), HP.out.st j hj]; simp
            · rw [if_pos ⟨hj, rfl⟩]
              have h3 := (HIN.out j (by omega) hb).2
              rw [HP.out.st j hj] at h3
              cases hub : u.testBit j <;> cases hdb : d.testBit j <;> rw [hub, hdb] at h3 <;> simp [st2] at h3 ⊢
          · rw [Nat.testBit_or]
            have h3 := HP.out.out j h1 h2
            cases hb : s.testBit j
            · rw [h3.1, h3.2]; exact ⟨rfl, rfl⟩
            · have h4 := (HIN.out j h2 hb).1
              rw [HP.out.len] at h4
              omega
    · have e1 : claimE (allS N) u d s = 11 := by unfold claimE; rw [if_neg h0, if_neg hq]
      have e2 : claimU (allS N) u d s = u := by unfold claimU; rw [e1]; rfl
      rw [e1, e2]
      have hI : ¬ InIs l s 1 1 := fun h => hq (hin.1 h)
      have HIN := Lib.hid hI
      clear e1 e2 h0 hq hI hin h hp hlen
      go_enter Tryd.func91, Tryd.ntmps91
      go_wp2_with (go_at_call 112; refine K.out.mono ?_; rintro e w2 ⟨q, rfl, hq, rfl⟩; obtain rfl : q = false := (by cases q with | true => exact absurd (hq.1 rfl) HIN.out | false => rfl); clear hq)
      go_ret
      exact ⟨rfl, l, H.out, HP.out, Upd.refl _ _⟩
end Go.Proofs.YtmjkgnlmdcmdbaaDoor.Node
