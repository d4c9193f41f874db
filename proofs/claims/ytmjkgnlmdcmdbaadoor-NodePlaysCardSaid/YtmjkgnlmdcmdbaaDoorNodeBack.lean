/- NodeBack: the law's walk. -/
import Derived.Test.YtmjkgnlmdcmdbaaDoorNode3
import Derived.Test.YtmjkgnlmdcmdbaaDoorFlat
namespace Go.Proofs.YtmjkgnlmdcmdbaaDoor.Node
open Go.RowKit Go.Proofs.YtmjkgnlmdcmdbaaDoorW.PrintWords Go.Proofs.YtmjkgnlmdcmdbaaDoorW.PrintLast Go.Proofs.YtmjkgnlmdcmdbaaDoorW.PrintMore Go.Proofs.YtmjkgnlmdcmdbaaDoor.Row Go.Proofs.YtmjkgnlmdcmdbaaDoor.Sets Go.Proofs.YtmjkgnlmdcmdbaaDoor.Flat
set_option linter.unusedVariables false
set_option linter.unusedSimpArgs false
set_option maxRecDepth 100000
theorem nodes_mk_take (s m : Nat) : nodes (mk ((nodes s).take m)) = (nodes s).take m := by
  have h : (nodes s).take m = (List.range 64).filter (fun i => s.testBit i && decide (rank (fun i => s.testBit i) i < m)) := by unfold nodes; rw [take_rank]
  refine Eq.trans ?_ h.symm
  show (List.range 64).filter (fun i => (mk ((nodes s).take m)).testBit i) = _
  apply List.filter_congr
  intro i hi
  have hi := List.mem_range.1 hi
  have hm := mem_take s m i
  rw [mk_bit, Bool.eq_iff_iff, decide_eq_true_eq, hm, Bool.and_eq_true, decide_eq_true_eq]
  exact ⟨fun h => h.2, fun h => ⟨hi, h⟩⟩
theorem lenS_first (s : Nat) (m : Int) (h0 : 0 ≤ m) (h1 : m ≤ (lenS s : Int)) : (lenS (firstS s m) : Int) = m := by
  have e : firstS s m = mk ((nodes s).take m.toNat) := by unfold firstS; rw [if_neg (by omega)]
  unfold lenS
  rw [e, nodes_mk_take, List.length_take]
  have : m.toNat ≤ (nodes s).length := by unfold lenS at h1; omega
  omega
theorem firstS_sub (s : Nat) (m : Int) (i : Nat) (h : (firstS s m).testBit i = true) : s.testBit i = true := by
  unfold firstS at h
  split at h
  · simp at h
  · rw [mk_bit, decide_eq_true_eq] at h
    exact ((mem_nodes s i).1 (List.mem_of_mem_take h)).2
theorem minus_zero (x y : Nat) (hy : y < 18446744073709551616) (hx : x < 18446744073709551616) (h : ∀ i, i < 64 → x.testBit i = true → y.testBit i = true) : minus x y = 0 :=
  eq_of_bits _ _ (minus_lt x y hx) (by omega) fun i hi => by
    rw [minus_bit x y i hy hi, Nat.zero_testBit]
    cases hb : x.testBit i
    · rfl
    · rw [h i hi hb]; rfl
theorem minus_same (x y : Nat) (hy : y < 18446744073709551616) (hx : x < 18446744073709551616) (h : ∀ i, i < 64 → x.testBit i = true → y.testBit i = false) : minus x y = x :=
  eq_of_bits _ _ (minus_lt x y hx) hx fun i hi => by
    rw [minus_bit x y i hy hi]
    cases hb : x.testBit i
    · rfl
    · rw [h i hi hb]; rfl
theorem take_fail (a u d : Nat) (n : Int) (h : takeE a u d n ≠ 0) : takeT a u d n = 0 := by
  unfold takeE at h
  unfold takeT
  by_cases h1 : n < 1
  · rw [if_pos h1]
  · rw [if_neg h1]
    rw [if_neg h1] at h
    unfold firstS
    by_cases h2 : (lenS (idleS a u d) : Int) < n
    · rw [if_pos (.inr h2)]
    · rw [if_neg h2] at h
      exact absurd rfl h
theorem take_ok (a u d : Nat) (n : Int) (h : takeE a u d n = 0) : 1 ≤ n ∧ n ≤ (lenS (idleS a u d) : Int) ∧ takeT a u d n = firstS (idleS a u d) n := by
  unfold takeE at h
  unfold takeT
  by_cases h1 : n < 1
  · rw [if_pos h1] at h
    omega
  · rw [if_neg h1]
    rw [if_neg h1] at h
    by_cases h2 : (lenS (idleS a u d) : Int) < n
    · rw [if_pos h2] at h
      omega
    · exact ⟨by omega, by omega, rfl⟩
theorem turnD_lt (a d : Nat) (n : Int) (b : Bool) (h : d < 18446744073709551616) : turnD a d n b < 18446744073709551616 := by
  unfold turnD
  split
  · split
    · exact withS_lt d n h
    · exact withoutS_lt d n h
  · exact h
theorem NT.upd {w w' : World} {b g a u d : Nat} (h : NT w b a u d) (hu : Upd g w w') (hne : b ≠ g) : NT w' b a u d := h.of_heap (hu.1.2 b h.lt hne)
theorem flatOp {w : World} {A : Option Addr} {n : Nat} {z : List (List Value)} (h : FlatRow w A n [.int .i64, .int .i64, .int .u64] z) (i : Nat) (hi : i < n) :
    ∃ ad a b c, A = some ad ∧ w.cell? (ad.add (i * 3 + 0)) = some (.int .i64 a) ∧ w.cell? (ad.add (i * 3 + 1)) = some (.int .i64 b) ∧ w.cell? (ad.add (i * 3 + 2)) = some (.int .u64 c) ∧ (Lit.int .u64 c).wf = true := by
  obtain ⟨h1, h2, h3⟩ := h
  obtain ⟨ad, rfl, h4⟩ := h3 (by omega)
  have hz : z[i]? = some z[i] := List.getElem?_eq_getElem (by omega)
  obtain ⟨c0, d0, e0, l0, m0⟩ := (h2 i _ hz).cons
  obtain ⟨c1, d1, e1, l1, m1⟩ := m0.cons
  obtain ⟨c2, d2, e2, l2, m2⟩ := m1.cons
  obtain rfl := m2.nil
  obtain ⟨a, rfl, -⟩ := l0
  obtain ⟨b, rfl, -⟩ := l1
  obtain ⟨c, rfl, hw⟩ := l2
  subst e2 e1
  rw [e0] at hz
  exact ⟨ad, a, b, c, rfl, h4 i _ hz 0 _ rfl, h4 i _ hz 1 _ rfl, h4 i _ hz 2 _ rfl, hw⟩
theorem cell_far {w w' : World} {ad : Addr} {n : Nat} {v : Value} (hv : w.cell? (ad.add n) = some v) (h : Below w.heap.size w w') : w'.cell? (ad.add n) = some v :=
  (h.cell (World.block_lt_of_cell? w _ hv)).trans hv
theorem add_one (ad : Addr) (n : Nat) : ad.add (n + 1) = ⟨(ad.add n).block, (ad.add n).off + 1, none⟩ := by
  unfold Addr.add
  by_cases h : n = 0
  · subst h; simp
  · simp [h]; omega
theorem add_two (ad : Addr) (n : Nat) : ad.add (n + 2) = ⟨(ad.add n).block, (ad.add n).off + 2, none⟩ := by
  unfold Addr.add
  by_cases h : n = 0
  · subst h; simp
  · simp [h]; omega
theorem Idle_b (b a u d : Nat) (w : World) (h : NT w b a u d) (hs : Small3 a u d) :
    Calls Tryd.prog 40 #[.pointer (some ⟨b, 0, none⟩)] w fun e w' => e = .returned (.int .u64 (idleS a u d : Nat)) ∧ Below w.heap.size w w' :=
  (Idle_any b a u d w h hs).mono fun e w' ⟨he, hw⟩ => ⟨he, by rw [← hw]; exact below_drew (Below.refl _ _)⟩
theorem allS_pos (n : Int) (h0 : 1 ≤ n) (h1 : n ≤ 64) : allS n ≠ 0 := by
  rw [allS_mid n (by omega) h1]
  have : 2 ^ 1 ≤ 2 ^ n.toNat := Nat.pow_le_pow_right (by omega) (by omega)
  omega
def Sc (z : World → Nat → Option Addr → Prop) : Prop := True
set_option maxHeartbeats 4000000 in
theorem NodeBack_any (n : Int) (A : Option Addr) (len cap : Nat) (z : List (List Value)) (m : Int) (w : World) (hn : (Lit.int .i64 n).wf = true) (hc : len ≤ cap) (hm : cap ≤ maxLen) (hr : FlatRow w A len [.int .i64, .int .i64, .int .u64] z) (hmm : (Lit.int .i64 m).wf = true) (hT : Tab w) :
    Calls Tryd.prog 7 #[.int .i64 n, .slice A len cap, .int .i64 m] w fun e w' => e = .returned (.bool true) ∧ Below w.heap.size w w' := by
  have HS := Lib.hid (flatOp hr)
  have hlen : len ≤ 9223372036854775807 := by unfold maxLen at hm; omega
  have HT := Lib.hid hT
  have HW := Lib.hid (fun W (h : Below w.heap.size w W) => awake06_any W (HT.out.below h HT.out.lt))
  clear hr hn hmm hT hc hm
  by_cases hno : n < 1 ∨ 64 < n
  · have K1 := Lib.hid (new_out n w hno)
    clear hno
    go_enter Tryd.func7, Tryd.ntmps7
    go_wp2_with (first
      | (go_at_call 35; refine K1.out.mono ?_; rintro e w1 ⟨rfl, rfl⟩)
      | (go_at_call 36; refine (HW.out _ (Below.refl _ _)).mono ?_; rintro e w3 ⟨rfl, hb3⟩))
    go_ret
    exact ⟨rfl, hb3⟩
  · have n1 : 1 ≤ n := by omega
    have n2 : n ≤ 64 := by omega
    have K1 := Lib.hid (new_any n w n1 n2)
    have ha0 := allS_pos n n1 n2
    have ha1 := allS_lt n
    clear hno
    generalize allS n = a at K1 ha0 ha1
    have SM : Hid (∀ u d, u < 18446744073709551616 → d < 18446744073709551616 → Small3 a u d) := Lib.hid (fun u d h1 h2 => ⟨ha0, ha1, h1, h2⟩)
    clear ha0
    go_enter Tryd.func7, Tryd.ntmps7
    go_upto_block 0 with (go_at_call 35; refine K1.out.mono ?_; rintro e w1 ⟨rfl, hn, hb⟩; have N0 := Lib.hid hn; have B0 := Lib.hid hb; clear hn hb)
    go_cut [] (fun wx => ∃ u d, Aside0 (NT wx w.heap.size a u d) ∧ Aside0 (u < 18446744073709551616 ∧ d < 18446744073709551616) ∧ Aside0 (Below w.heap.size w wx))
    case first =>
      go_wp2
      go_loopg [9] 51 (fun kq v9 w' => ∃ (i u d : Nat), v9 = .int .i64 i ∧ Aside0 (i + kq = 51 ∧ 1 ≤ kq) ∧ Aside0 (NT w' w.heap.size a u d) ∧ Aside0 (u < 18446744073709551616 ∧ d < 18446744073709551616) ∧ Aside0 (Below w.heap.size w w'))
      case atStart => exact ⟨0, 0, 0, rfl, ⟨by omega, by omega⟩, ⟨N0.out⟩, ⟨by omega, by omega⟩, ⟨B0.out⟩⟩
      case round =>
        clear N0 B0
        obtain ⟨i, u, d, rfl, HI, NB, HL, HB⟩ := hrel
        have hi50 : i ≤ 50 := by have := HI.out; omega
        by_cases c1 : i < len
        · have b1 : decide (i < len) = true := decide_eq_true c1
          by_cases c2 : i < 50
          · have b2 : decide (i < 50) = true := decide_eq_true c2
            obtain ⟨k1, rfl⟩ : ∃ k1, gk = k1 + 1 := ⟨gk - 1, by have := HI.out; omega⟩
            obtain ⟨ad, x, y, q, rfl, s0, s1, s2, hq⟩ := HS.out i c1
            have s0' := cell_far s0 HB.out
            have s1' := cell_far s1 HB.out
            have s2' := cell_far s2 HB.out
            rw [Nat.add_zero] at s0'
            rw [add_one] at s1'
            rw [add_two] at s2'
            have SML := SM.out u d HL.out.1 HL.out.2
            have HSM := Lib.hid SML
            have HLT := Lib.hid NB.out.lt
            clear s0 s1 s2 hq SML
            by_cases e5 : x = 5
            · have b5 : (x == 5) = true := by simpa using e5
              clear e5
              go_wp2_with (go_at_call 37; refine (Drain_any w.heap.size a u d y _ (NB.out.alloc _) HSM.out).mono ?_; rintro e w2 ⟨rfl, hn, hu⟩; have N2 := Lib.hid hn; have B2 := Lib.hid ((below_alloc HB.out _).trans hu.2); clear hn hu)
              go_roundg k1
              case measure => have := HI.out; omega
              case rel => exact ⟨i + 1, u, _, by go_num, ⟨by have := HI.out; omega, by have := HI.out; omega⟩, ⟨N2.out⟩, ⟨HL.out.1, turnD_lt _ _ _ _ HL.out.2⟩, ⟨B2.out⟩⟩
            · have b5 : (x == 5) = false := by simpa using e5
              clear e5
              by_cases e6 : x = 6
              · have b6 : (x == 6) = true := by simpa using e6
                clear e6
                go_wp2_with (go_at_call 38; refine (Resume_any w.heap.size a u d y _ (NB.out.alloc _) HSM.out).mono ?_; rintro e w2 ⟨rfl, hn, hu⟩; have N2 := Lib.hid hn; have B2 := Lib.hid ((below_alloc HB.out _).trans hu.2); clear hn hu)
                go_roundg k1
                case measure => have := HI.out; omega
                case rel => exact ⟨i + 1, u, _, by go_num, ⟨by have := HI.out; omega, by have := HI.out; omega⟩, ⟨N2.out⟩, ⟨HL.out.1, turnD_lt _ _ _ _ HL.out.2⟩, ⟨B2.out⟩⟩
              · have b6 : (x == 6) = false := by simpa using e6
                clear e6
                go_wp2_with (go_at_call 39; refine (Take_any w.heap.size a u d y _ (NB.out.alloc _) HSM.out (HT.out.below (below_alloc HB.out _) HT.out.lt)).mono ?_; rintro e w2 ⟨rfl, hn, hu⟩; have N2 := Lib.hid hn; have B2 := Lib.hid ((below_alloc HB.out _).trans hu.2); clear hn hu)
                go_roundg k1
                case measure => have := HI.out; omega
                case rel => exact ⟨i + 1, _, d, by go_num, ⟨by have := HI.out; omega, by have := HI.out; omega⟩, ⟨N2.out⟩, ⟨or_lt _ _ HL.out.1 (takeT_lt _ _ _ _), HL.out.2⟩, ⟨B2.out⟩⟩
          · have b2 : decide (i < 50) = false := decide_eq_false c2
            go_wp2
            go_meet
            exact ⟨u, d, ⟨NB.out⟩, ⟨HL.out⟩, ⟨HB.out⟩⟩
        · have b1 : decide (i < len) = false := decide_eq_false c1
          go_wp2
          go_meet
          exact ⟨u, d, ⟨NB.out⟩, ⟨HL.out⟩, ⟨HB.out⟩⟩
    case rest =>
      obtain ⟨u, d, NB, HL, HB⟩ := hcut
      obtain ⟨wd, rfl⟩ : ∃ wd : World, wd = wc := ⟨_, rfl⟩
      clear N0 B0 K1 HS hlen
      have HSM := Lib.hid (SM.out u d HL.out.1 HL.out.2)
      obtain ⟨I, hI⟩ : ∃ I, idleS a u d = I := ⟨_, rfl⟩
      have hIl := idleS_lt a u d ha1
      have hIb := fun i hi => idleS_bit a u d i HL.out.1 HL.out.2 hi
      rw [hI] at hIl
      simp only [hI] at hIb
      have KI := Lib.hid (fun b W (h : NT W b a u d) => Idle_b b a u d W h HSM.out)
      have KU := Lib.hid (fun b W (h : NT W b a u d) => Used_any b a u d W h HSM.out)
      have KC := Lib.hid (fun W (h : NT W w.heap.size a u d) => Copy_any w.heap.size a u d W h HSM.out)
      rw [hI] at KI
      have HIB := Lib.hid hIb
      obtain ⟨t, ht⟩ : ∃ t, takeT a u d m = t := ⟨_, rfl⟩
      obtain ⟨E, hE⟩ : ∃ E, takeE a u d m = E := ⟨_, rfl⟩
      have KT := Lib.hid (fun b W (h : NT W b a u d) (k : Tab W) => Take_any b a u d m W h HSM.out k)
      rw [ht, hE] at KT
      have tl := takeT_lt a u d m
      rw [ht] at tl
      have tok1 : True := trivial
      have tok2 : True := trivial
      have bII : ((I : Int) != (I : Int)) = false := by simp
      have buu : ((u : Int) != (u : Int)) = false := by simp
      by_cases hE0 : E = 0
      · obtain ⟨m1, m2, m3⟩ := take_ok a u d m (hE.trans hE0)
        rw [ht, hI] at m3
        rw [hI] at m2
        have hsub : ∀ i, i < 64 → t.testBit i = true → I.testBit i = true := fun i _ h => firstS_sub I m i (by rw [← m3]; exact h)
        have hlen : (lenS t : Int) = m := by rw [m3]; exact lenS_first I m (by omega) m2
        have hI2 : ∀ i, i < 64 → t.testBit i = true → u.testBit i = false ∧ d.testBit i = false := fun i hi h => by
          have h1 := hsub i hi h
          rw [HIB.out i hi] at h1
          cases hu : u.testBit i <;> cases hd : d.testBit i <;> simp [hu, hd] at h1 ⊢
        have z1 : minus t I = 0 := minus_zero t I hIl tl hsub
        have hut : u ||| t < 18446744073709551616 := or_lt u t HL.out.1 tl
        have z2 : minus t (u ||| t) = 0 := minus_zero t (u ||| t) hut tl (fun i hi h => by rw [Nat.testBit_or, h]; simp)
        have z3 : minus t d = t := minus_same t d HL.out.2 tl (fun i hi h => (hI2 i hi h).2)
        have z4 : minus (u ||| t) t = u := eq_of_bits _ _ (minus_lt _ _ hut) HL.out.1 fun i hi => by
          rw [minus_bit _ _ i tl hi, Nat.testBit_or]
          cases hb : t.testBit i
          · simp
          · rw [(hI2 i hi hb).1]; simp
        have HSM2 := Lib.hid (SM.out (u ||| t) d hut HL.out.2)
        have KU2 := Lib.hid (fun b W (h : NT W b a (u ||| t) d) => Used_any b a (u ||| t) d W h HSM2.out)
        have KG := Lib.hid (fun b W (h : NT W b a (u ||| t) d) => Give_any b a (u ||| t) d t W h HSM2.out tl)
        rw [show giveN (u ||| t) d t = m by unfold giveN; rw [if_pos z2, z3]; exact hlen, show giveE (u ||| t) t = 0 by unfold giveE; rw [if_pos z2], show giveU (u ||| t) t = u by unfold giveU; rw [if_pos z2, z4]] at KG
        have KL := Lib.hid (fun W => len_any t W tl)
        have hLL := Lib.hid hlen
        simp only [hlen] at KL
        have bz := eq_b _ z1
        have MV := minus_val t I tl hIl
        have OV := bits_or_u64_nat u t HL.out.1 tl
        have bz1 := bz.1
        have bE : (E == 0) = true := by simpa using hE0
        have bE' : (E != 0) = false := by simp [hE0]
        have bm : (m != m) = false := by simp
        have but : (((u ||| t : Nat) : Int) != ((u ||| t : Nat) : Int)) = false := by simp
        clear hE0 m1 m2 m3 hsub hI2 hlen z1 z2 z3 z4 hut ht hE hI hIb hIl bz HIB ha1
        generalize minus t I = mi at bz1 MV
        generalize u ||| t = ut at HSM2 KU2 KG KT OV but
        go_wp2_with (first
          | (have _t := tok1; go_at_call 40; refine (KI.out _ _ NB.out).mono ?_; rintro e w2 ⟨rfl, hb⟩; have NB2 := Lib.hid (NB.out.below hb NB.out.lt); have HB2 := Lib.hid (below_step HB.out hb); clear hb tok1 _t)
          | (have _t := tok2; go_at_call 41; refine (KU.out _ _ NB2.out).mono ?_; rintro e w3 ⟨rfl, rfl⟩; clear tok2 _t)
          | (go_at_call 42; refine (KC.out _ NB2.out).mono ?_; rintro e w4 ⟨rfl, hn, hb⟩; have NC := Lib.hid hn; have NB4 := Lib.hid (NB2.out.below hb NB2.out.lt); have HB4 := Lib.hid (below_step HB2.out hb); have HNE := Lib.hid (Nat.ne_of_lt NB2.out.lt); have HGE := Lib.hid HB2.out.size; clear hn hb)
          | (go_at_call 39; refine (KT.out _ _ NC.out (HT.out.below HB4.out HT.out.lt)).mono ?_; rintro e w5 ⟨rfl, hn, hu⟩; have NC5 := Lib.hid hn; have NB5 := Lib.hid (NB4.out.upd hu HNE.out); have HB5 := Lib.hid (HB4.out.trans (hu.2.mono HGE.out)); have tok3 : True := trivial; have tok4 : True := trivial; clear hn hu)
          | (have _t := tok3; go_at_call 40; refine (KI.out _ _ NB5.out).mono ?_; rintro e w6 ⟨rfl, hb⟩; have NB6 := Lib.hid (NB5.out.below hb NB5.out.lt); have NC6 := Lib.hid (NC5.out.below hb NC5.out.lt); have HB6 := Lib.hid (below_step HB5.out hb); clear hb tok3 _t)
          | (have _t := tok4; go_at_call 41; refine (KU.out _ _ NB6.out).mono ?_; rintro e w7 ⟨rfl, rfl⟩; have tok5 : True := trivial; clear tok4 _t)
          | (go_at_call 32; refine (KL.out _).mono ?_; rintro e w8 ⟨rfl, rfl⟩)
          | (have _t := tok5; go_at_call 41; refine (KU2.out _ _ NC6.out).mono ?_; rintro e w8 ⟨rfl, rfl⟩; clear tok5 _t)
          | (go_at_call 43; refine (KG.out _ _ NC6.out).mono ?_; rintro e w8 ⟨rfl, hn, hu⟩; have NC8 := Lib.hid hn; have HB8 := Lib.hid (HB6.out.trans (hu.2.mono HGE.out)); clear hn hu)
          | (go_at_call 40; refine (KI.out _ _ NC8.out).mono ?_; rintro e w9 ⟨rfl, hb⟩; have NC9 := Lib.hid (NC8.out.below hb NC8.out.lt); have HB9 := Lib.hid (below_step HB8.out hb); clear hb)
          | (go_at_call 41; refine (KU.out _ _ NC9.out).mono ?_; rintro e w10 ⟨rfl, rfl⟩)
          | (go_at_call 36; refine (HW.out _ HB9.out).mono ?_; rintro e w11 ⟨rfl, hb3⟩))
        go_ret
        exact ⟨rfl, below_step HB9.out hb3⟩
      · have ht0 : t = 0 := by rw [← ht]; exact take_fail a u d m (by rw [hE]; exact hE0)
        subst ht0
        rw [Nat.or_zero] at KT
        have bE : (E == 0) = false := by simpa using hE0
        have bE' : (E != 0) = true := by simp [hE0]
        clear hE0 ht hE hI hIb hIl HIB ha1 tl
        go_wp2_with (first
          | (have _t := tok1; go_at_call 40; refine (KI.out _ _ NB.out).mono ?_; rintro e w2 ⟨rfl, hb⟩; have NB2 := Lib.hid (NB.out.below hb NB.out.lt); have HB2 := Lib.hid (below_step HB.out hb); clear hb tok1 _t)
          | (have _t := tok2; go_at_call 41; refine (KU.out _ _ NB2.out).mono ?_; rintro e w3 ⟨rfl, rfl⟩; clear tok2 _t)
          | (go_at_call 42; refine (KC.out _ NB2.out).mono ?_; rintro e w4 ⟨rfl, hn, hb⟩; have NC := Lib.hid hn; have NB4 := Lib.hid (NB2.out.below hb NB2.out.lt); have HB4 := Lib.hid (below_step HB2.out hb); have HNE := Lib.hid (Nat.ne_of_lt NB2.out.lt); have HGE := Lib.hid HB2.out.size; clear hn hb)
          | (go_at_call 39; refine (KT.out _ _ NC.out (HT.out.below HB4.out HT.out.lt)).mono ?_; rintro e w5 ⟨rfl, hn, hu⟩; have NC5 := Lib.hid hn; have NB5 := Lib.hid (NB4.out.upd hu HNE.out); have HB5 := Lib.hid (HB4.out.trans (hu.2.mono HGE.out)); have tok3 : True := trivial; have tok4 : True := trivial; clear hn hu)
          | (have _t := tok3; go_at_call 40; refine (KI.out _ _ NB5.out).mono ?_; rintro e w6 ⟨rfl, hb⟩; have NB6 := Lib.hid (NB5.out.below hb NB5.out.lt); have NC6 := Lib.hid (NC5.out.below hb NC5.out.lt); have HB6 := Lib.hid (below_step HB5.out hb); clear hb tok3 _t)
          | (have _t := tok4; go_at_call 41; refine (KU.out _ _ NB6.out).mono ?_; rintro e w7 ⟨rfl, rfl⟩; clear tok4 _t)
          | (go_at_call 40; refine (KI.out _ _ NC6.out).mono ?_; rintro e w9 ⟨rfl, hb⟩; have HB9 := Lib.hid (below_step HB6.out hb); clear hb)
          | (go_at_call 36; refine (HW.out _ HB9.out).mono ?_; rintro e w11 ⟨rfl, hb3⟩))
        go_ret
        exact ⟨rfl, below_step HB9.out hb3⟩
end Go.Proofs.YtmjkgnlmdcmdbaaDoor.Node
