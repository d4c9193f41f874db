/- SetApart: sets that have no node in common; the law's walk. -/
import Derived.Test.YtmjkgnlmdcmdbaaDoorSetNodes
import Derived.Test.YtmjkgnlmdcmdbaaDoorOpen
namespace Go.Proofs.YtmjkgnlmdcmdbaaDoor.Sets
open Go.RowKit Go.Proofs.YtmjkgnlmdcmdbaaDoorW.PrintWords Go.Proofs.YtmjkgnlmdcmdbaaDoorW.PrintLast Go.Proofs.YtmjkgnlmdcmdbaaDoorW.PrintMore Go.Proofs.YtmjkgnlmdcmdbaaDoor.Row Go.Proofs.YtmjkgnlmdcmdbaaDoor.Open
set_option linter.unusedVariables false
set_option linter.unusedSimpArgs false
/-- element j as a number -/
def un (l : List Int) (j : Nat) : Nat := (rd l (j : Int)).toNat
def Disj (x y : Nat) : Prop := ∀ n, n < 64 → ¬ (x.testBit n = true ∧ y.testBit n = true)
theorem disj_and (x y : Nat) (hx : x < 18446744073709551616) : x &&& y = 0 ↔ Disj x y := by
  constructor
  · intro h n hn hh
    have := congrArg (·.testBit n) h
    simp only [Nat.testBit_and, hh.1, hh.2, Nat.zero_testBit] at this
    cases this
  · intro h
    apply Nat.eq_of_testBit_eq
    intro i
    rw [Nat.testBit_and, Nat.zero_testBit]
    by_cases hi : i < 64
    · have := h i hi
      cases h1 : x.testBit i <;> cases h2 : y.testBit i <;> simp [h1, h2] at this ⊢
    · rw [bit_out x i hx (by omega)]; rfl
/-- no two of the first i have a node in common -/
def ApartTo (l : List Int) (i : Nat) : Prop := ∀ j, j < i → ∀ k, k < j → Disj (un l j) (un l k)
def Small (l : List Int) : Prop := ∀ i : Int, 0 ≤ i → i < l.length → ∃ s : Nat, rd l i = (s : Int) ∧ s < 18446744073709551616
theorem small_of (l : List Int) (h : ∀ x ∈ l, (Lit.int .u64 x).wf = true) : Small l := fun i h0 h1 => by
  have hm : rd l i ∈ l := by
    have hj : i.toNat < l.length := by omega
    simp [rd, hj]
  obtain ⟨s, h1, h2⟩ := u64_out _ (h _ hm)
  exact ⟨s, h1, h2⟩
def ApartIs (l : List Int) (w : World) (e : Ending) (w' : World) : Prop := ∃ b : Bool, e = .returned (.bool b) ∧ (b = true ↔ ApartTo l l.length) ∧ w = w'
set_option maxRecDepth 100000 in
theorem apart_any (A : Option Addr) (c : Nat) (l : List Int) (w : World) (hr : Rds (Value.int .u64) w A l) (hl : l.length ≤ 140737488351232) (hs : Small l) :
    Calls Tryd.prog 27 #[.slice A l.length c] w (ApartIs l w) := by
  have HR := Lib.hid hr
  have HS := Lib.hid hs
  clear hr hs
  go_enter Tryd.func27, Tryd.ntmps27
  go_wp2
  go_loop [3, 8] (fun v3 v8 => ∃ (i : Int) (a : Nat), v3 = .int .u64 a ∧ v8 = .int .i64 i ∧ Aside0 (0 ≤ i ∧ i ≤ (l.length : Int) ∧ a < 18446744073709551616 ∧ (∀ n, n < 64 → (a.testBit n = true ↔ ∃ k : Nat, (k : Int) < i ∧ (un l k).testBit n = true)) ∧ ApartTo l i.toNat)) (fun _ v8 => l.length - (intOf v8).toNat)
  case atStart => exact ⟨0, 0, rfl, rfl, ⟨by omega, by omega, by omega, fun n hn => ⟨fun h => by simp at h, fun ⟨k, hk, _⟩ => by omega⟩, fun j hj => by simp at hj⟩⟩
  case round =>
    obtain ⟨i, a, rfl, rfl, HI⟩ := hrel
    by_cases c1 : i < (l.length : Int)
    · have b1 : decide (i < (l.length : Int)) = true := decide_eq_true c1
      have i1 : 0 ≤ i := HI.out.1
      obtain ⟨ad, rfl, t0⟩ := HR.out.rd_ i i1 c1
      obtain ⟨s, hs, hlt⟩ := HS.out i i1 c1
      rw [hs] at t0
      have hun : un l i.toNat = s := by unfold un; rw [show ((i.toNat : Nat) : Int) = i by omega, hs]; simp
      have HU := Lib.hid hun
      have i0 : (0 ≤ i ∧ i < (l.length : Int)) = True := eq_true ⟨i1, c1⟩
      have ha := HI.out.2.2.1
      have e1 := bits_and_u64_nat s a hlt ha
      have e2 := bits_or_u64_nat s a hlt ha
      have e2' := bits_or_u64_nat a s ha hlt
      have hdj := disj_and s a hlt
      have hor : s ||| a < 18446744073709551616 := by have := Nat.or_lt_two_pow (x := s) (y := a) (n := 64) (by omega) (by omega); omega
      have hor' : a ||| s < 18446744073709551616 := by have := Nat.or_lt_two_pow (x := a) (y := s) (n := 64) (by omega) (by omega); omega
      have HD := Lib.hid hdj
      have HO := Lib.hid hor'
      have E2 := Lib.hid e2'
      have htn : (i + 1).toNat = i.toNat + 1 := by omega
      have HTN := Lib.hid htn
      clear hs hun hdj hor hor' e2 htn
      by_cases c2 : s &&& a = 0
      · have b2 : (((s &&& a : Nat) : Int) == 0) = true := by rw [c2]; rfl
        have b2' : (((s &&& a : Nat) : Int) != 0) = false := by rw [c2]; rfl
        have C2 := Lib.hid c2
        clear c2
        generalize s &&& a = q at e1 b2 b2' C2 HD
        go_wp2
        go_round
        case rel =>
          refine ⟨i + 1, a ||| s, by first | rfl | (rw [← E2.out]; done), by go_num, ⟨by omega, by omega, HO.out, fun n hn => ?_, ?_⟩⟩
          · rw [Nat.testBit_or, Bool.or_eq_true, HI.out.2.2.2.1 n hn]
            constructor
            · rintro (⟨k, hk, h⟩ | h)
              · exact ⟨k, by omega, h⟩
              · exact ⟨i.toNat, by omega, by rw [HU.out]; exact h⟩
            · rintro ⟨k, hk, h⟩
              by_cases hki : (k : Int) < i
              · exact .inl ⟨k, hki, h⟩
              · obtain rfl : k = i.toNat := by omega
                rw [HU.out] at h
                exact .inr h
          · rw [HTN.out]
            intro j hj k hk
            by_cases hji : j < i.toNat
            · exact HI.out.2.2.2.2 j hji k hk
            · obtain rfl : j = i.toNat := by omega
              rw [HU.out]
              intro n hn hh
              exact HD.out.1 C2.out n hn ⟨hh.1, (HI.out.2.2.2.1 n hn).2 ⟨k, by omega, hh.2⟩⟩
        case measure => simp [intOf]; omega
      · have b2 : (((s &&& a : Nat) : Int) == 0) = false := by simp; omega
        have b2' : (((s &&& a : Nat) : Int) != 0) = true := by simp; omega
        have C2 := Lib.hid c2
        clear c2
        generalize s &&& a = q at e1 b2 b2' C2 HD
        go_wp2
        go_ret
        refine ⟨false, rfl, ⟨(fun h => by cases h), fun h => ?_⟩, rfl⟩
        exfalso
        apply C2.out
        apply HD.out.2
        intro n hn hh
        obtain ⟨k, hk, hb⟩ := (HI.out.2.2.2.1 n hn).1 hh.2
        have := h i.toNat (by omega) k (by omega) n hn
        rw [HU.out] at this
        exact this ⟨hh.1, hb⟩
    · have b1 : decide (i < (l.length : Int)) = false := decide_eq_false c1
      obtain rfl : i = (l.length : Int) := by have := HI.out; omega
      go_wp2
      go_ret
      exact ⟨true, rfl, ⟨fun _ => by have := HI.out.2.2.2.2; rwa [Int.toNat_natCast] at this, fun _ => rfl⟩, rfl⟩
theorem info_set : (Tryd.prog.info? 23).map (fun i => (i.zero, i.size, i.bytes)) = some (some (.int .u64 0), 1, 8) := by kernel_rfl
/-- no common node ahead of pair (i, k) and node n -/
def Pairs (l : List Int) (i k n : Nat) : Prop := ApartTo l i ∧ (∀ b, b < k → Disj (un l i) (un l b)) ∧ ∀ m, m < n → ¬ ((un l i).testBit m = true ∧ (un l k).testBit m = true)
theorem Pairs.start (l : List Int) (i : Nat) : Pairs l i 0 0 ↔ ApartTo l i := ⟨fun h => h.1, fun h => ⟨h, fun b hb => by omega, fun m hm => by omega⟩⟩
theorem Pairs.next (l : List Int) (i k : Nat) : Pairs l i k 64 ↔ Pairs l i (k + 1) 0 := by
  constructor
  · rintro ⟨h1, h2, h3⟩
    refine ⟨h1, fun b hb => ?_, fun m hm => by omega⟩
    by_cases hbk : b < k
    · exact h2 b hbk
    · obtain rfl : b = k := by omega
      exact h3
  · rintro ⟨h1, h2, _⟩
    exact ⟨h1, fun b hb => h2 b (by omega), h2 k (by omega)⟩
theorem Pairs.end_ (l : List Int) (i : Nat) : Pairs l i i 0 ↔ ApartTo l (i + 1) := by
  constructor
  · rintro ⟨h1, h2, _⟩ j hj k hk
    by_cases hji : j < i
    · exact h1 j hji k hk
    · obtain rfl : j = i := by omega
      exact h2 k hk
  · intro h
    exact ⟨fun j hj k hk => h j (by omega) k hk, fun b hb => h i (by omega) b hb, fun m hm => by omega⟩
theorem Pairs.step (l : List Int) (i k n : Nat) : Pairs l i k (n + 1) ↔ Pairs l i k n ∧ ¬ ((un l i).testBit n = true ∧ (un l k).testBit n = true) := by
  constructor
  · rintro ⟨h1, h2, h3⟩
    exact ⟨⟨h1, h2, fun m hm => h3 m (by omega)⟩, h3 n (by omega)⟩
  · rintro ⟨⟨h1, h2, h3⟩, h4⟩
    refine ⟨h1, h2, fun m hm => ?_⟩
    by_cases hmn : m < n
    · exact h3 m hmn
    · obtain rfl : m = n := by omega
      exact h4
set_option maxRecDepth 100000 in
set_option maxHeartbeats 4000000 in
theorem SetApart_any (A : Option Addr) (len cap : Nat) (z : List Int) (w : World) (hz : IsRow .u64 w A len cap z) (y : len * 8 ≤ 140737488351232) (hT : Tab w) :
    Calls Tryd.prog 5 #[.slice A len cap] w fun e w' => e = .returned (.bool true) ∧ Below w.heap.size w w' := by
  obtain ⟨l, rfl, hC, hm, hwf, hcap⟩ := hz.list
  have HS0 := Lib.hid (small_of l hwf)
  have HR0 := Lib.hid (Rds.ofC hC)
  have HT := Lib.hid hT
  clear hC hwf hz hT
  unfold maxLen at hm
  go_enter Tryd.func5, Tryd.ntmps5
  go_upto_if 10 with fail
  go_cut [0] (fun v wx => ∃ (l1 : List Int) (c : Nat), v = .slice A l1.length c ∧ l1.length ≤ 20 ∧ Aside0 (Small l1) ∧ Aside0 (Rds (Value.int .u64) w A l1) ∧ w = wx)
  case first =>
    by_cases h : 20 < l.length
    · have b0 : decide (20 < l.length) = true := decide_eq_true h
      have HT20 : Hid ((l.take 20).length = 20) := Lib.hid (by rw [List.length_take]; omega)
      obtain ⟨ad, rfl, _⟩ := HR0.out.rd_ 0 (by omega) (by omega)
      go_wp2
      go_meet
      refine ⟨l.take 20, cap, by rw [HT20.out], by rw [HT20.out]; omega, ⟨fun i h0 h1 => ?_⟩, ⟨HR0.out.take 20⟩, rfl⟩
      rw [HT20.out] at h1
      have := HS0.out i h0 (by omega)
      have e : rd (l.take 20) i = rd l i := by
        have : i.toNat < 20 := by omega
        simp [rd, List.getD_eq_getElem?_getD, List.getElem?_take, this]
      rwa [e]
    · have b0 : decide (20 < l.length) = false := decide_eq_false h
      go_wp2
      go_meet
      exact ⟨l, cap, rfl, by omega, ⟨HS0.out⟩, ⟨HR0.out⟩, rfl⟩
  case rest =>
    obtain ⟨l1, c, rfl, h20, HS, HR, rfl⟩ := hcut
    clear HS0 HR0 hm hcap y
    have HB := Aside0.mk (Below.refl w.heap.size w)
    go_wp2
    go_loopg [3, 4, 5] (l1.length + 1) (fun kq v3 v4 v5 w' => ∃ (b : Bool) (i : Nat), v4 = .bool b ∧ v5 = .int .i64 i ∧ Aside0 (i + kq = l1.length + 1 ∧ 1 ≤ kq) ∧ Aside0 (b = true ↔ ApartTo l1 i) ∧ Aside0 (Kd.R (Kd.int .u64) 23 w' w.heap.size (fun _ => True) v3 (l1.take i)) ∧ Aside0 (Below w.heap.size w w'))
    case atStart => exact ⟨true, 0, rfl, rfl, ⟨by omega, by omega⟩, ⟨fun _ j hj => by omega, fun _ => rfl⟩, ⟨Kd.R_nil _ _ _ _ _⟩, ⟨HB.out⟩⟩
    case round =>
      clear HB
      obtain ⟨b, i, rfl, rfl, HI, HBV, HO, HB⟩ := hrel
      obtain ⟨k1, rfl⟩ : ∃ k1, gk = k1 + 1 := ⟨gk - 1, by have := HI.out; omega⟩
      have hi20 : i ≤ 20 := by have := HI.out; omega
      by_cases c1 : i < l1.length
      · have b1 : decide (i < l1.length) = true := decide_eq_true c1
        obtain ⟨ad, rfl, t0⟩ := HR.out.rd_ (i : Int) (by omega) (by omega)
        obtain ⟨s, hs, hlt⟩ := HS.out (i : Int) (by omega) (by omega)
        rw [hs, Int.toNat_natCast] at t0
        have t0' : wr.cell? (ad.add i) = some (.int .u64 (s : Int)) := (HB.out.cell (World.block_lt_of_cell? w _ t0)).trans t0
        have HN : Hid (l1.take (i + 1) = l1.take i ++ [(s : Int)]) := Lib.hid (by
          rw [List.take_succ_eq_append_getElem c1, ← hs]
          simp [rd, c1])
        have HU : Hid (un l1 i = s) := Lib.hid (by unfold un; rw [hs]; simp)
        have LM : Hid ((l1.take i).length ≤ 20) := Lib.hid (by rw [List.length_take]; omega)
        clear hs
        go_wp2_with ((with_reducible refine gate_builtin (b := .append) (xs := #[.tmp 19, .tmp 24]) rfl ?_); at_builtin; refine Kd.R_append (Kd.int .u64) (w0 := w) w.heap.size rfl (.tmp 19) (.tmp 24) 36 23 (.int .u64 0) 8 rfl Tryd.underlying36 info_set rfl (by decide) (by omega) _ (l1.take i) (s : Int) [.int .u64 (s : Int)] (fun _ => True) (fun _ => False) rfl rfl ?aP (fun _ hk => hk.elim) ?aF ?aO ?aB ?aS ?aL ?_; (case aP => exact rfl); (case aB => exact HB.out); (case aF => exact (fun _ _ => trivial)); (case aO => exact HO.out); (case aS => exact below_size HB.out); (case aL => have := LM.out; omega); intro v113 w5 ho hb hg hat; have HB1 := Lib.hid hb; have HO1 := Lib.hid ho; clear ho hg hat)
        have t1 : w5.cell? (ad.add i) = some (.int .u64 (s : Int)) := (hb.cell (World.block_lt_of_cell? w _ t0)).trans t0
        have HR5 : Hid (Rds (Value.int .u64) w5 (some ad) l1) := Lib.hid (HR.out.below hb)
        clear hb t0 t0' HB HO
        go_loop [4, 6, 7] (fun v4 v6 _ => ∃ (b : Bool) (k : Nat), v4 = .bool b ∧ v6 = .int .i64 k ∧ Aside0 (k ≤ i ∧ (b = true ↔ Pairs l1 i k 0))) (fun _ v6 _ => i - (intOf v6).toNat)
        case atStart => exact ⟨b, 0, rfl, rfl, ⟨by omega, by rw [Pairs.start]; exact HBV.out⟩⟩
        case round =>
          clear HBV
          obtain ⟨b, k, rfl, rfl, HK⟩ := hrel
          by_cases c2 : k < i
          · have b2 : decide (k < i) = true := decide_eq_true c2
            obtain ⟨ad2, had, t2⟩ := HR5.out.rd_ (k : Int) (by omega) (by omega)
            obtain rfl : ad = ad2 := Option.some.inj had
            obtain ⟨s2, hs2, hlt2⟩ := HS.out (k : Int) (by omega) (by omega)
            rw [hs2, Int.toNat_natCast] at t2
            have HU2 : Hid (un l1 k = s2) := Lib.hid (by unfold un; rw [hs2]; simp)
            have hkl : k < l1.length := by omega
            clear hs2
            go_wp2
            go_loop [4, 7] (fun v4 v7 => ∃ (b : Bool) (n : Nat), v4 = .bool b ∧ v7 = .int .i64 n ∧ Aside0 (n ≤ 64 ∧ (b = true ↔ Pairs l1 i k n))) (fun _ v7 => 64 - (intOf v7).toNat)
            case atStart => exact ⟨b, 0, rfl, rfl, ⟨by omega, HK.out.2⟩⟩
            case round =>
              obtain ⟨b, n, rfl, rfl, HN2⟩ := hrel
              by_cases c3 : n < 64
              · have b3 : decide (n < 64) = true := decide_eq_true c3
                have K1 := Lib.hid (fun W => has03_any s (n : Int) W hlt)
                have K2 := Lib.hid (fun W => has03_any s2 (n : Int) W hlt2)
                rw [hasS_at s n c3] at K1
                rw [hasS_at s2 n c3] at K2
                have HP := Lib.hid (Pairs.step l1 i k n)
                rw [HU.out, HU2.out] at HP
                cases b with
                | false =>
                  go_wp2
                  go_round
                  case rel => exact ⟨false, n + 1, rfl, by go_num, ⟨by omega, ⟨(fun h => by cases h), fun h => HN2.out.2.2 (HP.out.1 h).1⟩⟩⟩
                  case measure => simp [intOf]; omega
                | true =>
                  have hpn := HN2.out.2.1 rfl
                  have HPN := Lib.hid hpn
                  clear hpn
                  obtain ⟨p, hp⟩ : ∃ p, s.testBit n = p := ⟨_, rfl⟩
                  obtain ⟨q, hq⟩ : ∃ q, s2.testBit n = q := ⟨_, rfl⟩
                  rw [hp] at K1 HP
                  rw [hq] at K2 HP
                  clear hp hq
                  cases p with
                  | false =>
                    go_wp2_with (go_at_call 21; refine (K1.out _).mono ?_; rintro e w2 ⟨rfl, rfl⟩)
                    go_round
                    case rel => exact ⟨true, n + 1, rfl, by go_num, ⟨by omega, ⟨fun _ => HP.out.2 ⟨HPN.out, fun h => by cases h.1⟩, fun _ => rfl⟩⟩⟩
                    case measure => simp [intOf]; omega
                  | true =>
                    cases q with
                    | false =>
                      go_wp2_with (first | (go_at_call 21; (with_reducible refine (K1.out _).mono ?_); rintro e w2 ⟨rfl, rfl⟩) | (go_at_call 21; (with_reducible refine (K2.out _).mono ?_); rintro e w2 ⟨rfl, rfl⟩))
                      go_round
                      case rel => exact ⟨true, n + 1, rfl, by go_num, ⟨by omega, ⟨fun _ => HP.out.2 ⟨HPN.out, fun h => by cases h.2⟩, fun _ => rfl⟩⟩⟩
                      case measure => simp [intOf]; omega
                    | true =>
                      go_wp2_with (first | (go_at_call 21; (with_reducible refine (K1.out _).mono ?_); rintro e w2 ⟨rfl, rfl⟩) | (go_at_call 21; (with_reducible refine (K2.out _).mono ?_); rintro e w2 ⟨rfl, rfl⟩))
                      go_round
                      case rel => exact ⟨false, n + 1, rfl, by go_num, ⟨by omega, ⟨(fun h => by cases h), fun h => absurd (HP.out.1 h).2 (by simp)⟩⟩⟩
                      case measure => simp [intOf]; omega
              · have b3 : decide (n < 64) = false := decide_eq_false c3
                obtain rfl : n = 64 := by have := HN2.out; omega
                go_wp2
                go_round
                case rel => exact ⟨b, k + 1, rfl, by go_num, ⟨by omega, by rw [← Pairs.next]; exact HN2.out.2⟩⟩
                case measure => simp [intOf]; omega
          · have b2 : decide (k < i) = false := decide_eq_false c2
            obtain rfl : k = i := by have := HK.out; omega
            go_wp2
            go_roundg k1
            case measure => have := HI.out; omega
            case rel => exact ⟨b, k + 1, rfl, by go_num, ⟨by have := HI.out; omega, by have := HI.out; omega⟩, ⟨by rw [← Pairs.end_]; exact HK.out.2⟩, ⟨by rw [HN.out]; exact HO1.out⟩, ⟨HB1.out⟩⟩
      · have b1 : decide (i < l1.length) = false := decide_eq_false c1
        obtain rfl : i = l1.length := by have := HI.out; omega
        have hO2 : Kd.R (Kd.int .u64) 23 wr w.heap.size (fun _ => True) u3 l1 := by
          have := HO.out
          rwa [List.take_length] at this
        obtain ⟨A2, c2, hv, hc2, hC2⟩ := Kd.R_reads hO2
        subst hv
        have KA := Lib.hid (apart_any A2 c2 l1 wr (Rds.ofC hC2) (by omega) HS.out)
        have KW := Lib.hid (awake03_any wr (HT.out.below HB.out HT.out.lt))
        clear hO2 hC2 HO
        go_wp2_with (first
          | (go_at_call 27; refine KA.out.mono ?_; rintro e w2 ⟨b2, rfl, hb2, rfl⟩; obtain rfl : b2 = b := (by rw [Bool.eq_iff_iff, hb2]; exact HBV.out.symm); have hbb : (b2 == b2) = true := by simp)
          | (go_at_call 22; refine KW.out.mono ?_; rintro e w3 ⟨rfl, hb3⟩))
        go_ret
        exact ⟨rfl, below_step HB.out hb3⟩
end Go.Proofs.YtmjkgnlmdcmdbaaDoor.Sets
