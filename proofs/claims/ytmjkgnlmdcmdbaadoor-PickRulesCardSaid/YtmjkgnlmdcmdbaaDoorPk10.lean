/- PickRules: for every rule, every set of idle nodes and every number: the nodes that are picked are those of the law's own list. -/
import Derived.Test.YtmjkgnlmdcmdbaaDoorPk9
namespace Go.Proofs.YtmjkgnlmdcmdbaaDoor.Pick
open Go.RowKit Go.Proofs.YtmjkgnlmdcmdbaaDoorW.PrintWords Go.Proofs.YtmjkgnlmdcmdbaaDoorW.PrintLast Go.Proofs.YtmjkgnlmdcmdbaaDoorW.PrintMore Go.Proofs.YtmjkgnlmdcmdbaaDoor.Row Go.Proofs.YtmjkgnlmdcmdbaaDoor.Sets Go.Proofs.YtmjkgnlmdcmdbaaDoor.Node
set_option linter.unusedVariables false
set_option linter.unusedSimpArgs false
set_option maxRecDepth 100000
/-- what the law asks at its end -/
structure Fin (s gv : Nat) (n : Int) (W : List Nat) : Prop where
  of_ : ofS (Sets.nums W) = gv
  len : (lenS gv : Int) = n
  mi : bits .andNot .u64 (gv : Int) (s : Int) = 0
  lt : gv < 18446744073709551616
  ln : W.length ≤ 64
theorem fin_of (s : Nat) (hs : s < 18446744073709551616) (n : Int) (W : List Nat) (h0 : 0 ≤ n) (h64 : n ≤ 64) (hW : ∀ i ∈ W, i ∈ nodes s) (nd : W.Nodup) (hl : W.length = n.toNat) : Fin s (mk W) n W := by
  obtain ⟨h1, h2, h3, h4⟩ := want_ok s hs W hW nd
  refine ⟨h1, by rw [h2, hl]; omega, ?_, h4, by omega⟩
  rw [minus_val _ _ h4 hs, h3]; rfl
theorem Fin.call {s gv : Nat} {n : Int} {W : List Nat} (h : Fin s gv n W) (A : Option Addr) (k c : Nat) (w : World) (hk : W.length = k) (hr : Rds (Value.int .i64) w A (Sets.nums W)) : Calls Tryd.prog 24 #[.slice A k c] w fun e w' => e = .returned (.int .u64 (gv : Nat)) ∧ w = w' := by
  have h1 := of_any A c (Sets.nums W) w hr (by rw [nums_len]; have := h.ln; omega)
  rw [nums_len, hk, h.of_] at h1
  exact h1
theorem Fin.count {s gv : Nat} {n : Int} {W : List Nat} (h : Fin s gv n W) (w : World) : Calls Tryd.prog 32 #[.int .u64 (gv : Int)] w fun e w' => e = .returned (.int .i64 n) ∧ w = w' := by
  have h1 := len_any gv w h.lt
  rw [h.len] at h1
  exact h1
theorem nums_take (l : List Nat) (k : Nat) : (Sets.nums l).take k = Sets.nums (l.take k) := by simp [Sets.nums, List.map_take]
theorem nums_drop (l : List Nat) (k : Nat) : (Sets.nums l).drop k = Sets.nums (l.drop k) := by simp [Sets.nums, List.map_drop]
theorem rds_drop {w : World} {A : Option Addr} {l : List Int} {c m : Nat} (h : Rds (Value.int .i64) w A l) (hm : m ≤ l.length) (hc : l.length ≤ c) : Rds (Value.int .i64) w (if c = m then A else A.map (·.add (m * 1))) (l.drop m) := fun j hj => by
  rw [List.length_drop] at hj
  obtain ⟨ad, hA, hcell⟩ := h (m + j) (by omega)
  have hne : c ≠ m := by omega
  rw [if_neg hne, hA]
  refine ⟨ad.add (m * 1), rfl, ?_⟩
  rw [add_add, Nat.mul_one, hcell, List.getElem_drop]
theorem near_len (s : Nat) (n : Int) (h1 : 1 ≤ n) (h2 : n ≤ (lenS s : Int)) : (nearW (nodes s) n).length = n.toNat := by
  have key : ∀ j : Nat, j ≤ lenS s → ∃ t, Cl s t (midN (nodes s)) j := by
    intro j
    induction j with
    | zero => exact fun _ => ⟨0, Cl.start s _⟩
    | succ j ih =>
      intro hj
      obtain ⟨t, ht⟩ := ih (by omega)
      have hb : ∀ i, i ≤ (nodes s).length → ∃ b, Bst (nodes s) t (midN (nodes s)) b i := by
        intro i
        induction i with
        | zero => exact fun _ => ⟨-1, Bst.start _ _ _⟩
        | succ i ihi =>
          intro hi
          obtain ⟨b, hb⟩ := ihi (by omega)
          cases hx : t.testBit ((nodes s).getD i 0)
          · by_cases hb0 : b < 0
            · exact ⟨_, hb.first hb0 hx⟩
            · have hbn : ∃ bn : Nat, b = bn := ⟨b.toNat, by omega⟩
              obtain ⟨bn, rfl⟩ := hbn
              by_cases hf : fd (midN (nodes s)) ((nodes s).getD i 0) < fd (midN (nodes s)) bn
              · exact ⟨_, hb.less hx hf⟩
              · exact ⟨_, hb.keep (by omega) hf⟩
          · exact ⟨_, hb.skip hx⟩
      obtain ⟨b, hb2⟩ := hb _ (Nat.le_refl _)
      obtain ⟨bn, _, _, hc⟩ := hb2.done ht (by omega)
      exact ⟨_, hc⟩
  obtain ⟨t, ht⟩ := key n.toNat (by omega)
  exact (near_is s t n (by omega) ht).2.2.2
theorem info_int_some : ∃ i, Tryd.prog.info? 3 = some i ∧ i.size = 1 := by
  obtain ⟨i, hi, hz⟩ := Option.map_eq_some_iff.1 info_int
  simp only [Prod.mk.injEq] at hz
  exact ⟨i, hi, hz.2.1⟩
set_option maxHeartbeats 8000000 in
theorem PickRules_any (r x n : Int) (w : World) (hr : (Lit.int .i64 r).wf = true) (hx : (Lit.int .u64 x).wf = true) (hn : (Lit.int .i64 n).wf = true) (hT : Tab w) :
    Calls Tryd.prog 13 #[.int .i64 r, .int .u64 x, .int .i64 n] w fun e w' => e = .returned (.bool true) ∧ Below w.heap.size w w' := by
  obtain ⟨s, rfl, hs⟩ := u64_out x hx
  have HT := Lib.hid hT
  have HW := Lib.hid (fun W (h : Below w.heap.size w W) => awake38_any W (HT.out.below h HT.out.lt))
  have kl := list_any s w hs hT
  unfold ListIs at kl
  have KLI := Lib.hid kl
  have HSS := Lib.hid hs
  have hL64 := lenS_le s
  have HNL : Hid ((nodes s).length = lenS s) := Lib.hid rfl
  clear hx hn hr hT kl hs
  go_enter Tryd.func13, Tryd.ntmps13
  go_upto_region 3 with (go_at_call 25; refine KLI.out.mono ?_; rintro e w1 ⟨A, c, rfl, hlc, hr, hb⟩; have HR := Lib.hid hr; have HB := Lib.hid hb; clear hr hb KLI)
  obtain ⟨L, hL⟩ : ∃ L, lenS s = L := ⟨_, rfl⟩
  have HLS := Lib.hid hL
  rw [hL] at HNL hL64 hlc ⊢
  clear hL
  by_cases r1 : r < 1
  · have q1 : decide (r < 1) = true := decide_eq_true r1
    have q2 : decide (1 ≤ r) = false := decide_eq_false (by omega)
    have HBAD : Hid (n < 1 ∨ (L : Int) < n ∨ r < 1 ∨ 5 < r) := Lib.hid (.inr (.inr (.inl r1)))
    have KI : Hid (∀ W, Calls Tryd.prog 64 #[.int .i64 r] W fun e w' => e = .returned (.bool false) ∧ W = w') := Lib.hid (fun W => by have h := Is_any r W; rw [q2, Bool.false_and] at h; exact h)
    clear r1
    by_cases n1 : n < 1
    · have e1 : decide (n < 1) = true := decide_eq_true n1
      go_wp2_with (first | (go_at_call 63; refine (Of_none r s n _ HSS.out (by have := HLS.out; have := HBAD.out; omega)).mono ?_; rintro e w2 ⟨rfl, rfl⟩) | (go_at_call 64; refine (KI.out _).mono ?_; rintro e w2 ⟨rfl, rfl⟩) | (go_at_call 65; refine (HW.out _ HB.out).mono ?_; rintro e w9 ⟨rfl, hb⟩; have HB9 := Lib.hid (below_step HB.out hb); clear hb))
      go_ret
      exact ⟨rfl, HB9.out⟩
    · have e1 : decide (n < 1) = false := decide_eq_false n1
      by_cases n2 : (L : Int) < n
      · have e2 : decide ((L : Int) < n) = true := decide_eq_true n2
        go_wp2_with (first | (go_at_call 63; refine (Of_none r s n _ HSS.out (by have := HLS.out; have := HBAD.out; omega)).mono ?_; rintro e w2 ⟨rfl, rfl⟩) | (go_at_call 64; refine (KI.out _).mono ?_; rintro e w2 ⟨rfl, rfl⟩) | (go_at_call 65; refine (HW.out _ HB.out).mono ?_; rintro e w9 ⟨rfl, hb⟩; have HB9 := Lib.hid (below_step HB.out hb); clear hb))
        go_ret
        exact ⟨rfl, HB9.out⟩
      · have e2 : decide ((L : Int) < n) = false := decide_eq_false n2
        go_wp2_with (first | (go_at_call 63; refine (Of_none r s n _ HSS.out (by have := HLS.out; have := HBAD.out; omega)).mono ?_; rintro e w2 ⟨rfl, rfl⟩) | (go_at_call 64; refine (KI.out _).mono ?_; rintro e w2 ⟨rfl, rfl⟩) | (go_at_call 65; refine (HW.out _ HB.out).mono ?_; rintro e w9 ⟨rfl, hb⟩; have HB9 := Lib.hid (below_step HB.out hb); clear hb))
        go_ret
        exact ⟨rfl, HB9.out⟩
  have q1 : decide (r < 1) = false := decide_eq_false r1
  have q2 : decide (1 ≤ r) = true := decide_eq_true (by omega)
  by_cases r5 : 5 < r
  · have q3 : decide (5 < r) = true := decide_eq_true r5
    have q4 : decide (r ≤ 5) = false := decide_eq_false (by omega)
    have HBAD : Hid (n < 1 ∨ (L : Int) < n ∨ r < 1 ∨ 5 < r) := Lib.hid (.inr (.inr (.inr r5)))
    have KI : Hid (∀ W, Calls Tryd.prog 64 #[.int .i64 r] W fun e w' => e = .returned (.bool false) ∧ W = w') := Lib.hid (fun W => by have h := Is_any r W; rw [q4, Bool.and_false] at h; exact h)
    clear r1 r5
    by_cases n1 : n < 1
    · have e1 : decide (n < 1) = true := decide_eq_true n1
      go_wp2_with (first | (go_at_call 63; refine (Of_none r s n _ HSS.out (by have := HLS.out; have := HBAD.out; omega)).mono ?_; rintro e w2 ⟨rfl, rfl⟩) | (go_at_call 64; refine (KI.out _).mono ?_; rintro e w2 ⟨rfl, rfl⟩) | (go_at_call 65; refine (HW.out _ HB.out).mono ?_; rintro e w9 ⟨rfl, hb⟩; have HB9 := Lib.hid (below_step HB.out hb); clear hb))
      go_ret
      exact ⟨rfl, HB9.out⟩
    · have e1 : decide (n < 1) = false := decide_eq_false n1
      by_cases n2 : (L : Int) < n
      · have e2 : decide ((L : Int) < n) = true := decide_eq_true n2
        go_wp2_with (first | (go_at_call 63; refine (Of_none r s n _ HSS.out (by have := HLS.out; have := HBAD.out; omega)).mono ?_; rintro e w2 ⟨rfl, rfl⟩) | (go_at_call 64; refine (KI.out _).mono ?_; rintro e w2 ⟨rfl, rfl⟩) | (go_at_call 65; refine (HW.out _ HB.out).mono ?_; rintro e w9 ⟨rfl, hb⟩; have HB9 := Lib.hid (below_step HB.out hb); clear hb))
        go_ret
        exact ⟨rfl, HB9.out⟩
      · have e2 : decide ((L : Int) < n) = false := decide_eq_false n2
        go_wp2_with (first | (go_at_call 63; refine (Of_none r s n _ HSS.out (by have := HLS.out; have := HBAD.out; omega)).mono ?_; rintro e w2 ⟨rfl, rfl⟩) | (go_at_call 64; refine (KI.out _).mono ?_; rintro e w2 ⟨rfl, rfl⟩) | (go_at_call 65; refine (HW.out _ HB.out).mono ?_; rintro e w9 ⟨rfl, hb⟩; have HB9 := Lib.hid (below_step HB.out hb); clear hb))
        go_ret
        exact ⟨rfl, HB9.out⟩
  have q3 : decide (5 < r) = false := decide_eq_false r5
  have q4 : decide (r ≤ 5) = true := decide_eq_true (by omega)
  have KI : Hid (∀ W, Calls Tryd.prog 64 #[.int .i64 r] W fun e w' => e = .returned (.bool true) ∧ W = w') := Lib.hid (fun W => by have h := Is_any r W; rw [q2, q4, Bool.and_true] at h; exact h)
  by_cases n1 : n < 1
  · have e1 : decide (n < 1) = true := decide_eq_true n1
    have HBAD : Hid (n < 1 ∨ (L : Int) < n ∨ r < 1 ∨ 5 < r) := Lib.hid (.inl n1)
    clear r1 r5 n1
    go_wp2_with (first | (go_at_call 63; refine (Of_none r s n _ HSS.out (by have := HLS.out; have := HBAD.out; omega)).mono ?_; rintro e w2 ⟨rfl, rfl⟩) | (go_at_call 64; refine (KI.out _).mono ?_; rintro e w2 ⟨rfl, rfl⟩) | (go_at_call 65; refine (HW.out _ HB.out).mono ?_; rintro e w9 ⟨rfl, hb⟩; have HB9 := Lib.hid (below_step HB.out hb); clear hb))
    go_ret
    exact ⟨rfl, HB9.out⟩
  have e1 : decide (n < 1) = false := decide_eq_false n1
  by_cases n2 : (L : Int) < n
  · have e2 : decide ((L : Int) < n) = true := decide_eq_true n2
    have HBAD : Hid (n < 1 ∨ (L : Int) < n ∨ r < 1 ∨ 5 < r) := Lib.hid (.inr (.inl n2))
    clear r1 r5 n1 n2
    go_wp2_with (first | (go_at_call 63; refine (Of_none r s n _ HSS.out (by have := HLS.out; have := HBAD.out; omega)).mono ?_; rintro e w2 ⟨rfl, rfl⟩) | (go_at_call 64; refine (KI.out _).mono ?_; rintro e w2 ⟨rfl, rfl⟩) | (go_at_call 65; refine (HW.out _ HB.out).mono ?_; rintro e w9 ⟨rfl, hb⟩; have HB9 := Lib.hid (below_step HB.out hb); clear hb))
    go_ret
    exact ⟨rfl, HB9.out⟩
  have e2 : decide ((L : Int) < n) = false := decide_eq_false n2
  have HN1 : Hid (1 ≤ n ∧ n ≤ (lenS s : Int) ∧ n ≤ 64) := Lib.hid ⟨by omega, by rw [HLS.out]; omega, by omega⟩
  have HT1 := Lib.hid (HT.out.below HB.out HT.out.lt)
  have hrr : r = 1 ∨ r = 2 ∨ r = 3 ∨ r = 4 ∨ r = 5 := by omega
  have hAs : ∃ ad, A = some ad := by
    obtain ⟨ad, e, _⟩ := rdsI_at HR.out 0 (by have := HN1.out; have := HLS.out; have := HNL.out; omega)
    exact ⟨ad, e⟩
  have KFI := Lib.hid (fun W => first38_any A L c n W (by have := HN1.out; omega) (by have := HN1.out; have := HLS.out; omega) hlc (fun _ => hAs))
  have HFA : Hid (firstS s n = mk ((nodes s).take n.toNat)) := Lib.hid (by unfold firstS; rw [if_neg (by have := HN1.out; omega)])
  have HF1 : Hid (Fin s (firstS s n) n ((nodes s).take n.toNat)) := Lib.hid (by
    rw [HFA.out]
    exact fin_of s HSS.out n _ (by have := HN1.out; omega) HN1.out.2.2 (fun i hi => List.mem_of_mem_take hi) ((nodes_nd s).sublist (List.take_sublist _ _)) (by rw [List.length_take, HNL.out]; have := HN1.out; have := HLS.out; omega))
  have KO1 : Hid (∀ W, Below w1.heap.size w1 W → Calls Tryd.prog 24 #[.slice A n.toNat c] W fun e w' => e = .returned (.int .u64 (firstS s n : Nat)) ∧ W = w') := Lib.hid (fun W hW => HF1.out.call A n.toNat c W (by rw [List.length_take, HNL.out]; have := HN1.out; have := HLS.out; omega) (by rw [← nums_take]; exact (HR.out.below hW).take _))
  clear hAs
  rcases hrr with h | h | h | h | h
  · subst h
    clear q1 q2 q3 q4 r1 r5 n1 n2
    have KF := Lib.hid (Of_low s n w1 HSS.out HT1.out HN1.out.1 HN1.out.2.1)
    have HF := HF1
    have KO := KO1
    have mv := HF.out.mi
    clear HF1 KO1 HFA
    generalize firstS s n = gv at KF HF KO mv
    go_wp2_with (first | (go_at_call 63; refine KF.out.mono ?_; rintro e w2 ⟨rfl, rfl⟩) | (go_at_call 64; refine (KI.out _).mono ?_; rintro e w2 ⟨rfl, rfl⟩) | (go_at_call 66; refine (KFI.out _).mono ?_; rintro e w3 ⟨rfl, rfl⟩) | (go_at_call 24; refine (KO.out _ (Below.refl _ _)).mono ?_; rintro e w5 ⟨rfl, rfl⟩) | (go_at_call 32; refine (HF.out.count _).mono ?_; rintro e w6 ⟨rfl, rfl⟩) | (go_at_call 65; refine (HW.out _ HB.out).mono ?_; rintro e w9 ⟨rfl, hb⟩; have HB9 := Lib.hid (below_step HB.out hb); clear hb))
    go_ret
    exact ⟨rfl, HB9.out⟩
  · subst h
    obtain ⟨d, hd⟩ : ∃ d : Nat, (L : Int) - n = (d : Int) := ⟨((L : Int) - n).toNat, by omega⟩
    obtain ⟨i0, hi0, hz0⟩ := info_int_some
    have hcut : ∀ W, (Instr.slice 30 (.slice A L c) (some (.int .i64 (d : Int))) none none).run Tryd.prog W = .ok (.slice (if c = d then A else A.map (·.add (d * 1))) (L - d) (c - d)) W := by
      have h := cut_from (P := Tryd.prog) 30 3 .i64 Tryd.underlying30 hi0 1 hz0 A L c (d : Int) (by omega) (by omega)
      rw [Int.toNat_natCast] at h
      exact h
    have hdn : L - n.toNat = d := by omega
    have HHP : Hid (highP s n = mk ((nodes s).drop d)) := Lib.hid (by unfold highP; rw [HLS.out, hdn])
    have HF : Hid (Fin s (highP s n) n ((nodes s).drop d)) := Lib.hid (by
      rw [HHP.out]
      exact fin_of s HSS.out n _ (by have := HN1.out; omega) HN1.out.2.2 (fun i hi => List.mem_of_mem_drop hi) ((nodes_nd s).sublist (List.drop_sublist _ _)) (by rw [List.length_drop, HNL.out]; omega))
    have KO : Hid (Calls Tryd.prog 24 #[.slice (if c = d then A else A.map (·.add (d * 1))) (L - d) (c - d)] w1 fun e w' => e = .returned (.int .u64 (highP s n : Nat)) ∧ w1 = w') := Lib.hid (HF.out.call _ (L - d) (c - d) w1 (by rw [List.length_drop, HNL.out]) (by rw [← nums_drop]; exact rds_drop HR.out (by rw [nums_len, HNL.out]; omega) (by rw [nums_len, HNL.out]; exact hlc)))
    generalize (if c = d then A else A.map (·.add (d * 1))) = A2 at hcut KO
    have KF := Lib.hid (Of_high s n w1 HSS.out HT1.out HN1.out.1 HN1.out.2.1)
    have WD := wrapC hd (by omega) (by omega)
    have mv := HF.out.mi
    have wd1 := WD.1
    have wd2 := WD.2
    clear q1 q2 q3 q4 r1 r5 n1 n2 HF1 KO1 HFA HHP WD hd hdn hi0 hz0
    generalize highP s n = gv at KF HF KO mv
    go_wp2_with (first | (go_at_call 63; refine KF.out.mono ?_; rintro e w2 ⟨rfl, rfl⟩) | (go_at_call 64; refine (KI.out _).mono ?_; rintro e w2 ⟨rfl, rfl⟩) | (go_at_call 66; refine (KFI.out _).mono ?_; rintro e w3 ⟨rfl, rfl⟩) | (go_at_call 24; refine KO.out.mono ?_; rintro e w5 ⟨rfl, rfl⟩) | (go_at_call 32; refine (HF.out.count _).mono ?_; rintro e w6 ⟨rfl, rfl⟩) | (go_at_call 65; refine (HW.out _ HB.out).mono ?_; rintro e w9 ⟨rfl, hb⟩; have HB9 := Lib.hid (below_step HB.out hb); clear hb))
    go_ret
    exact ⟨rfl, HB9.out⟩
  · subst h
    obtain ⟨nn, rfl⟩ : ∃ nn : Nat, n = (nn : Int) := ⟨n.toNat, by omega⟩
    have hnn : ((nn : Int)).toNat = nn := Int.toNat_natCast nn
    have e2n : decide (L < nn) = false := decide_eq_false (by omega)
    have e1n : decide (nn < 1) = false := decide_eq_false (by omega)
    have e3n : decide (nn = 0) = false := decide_eq_false (by omega)
    have KF := Lib.hid (Of_row s nn w1 HSS.out HT1.out HN1.out.1 HN1.out.2.1)
    clear q1 q2 q3 q4 r1 r5 n1 n2 HFA
    go_upto_region 4 with (go_at_call 63; refine KF.out.mono ?_; rintro e w2 ⟨Lr, hro, hle, rfl, hb⟩; have HRO := Lib.hid hro; have HLE := Lib.hid hle; have HB2 := Lib.hid hb; clear hro hle; (have n_ := Lib.hid (below_step HB.out hb)); clear HB hb; have HB := n_; clear n_)
    have kt := tight38_any A L c (nodes s) nn w2 (HR.out.below HB2.out) HNL.out hL64 (nodes_at_lt s)
    rw [rows_settled Lr (nodes s) HRO.out] at kt
    have hp := rowPick_tgt s nn Lr HRO.out HLE.out HN1.out.1
    clear KF
    cases hb : tgtB Lr nn
    case false =>
      rw [hb] at kt
      have KT := Lib.hid kt
      have HPE := Lib.hid (hp.1 hb)
      have HF := HF1
      have KO := KO1
      rw [← HPE.out] at HF KO
      have mv := HF.out.mi
      clear kt hp hb HF1 KO1 hnn HPE HRO HLE
      generalize rowPick s nn Lr = gv at HF KO mv ⊢
      generalize tgtV Lr nn = tv at KT
      go_wp2_with (first | (go_at_call 64; refine (KI.out _).mono ?_; rintro e w2 ⟨rfl, rfl⟩) | (go_at_call 66; refine (KFI.out _).mono ?_; rintro e w3 ⟨rfl, rfl⟩) | (go_at_call 67; refine KT.out.mono ?_; rintro e w4 ⟨rfl, hb⟩; have HB4 := Lib.hid (below_step HB2.out hb); (have n_ := Lib.hid (below_step HB.out hb)); clear HB hb; have HB := n_; clear n_) | (go_at_call 24; refine (KO.out _ HB4.out).mono ?_; rintro e w5 ⟨rfl, rfl⟩) | (go_at_call 32; refine (HF.out.count _).mono ?_; rintro e w6 ⟨rfl, rfl⟩) | (go_at_call 65; refine (HW.out _ HB.out).mono ?_; rintro e w9 ⟨rfl, hb⟩; have HB9 := Lib.hid (below_step HB.out hb); clear hb))
      go_ret
      exact ⟨rfl, HB9.out⟩
    case true =>
      obtain ⟨a, hv, ha64, hsub, hpick⟩ := hp.2 hb
      rw [hb, hv] at kt
      rw [hnn] at ha64 hsub hpick
      have KT := Lib.hid kt
      have HF : Hid (Fin s (rowPick s nn Lr) nn (List.range' a nn)) := Lib.hid (by
        rw [hpick]
        exact fin_of s HSS.out nn _ (by omega) HN1.out.2.2 hsub (List.nodup_range') (by rw [List.length_range', hnn]))
      have mv := HF.out.mi
      clear kt hp hb HF1 KO1 hnn hv hsub hpick HRO HLE
      generalize rowPick s nn Lr = gv at HF mv ⊢
      go_upto_region 16 with (first | (go_at_call 64; refine (KI.out _).mono ?_; rintro e w2 ⟨rfl, rfl⟩) | (go_at_call 66; refine (KFI.out _).mono ?_; rintro e w3 ⟨rfl, rfl⟩) | (go_at_call 67; refine KT.out.mono ?_; rintro e w4 ⟨rfl, hb⟩; have HB4 := Lib.hid (below_step HB2.out hb); (have n_ := Lib.hid (below_step HB.out hb)); clear HB hb; have HB := n_; clear n_))
      have HO0 : Hid (Kd.R (Kd.int .i64) 3 w4 w.heap.size (fun _ => True) (.slice none 0 0) (Sets.nums (List.range' a 0))) := Lib.hid (Kd.R_nil _ _ _ _ _)
      have HB0 := Lib.hid HB.out
      clear mv HB
      go_wp2
      go_loopg [11, 14] (nn + 1) (fun kq v11 v14 w' => ∃ k : Nat, v14 = .int .i64 k ∧ Aside0 (k + kq = nn + 1 ∧ 1 ≤ kq) ∧ Aside0 (Kd.R (Kd.int .i64) 3 w' w.heap.size (fun _ => True) v11 (Sets.nums (List.range' a k))) ∧ Aside0 (Below w.heap.size w w'))
      case atStart => exact ⟨0, rfl, ⟨by omega, by omega⟩, ⟨HO0.out⟩, ⟨HB0.out⟩⟩
      case round =>
        clear HO0 HB0
        obtain ⟨k, rfl, HK, HO, HB⟩ := hrel
        obtain ⟨k2, rfl⟩ : ∃ k2, gk = k2 + 1 := ⟨gk - 1, by have := HK.out; omega⟩
        by_cases ck : k < nn
        · have b1 : decide ((k : Int) < (nn : Int)) = true := decide_eq_true (by omega)
          have b2 : decide (k < nn) = true := decide_eq_true ck
          have HRG : Hid (Sets.nums (List.range' a (k + 1)) = Sets.nums (List.range' a k) ++ [(a : Int) + (k : Int)]) := Lib.hid (by rw [range_snoc, nums_snoc, Int.natCast_add])
          have HLR : Hid ((Sets.nums (List.range' a k)).length ≤ 64) := Lib.hid (by rw [nums_len, List.length_range']; omega)
          go_wp2_with ((with_reducible refine gate_builtin (b := .append) (xs := #[.tmp 85, .tmp 89]) rfl ?_); at_builtin; go_loud (refine Kd.R_append (Kd.int .i64) (w0 := w) w.heap.size rfl (.tmp 85) (.tmp 89) 30 3 (.int .i64 0) 8 rfl Tryd.underlying30 info_int rfl (by decide) (by omega) _ (Sets.nums (List.range' a k)) ((a : Int) + (k : Int)) [.int .i64 ((a : Int) + (k : Int))] (fun _ => True) (fun _ => False) rfl rfl ?aP (fun _ hk => hk.elim) ?aF ?aO ?aB ?aS ?aL ?_); (case aP => exact rfl); (case aB => exact HB.out); (case aF => exact (fun _ _ => trivial)); (case aO => exact HO.out); (case aS => exact HB.out.size); (case aL => have := HLR.out; omega); intro v113 w6 ho hb hg hat; have HO6 := Lib.hid ho; have HB6 := Lib.hid hb; clear ho hb hg hat)
          go_roundg k2
          case measure => have := HK.out; omega
          case rel => exact ⟨k + 1, by go_num, ⟨by have := HK.out; omega, by have := HK.out; omega⟩, ⟨by rw [HRG.out]; exact HO6.out⟩, ⟨HB6.out⟩⟩
        · obtain rfl : k = nn := by have := HK.out; omega
          have b1 : decide ((k : Int) < (k : Int)) = false := decide_eq_false (by omega)
          have b2 : decide (k < k) = false := decide_eq_false ck
          obtain ⟨A4, c4, hv4, hc4, hC4⟩ := Kd.R_reads HO.out
          rw [nums_len, List.length_range'] at hv4
          subst hv4
          have HC4 := Lib.hid (Rds.ofC hC4)
          have mv := HF.out.mi
          clear ck hc4 hC4
          go_wp2_with (first | (go_at_call 24; go_loud (refine (HF.out.call A4 k c4 _ (by rw [List.length_range']) HC4.out).mono ?_); rintro e w5 ⟨rfl, rfl⟩) | (go_at_call 32; refine (HF.out.count _).mono ?_; rintro e w6 ⟨rfl, rfl⟩) | (go_at_call 65; refine (HW.out _ HB.out).mono ?_; rintro e w9 ⟨rfl, hb⟩; have HB9 := Lib.hid (below_step HB.out hb); clear hb))
          go_ret
          exact ⟨rfl, HB9.out⟩
  · subst h
    have KF := Lib.hid (Of_apart s n w1 HSS.out HT1.out HN1.out.1 HN1.out.2.1)
    obtain ⟨ha, hnd, hsub, hlen⟩ := apartS_is s n HN1.out.1 HN1.out.2.1
    rw [ha] at KF
    have HF : Hid (Fin s (mk (apW (nodes s) n)) n (apW (nodes s) n)) := Lib.hid (fin_of s HSS.out n _ (by have := HN1.out; omega) HN1.out.2.2 hsub hnd hlen)
    have mv := HF.out.mi
    have HWL := Lib.hid hlen
    clear q1 q2 q3 q4 r1 r5 n1 n2 HF1 KO1 HFA hnd hsub hlen ha
    generalize hgv : mk (apW (nodes s) n) = gv at KF HF mv
    clear hgv
    go_upto_region 4 with (go_at_call 63; refine KF.out.mono ?_; rintro e w2 ⟨rfl, hb⟩; have HB2 := Lib.hid hb; (have n_ := Lib.hid (below_step HB.out hb)); clear HB hb; have HB := n_; clear n_)
    have KLW := Lib.hid (apart38_law A L c (nodes s) n w2 (HR.out.below HB2.out) HNL.out hL64 (nodes_at_lt s) HN1.out.1 HN1.out.2.2)
    go_wp2_with (first | (go_at_call 64; refine (KI.out _).mono ?_; rintro e w2 ⟨rfl, rfl⟩) | (go_at_call 66; refine (KFI.out _).mono ?_; rintro e w3 ⟨rfl, rfl⟩) | (go_at_call 68; go_loud (refine KLW.out.mono ?_); rintro e w4 ⟨v4, rfl, hv, hb⟩; (obtain ⟨A4, c4, hv4, hc4, hC4⟩ := Kd.R_reads hv); rw [nums_len, HWL.out] at hv4; subst hv4; have HC4 := Lib.hid (Rds.ofC hC4); clear hv hC4 hc4; (have n_ := Lib.hid (below_step HB.out hb)); clear HB hb; have HB := n_; clear n_) | (go_at_call 24; go_loud (refine (HF.out.call A4 n.toNat c4 _ HWL.out HC4.out).mono ?_); rintro e w5 ⟨rfl, rfl⟩) | (go_at_call 32; refine (HF.out.count _).mono ?_; rintro e w6 ⟨rfl, rfl⟩) | (go_at_call 65; refine (HW.out _ HB.out).mono ?_; rintro e w9 ⟨rfl, hb⟩; have HB9 := Lib.hid (below_step HB.out hb); clear hb))
    go_ret
    exact ⟨rfl, HB9.out⟩
  · subst h
    have KF := Lib.hid (Of_near s n w1 HSS.out HT1.out HN1.out.1 HN1.out.2.1)
    have hfilt : (nearW (nodes s) n).Nodup ∧ (∀ i ∈ nearW (nodes s) n, i ∈ nodes s) := ⟨List.Pairwise.filter _ (nodes_nd s), fun i hi => (List.mem_filter.1 hi).1⟩
    obtain ⟨hnd, hsub⟩ := hfilt
    have hlen := near_len s n HN1.out.1 HN1.out.2.1
    have HF : Hid (Fin s (mk (nearW (nodes s) n)) n (nearW (nodes s) n)) := Lib.hid (fin_of s HSS.out n _ (by have := HN1.out; omega) HN1.out.2.2 hsub hnd hlen)
    have mv := HF.out.mi
    have HWL := Lib.hid hlen
    clear q1 q2 q3 q4 r1 r5 n1 n2 HF1 KO1 HFA hnd hsub hlen
    generalize hgv : mk (nearW (nodes s) n) = gv at KF HF mv
    clear hgv
    go_upto_region 4 with (go_at_call 63; refine KF.out.mono ?_; rintro e w2 ⟨rfl, hb⟩; have HB2 := Lib.hid hb; (have n_ := Lib.hid (below_step HB.out hb)); clear HB hb; have HB := n_; clear n_)
    have KLW := Lib.hid (near38_law A L c (nodes s) n w2 (HR.out.below HB2.out) HNL.out hL64 (nodes_at_lt s) HN1.out.1 (by have := HN1.out; have := HLS.out; omega))
    go_wp2_with (first | (go_at_call 64; refine (KI.out _).mono ?_; rintro e w2 ⟨rfl, rfl⟩) | (go_at_call 66; refine (KFI.out _).mono ?_; rintro e w3 ⟨rfl, rfl⟩) | (go_at_call 69; go_loud (refine KLW.out.mono ?_); rintro e w4 ⟨v4, rfl, hv, hb⟩; (obtain ⟨A4, c4, hv4, hc4, hC4⟩ := Kd.R_reads hv); rw [nums_len, HWL.out] at hv4; subst hv4; have HC4 := Lib.hid (Rds.ofC hC4); clear hv hC4 hc4; (have n_ := Lib.hid (below_step HB.out hb)); clear HB hb; have HB := n_; clear n_) | (go_at_call 24; go_loud (refine (HF.out.call A4 n.toNat c4 _ HWL.out HC4.out).mono ?_); rintro e w5 ⟨rfl, rfl⟩) | (go_at_call 32; refine (HF.out.count _).mono ?_; rintro e w6 ⟨rfl, rfl⟩) | (go_at_call 65; refine (HW.out _ HB.out).mono ?_; rintro e w9 ⟨rfl, hb⟩; have HB9 := Lib.hid (below_step HB.out hb); clear hb))
    go_ret
    exact ⟨rfl, HB9.out⟩
end Go.Proofs.YtmjkgnlmdcmdbaaDoor.Pick
