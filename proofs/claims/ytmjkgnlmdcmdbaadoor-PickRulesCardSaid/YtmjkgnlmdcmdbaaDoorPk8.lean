/- pick.near: the walk. -/
import Derived.Test.YtmjkgnlmdcmdbaaDoorPk7
namespace Go.Proofs.YtmjkgnlmdcmdbaaDoor.Pick
open Go.RowKit Go.Proofs.YtmjkgnlmdcmdbaaDoorW.PrintWords Go.Proofs.YtmjkgnlmdcmdbaaDoorW.PrintLast Go.Proofs.YtmjkgnlmdcmdbaaDoorW.PrintMore Go.Proofs.YtmjkgnlmdcmdbaaDoor.Row Go.Proofs.YtmjkgnlmdcmdbaaDoor.Sets
set_option linter.unusedVariables false
set_option linter.unusedSimpArgs false
set_option maxRecDepth 100000
/-- the best of the first so many that are not taken -/
def Bst (l : List Nat) (t m : Nat) (b : Int) (i : Nat) : Prop := (b = -1 ∧ ∀ k, k < i → t.testBit (l.getD k 0) = true) ∨ ∃ bn : Nat, b = bn ∧ t.testBit bn = false ∧ (∃ k, k < i ∧ l.getD k 0 = bn) ∧ ∀ k, k < i → t.testBit (l.getD k 0) = false → bn = l.getD k 0 ∨ ltN m bn (l.getD k 0) = true
theorem ltN_def (m a b : Nat) : ltN m a b = true ↔ (fd m a < fd m b ∨ fd m a = fd m b ∧ a < b) := by unfold ltN; exact ⟨of_decide_eq_true, decide_eq_true⟩
theorem rise_at (s i k : Nat) (hi : i < (nodes s).length) (hk : k < i) : (nodes s).getD k 0 < (nodes s).getD i 0 := by
  rw [List.getD_eq_getElem?_getD, List.getElem?_eq_getElem (by omega), List.getD_eq_getElem?_getD, List.getElem?_eq_getElem hi]
  exact List.pairwise_iff_getElem.1 (nodes_rise s) k i (by omega) hi hk
theorem Bst.start (l : List Nat) (t m : Nat) : Bst l t m (-1) 0 := .inl ⟨rfl, fun k hk => by omega⟩
theorem Bst.skip {l : List Nat} {t m : Nat} {b : Int} {i : Nat} (h : Bst l t m b i) (hx : t.testBit (l.getD i 0) = true) : Bst l t m b (i + 1) := by
  rcases h with ⟨h1, h2⟩ | ⟨bn, h1, h2, ⟨k0, hk0, e0⟩, h4⟩
  · refine .inl ⟨h1, fun k hk => ?_⟩
    by_cases hki : k = i
    · rw [hki]; exact hx
    · exact h2 k (by omega)
  · refine .inr ⟨bn, h1, h2, ⟨k0, by omega, e0⟩, fun k hk hf => ?_⟩
    by_cases hki : k = i
    · rw [hki, hx] at hf; cases hf
    · exact h4 k (by omega) hf
theorem Bst.first {l : List Nat} {t m : Nat} {b : Int} {i : Nat} (h : Bst l t m b i) (hb : b < 0) (hx : t.testBit (l.getD i 0) = false) : Bst l t m (l.getD i 0 : Nat) (i + 1) := by
  rcases h with ⟨h1, h2⟩ | ⟨bn, h1, _⟩
  · refine .inr ⟨_, rfl, hx, ⟨i, by omega, rfl⟩, fun k hk hf => ?_⟩
    by_cases hki : k = i
    · rw [hki]; exact .inl rfl
    · rw [h2 k (by omega)] at hf; cases hf
  · omega
theorem Bst.less {l : List Nat} {t m bn i : Nat} (h : Bst l t m bn i) (hx : t.testBit (l.getD i 0) = false) (hf : fd m (l.getD i 0) < fd m bn) : Bst l t m (l.getD i 0 : Nat) (i + 1) := by
  rcases h with ⟨h1, h2⟩ | ⟨b2, h1, h2, _, h4⟩
  · omega
  · obtain rfl : bn = b2 := by omega
    refine .inr ⟨_, rfl, hx, ⟨i, by omega, rfl⟩, fun k hk hfr => ?_⟩
    by_cases hki : k = i
    · rw [hki]; exact .inl rfl
    · right
      rw [ltN_def]
      rcases h4 k (by omega) hfr with h5 | h5
      · rw [← h5]; omega
      · rw [ltN_def] at h5; omega
theorem Bst.keep {s t m bn i : Nat} (h : Bst (nodes s) t m bn i) (hi : i < (nodes s).length) (hf : ¬ fd m ((nodes s).getD i 0) < fd m bn) : Bst (nodes s) t m bn (i + 1) := by
  rcases h with ⟨h1, h2⟩ | ⟨b2, h1, h2, ⟨k0, hk0, e0⟩, h4⟩
  · omega
  · obtain rfl : bn = b2 := by omega
    refine .inr ⟨_, rfl, h2, ⟨k0, by omega, e0⟩, fun k hk hfr => ?_⟩
    by_cases hki : k = i
    · right
      have := rise_at s i k0 hi hk0
      rw [e0] at this
      rw [hki, ltN_def]; omega
    · exact h4 k (by omega) hfr
theorem Bst.done {s t m j : Nat} {b : Int} (h : Bst (nodes s) t m b (nodes s).length) (hc : Cl s t m j) (hj : j < lenS s) : ∃ bn : Nat, b = bn ∧ bn < 64 ∧ Cl s (withS t (bn : Int)) m (j + 1) := by
  have at_ : ∀ y ∈ nodes s, ∃ k, k < (nodes s).length ∧ (nodes s).getD k 0 = y := fun y hy => by
    obtain ⟨k, hk, e⟩ := List.mem_iff_getElem.1 hy
    exact ⟨k, hk, by rw [List.getD_eq_getElem?_getD, List.getElem?_eq_getElem hk]; exact e⟩
  rcases h with ⟨h1, h2⟩ | ⟨bn, h1, h2, ⟨k0, hk0, e0⟩, h4⟩
  · obtain ⟨y, hy, hf⟩ := hc.free hj
    obtain ⟨k, hk, e⟩ := at_ y hy
    have := h2 k hk
    rw [e, hf] at this; cases this
  · have hm : bn ∈ nodes s := by
      rw [← e0, List.getD_eq_getElem?_getD, List.getElem?_eq_getElem hk0]; exact List.getElem_mem _
    refine ⟨bn, h1, nodes_lt s bn hm, hc.step hm h2 fun y hy hf => ?_⟩
    obtain ⟨k, hk, e⟩ := at_ y hy
    have := h4 k hk (by rw [e]; exact hf)
    rw [e] at this; exact this
set_option maxHeartbeats 8000000 in
theorem near_pick (s : Nat) (n : Int) (w : World) (hs : s < 18446744073709551616) (hT : Tab w) (h1 : 1 ≤ n) (h2 : n ≤ (lenS s : Int)) :
    Calls Tryd.prog 106 #[.int .u64 (s : Int), .int .i64 n] w fun e w' => e = .returned (.int .u64 (mk (nearW (nodes s) n) : Nat)) ∧ Below w.heap.size w w' := by
  have kl := list_any s w hs hT
  unfold ListIs at kl
  have KLI := Lib.hid kl
  have hL64 := lenS_le s
  have HMID : Hid (midN (nodes s) = (nodes s).getD ((lenS s - 1) / 2) 0) := Lib.hid rfl
  have HNL : Hid ((nodes s).length = lenS s) := Lib.hid rfl
  have HFIN : Hid (∀ t, Cl s t (midN (nodes s)) n.toNat → t = mk (nearW (nodes s) n)) := Lib.hid (fun t h => (near_is s t n (by omega) h).1)
  obtain ⟨L, hL⟩ : ∃ L, lenS s = L := ⟨_, rfl⟩
  have HLS := Lib.hid hL
  rw [hL] at KLI HMID HNL h2 hL64
  obtain ⟨nn, rfl⟩ : ∃ nn : Nat, n = (nn : Int) := ⟨n.toNat, by omega⟩
  rw [Int.toNat_natCast] at HFIN
  clear kl hL hT hs
  go_enter Tryd.func106, Tryd.ntmps106
  go_upto_region 2 with (go_at_call 25; refine KLI.out.mono ?_; rintro e w1 ⟨A, c, rfl, hlc, hr, hb⟩; have HR := Lib.hid hr; have HB := Lib.hid hb; clear hr hb KLI)
  obtain ⟨mi, hmi⟩ : ∃ mi, (L - 1) / 2 = mi := ⟨_, rfl⟩
  have hmiL : mi < L := by omega
  obtain ⟨ad, hA, hcm⟩ := rdsI_at HR.out mi (by rw [HNL.out]; exact hmiL)
  subst hA
  have hmid : (nodes s).getD mi 0 = midN (nodes s) := by rw [HMID.out, hmi]
  rw [hmid] at hcm
  have hm64 : midN (nodes s) < 64 := by rw [← hmid]; exact nodes_at_lt s mi
  have x2 : (0 ≤ (mi : Int) ∧ (mi : Int) < (L : Int)) = True := eq_true ⟨by omega, by omega⟩
  have y2 : ((mi : Int) < (L : Int)) = True := eq_true (by omega)
  have xm : ((mi : Int)).toNat = mi := by omega
  have q1 : Int.tdiv ((L - 1 : Nat) : Int) 2 = (mi : Int) := by rw [Int.tdiv_eq_ediv_of_nonneg (by omega)]; omega
  have W1 := wrapC (show (L : Int) - 1 = ((L - 1 : Nat) : Int) by omega) (by omega) (by omega)
  have W2 := wrapC (show (mi : Int) = (mi : Int) from rfl) (by omega) (by omega)
  have w1a := W1.1
  have w1b := W1.2
  have w2a := W2.1
  have w2b := W2.2
  clear W1 W2 hmi hmid HMID
  generalize midN (nodes s) = m at hcm hm64 HFIN
  go_upto_region 3 with fail
  clear w1a w1b w2a w2b q1 x2 y2 xm hcm hmiL
  go_wp2
  go_loopg [7] (nn + 1) (fun kq v7 w' => ∃ (j t : Nat), v7 = .int .u64 t ∧ Aside0 (j + kq = nn + 1 ∧ 1 ≤ kq) ∧ Aside0 (Cl s t m j) ∧ Aside0 (w1 = w'))
  case atStart => exact ⟨0, 0, rfl, ⟨by omega, by omega⟩, ⟨Cl.start s m⟩, ⟨rfl⟩⟩
  case round =>
    obtain ⟨j, t, rfl, HJ, HC, HW⟩ := hrel
    obtain ⟨wo, rfl⟩ : ∃ x, x = wr := ⟨_, rfl⟩
    have hww := HW.out
    subst hww
    obtain ⟨k1, rfl⟩ : ∃ k1, gk = k1 + 1 := ⟨gk - 1, by have := HJ.out; omega⟩
    have kl := len_any t w1 HC.out.lt
    rw [HC.out.len] at kl
    have KL := Lib.hid kl
    clear kl
    by_cases cj : j < nn
    · have b1 : decide ((j : Int) < (nn : Int)) = true := decide_eq_true (by omega)
      have b2 : decide (j < nn) = true := decide_eq_true cj
      have HS0 : Hid (Bst (nodes s) t m (-1) 0) := Lib.hid (Bst.start _ _ _)
      have HJL : Hid (j < lenS s) := Lib.hid (by rw [HLS.out]; omega)
      go_wp2_with (go_at_call 32; refine KL.out.mono ?_; rintro e w2 ⟨rfl, rfl⟩)
      go_loopg [8, 26] (L + 1) (fun kq v8 v26 w' => ∃ (i : Nat) (b : Int), v8 = .int .i64 b ∧ v26 = .int .i64 i ∧ Aside0 (i + kq = L + 1 ∧ 1 ≤ kq) ∧ Aside0 (Bst (nodes s) t m b i) ∧ Aside0 (w1 = w'))
      case atStart => exact ⟨0, -1, rfl, rfl, ⟨by omega, by omega⟩, ⟨HS0.out⟩, ⟨rfl⟩⟩
      case round =>
        clear HS0
        obtain ⟨i, b, rfl, rfl, HI, HBS, HW2⟩ := hrel
        have hww := HW2.out
        subst hww
        obtain ⟨k2, rfl⟩ : ∃ k2, gk = k2 + 1 := ⟨gk - 1, by have := HI.out; omega⟩
        by_cases ci : i < L
        · have d1 : decide ((i : Int) < (L : Int)) = true := decide_eq_true (by omega)
          have d2 : decide (i < L) = true := decide_eq_true ci
          have x0 : (0 ≤ (i : Int) ∧ (i : Int) < (L : Int)) = True := eq_true ⟨by omega, by omega⟩
          have y0 : ((i : Int) < (L : Int)) = True := eq_true (by omega)
          have xt : ((i : Int)).toNat = i := by omega
          have f1 : w1.cell? (ad.add i) = some (.int .i64 ((nodes s).getD i 0 : Nat)) := rdsI_val HR.out i _ ⟨by rw [HNL.out]; exact ci, rfl⟩
          have HX64 := Lib.hid (nodes_at_lt s i)
          have HSK := Lib.hid (fun h => HBS.out.skip (i := i) h)
          have HFI := Lib.hid (fun h1 h2 => HBS.out.first (i := i) h1 h2)
          have HLE : Hid (∀ bn : Nat, b = bn → t.testBit ((nodes s).getD i 0) = false → fd m ((nodes s).getD i 0) < fd m bn → Bst (nodes s) t m ((nodes s).getD i 0 : Nat) (i + 1)) := Lib.hid (fun bn e h1 h2 => by have h := HBS.out; rw [e] at h; exact h.less h1 h2)
          have HKE : Hid (∀ bn : Nat, b = bn → ¬ fd m ((nodes s).getD i 0) < fd m bn → Bst (nodes s) t m b (i + 1)) := Lib.hid (fun bn e h2 => by have h := HBS.out; rw [e] at h ⊢; exact h.keep (by rw [HNL.out]; exact ci) h2)
          have HBF : Hid (b < 0 ∨ ∃ bn : Nat, b = bn ∧ bn < 64) := Lib.hid (by
            rcases HBS.out with ⟨h1, _⟩ | ⟨bn, h1, _, ⟨k0, _, e0⟩, _⟩
            · left; omega
            · right; exact ⟨bn, h1, by rw [← e0]; exact nodes_at_lt s k0⟩)
          generalize (nodes s).getD i 0 = x at f1 HX64 HSK HFI HLE HKE
          have KH0 := has_any t (x : Int) w1 HC.out.lt
          rw [hasS_at t x HX64.out] at KH0
          obtain ⟨q, hq⟩ : ∃ q, t.testBit x = q := ⟨_, rfl⟩
          rw [hq] at KH0
          have HQ := Lib.hid hq
          have KH := Lib.hid KH0
          clear KH0 hq
          cases q with
          | true =>
            have HN := Lib.hid (HSK.out HQ.out)
            clear HSK HFI HLE HKE HBF
            go_wp2_with (go_at_call 29; refine KH.out.mono ?_; rintro e w3 ⟨rfl, rfl⟩)
            go_roundg k2
            case measure => have := HI.out; omega
            case rel => exact ⟨i + 1, b, rfl, by go_num, ⟨by have := HI.out; omega, by have := HI.out; omega⟩, ⟨HN.out⟩, ⟨rfl⟩⟩
          | false =>
            rcases HBF.out with hb | ⟨bn, hb, hb64⟩
            · have b3 : decide (b < 0) = true := decide_eq_true hb
              have HN := Lib.hid (HFI.out hb HQ.out)
              clear HSK HFI HLE HKE HBF hb
              go_wp2_with (go_at_call 29; refine KH.out.mono ?_; rintro e w3 ⟨rfl, rfl⟩)
              go_roundg k2
              case measure => have := HI.out; omega
              case rel => exact ⟨i + 1, (x : Int), rfl, by go_num, ⟨by have := HI.out; omega, by have := HI.out; omega⟩, ⟨HN.out⟩, ⟨rfl⟩⟩
            · have b3 : decide (b < 0) = false := decide_eq_false (by omega)
              subst hb
              have KF1 := Lib.hid (far_pick x m w1 HX64.out hm64)
              have KF2 := Lib.hid (far_pick bn m w1 hb64 hm64)
              have tok1 : True := trivial
              by_cases hf : fd m x < fd m bn
              · have b4 : decide (((fd m x : Nat) : Int) < ((fd m bn : Nat) : Int)) = true := decide_eq_true (by omega)
                have b5 : decide (fd m x < fd m bn) = true := decide_eq_true hf
                have HN := Lib.hid (HLE.out bn rfl HQ.out hf)
                clear HSK HFI HLE HKE HBF hf
                generalize fd m x = fx at KF1 b4 b5
                generalize fd m bn = fb at KF2 b4 b5
                go_wp2_with (first | (go_at_call 29; refine KH.out.mono ?_; rintro e w3 ⟨rfl, rfl⟩) | (have _t := tok1; go_at_call 117; refine KF1.out.mono ?_; rintro e w4 ⟨rfl, rfl⟩; clear tok1 _t; have tok2 : True := trivial) | (have _t := tok2; go_at_call 117; refine KF2.out.mono ?_; rintro e w5 ⟨rfl, rfl⟩; clear tok2 _t))
                go_roundg k2
                case measure => have := HI.out; omega
                case rel => exact ⟨i + 1, (x : Int), rfl, by go_num, ⟨by have := HI.out; omega, by have := HI.out; omega⟩, ⟨HN.out⟩, ⟨rfl⟩⟩
              · have b4 : decide (((fd m x : Nat) : Int) < ((fd m bn : Nat) : Int)) = false := decide_eq_false (by omega)
                have b5 : decide (fd m x < fd m bn) = false := decide_eq_false hf
                have HN := Lib.hid (HKE.out bn rfl hf)
                clear HSK HFI HLE HKE HBF hf
                generalize fd m x = fx at KF1 b4 b5
                generalize fd m bn = fb at KF2 b4 b5
                go_wp2_with (first | (go_at_call 29; refine KH.out.mono ?_; rintro e w3 ⟨rfl, rfl⟩) | (have _t := tok1; go_at_call 117; refine KF1.out.mono ?_; rintro e w4 ⟨rfl, rfl⟩; clear tok1 _t; have tok2 : True := trivial) | (have _t := tok2; go_at_call 117; refine KF2.out.mono ?_; rintro e w5 ⟨rfl, rfl⟩; clear tok2 _t))
                go_roundg k2
                case measure => have := HI.out; omega
                case rel => exact ⟨i + 1, (bn : Int), rfl, by go_num, ⟨by have := HI.out; omega, by have := HI.out; omega⟩, ⟨HN.out⟩, ⟨rfl⟩⟩
        · obtain rfl : i = L := by have := HI.out; omega
          have d1 : decide ((i : Int) < (i : Int)) = false := decide_eq_false (by omega)
          have d2 : decide (i < i) = false := decide_eq_false ci
          obtain ⟨bn, hb, hb64, hcl⟩ := (show Bst (nodes s) t m b (nodes s).length from by rw [HNL.out]; exact HBS.out).done HC.out HJL.out
          subst hb
          have HCL := Lib.hid hcl
          have KW := Lib.hid (with_any t (bn : Int) w1 HC.out.lt)
          clear hcl hb64 ci
          go_wp2_with (go_at_call 30; refine KW.out.mono ?_; rintro e w3 ⟨rfl, rfl⟩)
          go_roundg k1
          case measure => have := HJ.out; omega
          case rel => exact ⟨j + 1, _, rfl, ⟨by have := HJ.out; omega, by have := HJ.out; omega⟩, ⟨HCL.out⟩, ⟨rfl⟩⟩
    · obtain rfl : j = nn := by have := HJ.out; omega
      have b1 : decide ((j : Int) < (j : Int)) = false := decide_eq_false (by omega)
      have b2 : decide (j < j) = false := decide_eq_false cj
      have HE := Lib.hid (HFIN.out t HC.out)
      go_wp2_with (go_at_call 32; refine KL.out.mono ?_; rintro e w2 ⟨rfl, rfl⟩)
      go_ret
      exact ⟨by rw [← HE.out]; rfl, HB.out⟩
end Go.Proofs.YtmjkgnlmdcmdbaaDoor.Pick
