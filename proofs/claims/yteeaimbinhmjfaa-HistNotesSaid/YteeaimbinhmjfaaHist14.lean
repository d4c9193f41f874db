/- HistNotes: for every list of events (the law reads the first 60), all ticks, and every two kinds: what a log has noted. -/
import Derived.Test.YteeaimbinhmjfaaHist13
import Derived.Test.YteeaimbinhmjfaaWGuard
import Derived.Deep.DeepCutAuto
namespace Go.Proofs.Yteeaimbinhmjfaa.Hist
open Go.RowKit Go.Proofs.Yteeaimbinhmjfaa.Flat Go.Proofs.YteeaimbinhmjfaaW.PrintWords Go.Proofs.YteeaimbinhmjfaaW.PrintLast Go.Proofs.YteeaimbinhmjfaaW.PrintMore
set_option linter.unusedVariables false
set_option linter.unusedSimpArgs false
set_option maxRecDepth 100000
def okF (g : Nat) (v : Nat → Value) (i : Nat) : Nat → Prop := fun k => k ≠ g ∧ ∀ j, j < 4 → j ≠ i → some k ≠ (v j).ownBlock
theorem tick_in {w : World} {A : Option Addr} {m : Nat} {z : List (List Value)} (h : FlatRow w A m [.bool] z) (i : Nat) (hi : i < m) : ∃ ad, A = some ad ∧ ∀ W, Below w.heap.size w W → W.cell? (ad.add i) = some (.bool (tickB z i)) := by
  obtain ⟨h1, h2, h3⟩ := h
  obtain ⟨ad, hA, hc⟩ := h3 (by omega)
  have hz : z[i]? = some z[i] := List.getElem?_eq_getElem (by omega)
  obtain ⟨c, d, e, ⟨q, rfl⟩, hd⟩ := Flat.Leaves.cons (h2 i _ hz)
  refine ⟨ad, hA, fun W hW => ?_⟩
  have h4 := hc i _ hz 0 (.bool q) (by rw [e]; rfl)
  have h5 : tickB z i = q := by unfold tickB; rw [hz, e]
  rw [h5]
  have h6 : ad.add (i * [Leaf.bool].length + 0) = ad.add i := by simp
  rw [h6] at h4
  exact (hW.cell (World.block_lt_of_cell? w _ h4)).trans h4
theorem wf_small {s : Int} (h : 0 ≤ s ∧ s ≤ 100) : (Lit.int .i64 s).wf = true := WalkArith.wf_i64 (by omega)
theorem same_at (A1 A2 : Option Addr) (c1 c2 : Nat) (l : List (List Value)) (n : Nat) (W : World) (hn : l.length = n) (h1 : E24.C W A1 l.length l) (h2 : E24.C W A2 l.length l) (hl : l.length ≤ 128) : Calls Try.prog 10 #[.slice A1 n c1, .slice A2 n c2] W fun e w' => e = .returned (.bool true) ∧ Below W.heap.size W w' := by
  subst hn
  exact Same_any A1 A2 c1 c2 l W h1 h2 hl
theorem C_leaves {w : World} {A : Option Addr} {n : Nat} {z : List (List Value)} (h : E24.C w A n z) : ∀ c ∈ z, Flat.Leaves EL c := fun c hc => by
  obtain ⟨j, hj, rfl⟩ := List.mem_iff_getElem.1 hc
  obtain ⟨ad, -, hL, -⟩ := ev_at h j (by rw [← h.1]; exact hj)
  rw [List.getD_eq_getElem?_getD, List.getElem?_eq_getElem hj] at hL
  exact hL
set_option maxHeartbeats 8000000 in
theorem HistNotes_any (A0 : Option Addr) (len0 cap0 : Nat) (z0 : List (List Value)) (A1 : Option Addr) (m c1 : Nat) (z1 : List (List Value)) (a b : Int) (w : World) (y0 : len0 ≤ cap0) (w0 : cap0 ≤ maxLen) (r0 : FlatRow w A0 len0 EL z0) (y1 : m ≤ c1) (w1 : c1 ≤ maxLen) (r1 : FlatRow w A1 m [.bool] z1) (wa : (Lit.int .i64 a).wf = true) (wb : (Lit.int .i64 b).wf = true) :
    Calls Try.prog 4 #[.slice A0 len0 cap0, .slice A1 m c1, .int .i64 a, .int .i64 b] w fun e w' => e = .returned (.bool true) ∧ Below w.heap.size w w' := by
  have hC := ev_of_flat r0 (by unfold maxLen at w0; omega)
  have hzl : z0.length = len0 := r0.1
  subst hzl
  have hm : z0.length ≤ 9223372036854775807 := by unfold maxLen at w0; omega
  have hm1 : m ≤ 9223372036854775807 := by unfold maxLen at w1; omega
  have HZL := Lib.hid r1.1
  have HTI := Lib.hid (fun i (hi : i < m) => tick_in r1 i hi)
  clear r0 r1 wa wb w1 y1
  go_enter Try.func4, Try.ntmps4
  go_upto_if 23 with fail
  go_cut [0] (fun v wx => ∃ (A : Option Addr) (xs : List (List Value)) (c : Nat), v = .slice A xs.length c ∧ xs.length ≤ 60 ∧ xs.length ≤ c ∧ Aside0 (E24.C w A xs.length xs) ∧ Aside0 (w = wx))
  case first =>
    by_cases h : 60 < z0.length
    · obtain ⟨ad, rfl, -⟩ := ev_at hC 0 (by omega)
      go_wp2
      go_meet
      exact ⟨_, z0.take 60, cap0, by rw [List.length_take, Nat.min_eq_left (by omega)], by rw [List.length_take]; omega, by rw [List.length_take]; omega, ⟨Kd.C_take hC (by omega)⟩, ⟨rfl⟩⟩
    · go_wp2
      go_meet
      exact ⟨_, z0, cap0, rfl, by omega, y0, ⟨hC⟩, ⟨rfl⟩⟩
  case rest =>
    obtain ⟨A, xs, c, rfl, h60, hxc, HC, HW⟩ := hcut
    have hww := HW.out
    subst hww
    obtain ⟨n, hn⟩ : ∃ n, xs.length = n := ⟨_, rfl⟩
    rw [hn] at HC h60 hxc ⊢
    have HXN := Lib.hid hn
    clear hC hm y0 w0 HW hxc hn
    go_upto_region 4 with fail
    have N0 : Hid (NS w (w.alloc (.cells #[.slice none 0 0, .int .i64 0] 37)) w.heap.size (w.alloc (.cells #[.slice none 0 0, .int .i64 0] 37)).heap.size 0 (mk4 undef (.slice none 0 0) (.slice none 0 0) (.slice none 0 0) (.slice none 0 0)) (lst xs z1 a b 0)) := Lib.hid (NS.start w _ _ _ (blk_new _ _) (below_alloc (Below.refl _ _) _) (Nat.le_refl _) (by simp) (Nat.le_refl _) xs z1 a b)
    obtain ⟨g, hg⟩ : ∃ g, w.heap.size = g := ⟨_, rfl⟩
    obtain ⟨B, hB⟩ : ∃ B, (w.alloc (.cells #[.slice none 0 0, .int .i64 0] 37)).heap.size = B := ⟨_, rfl⟩
    rw [hB] at N0
    have N1 : Hid (NS w (w.alloc (.cells #[.slice none 0 0, .int .i64 0] 37)) g B 0 (mk4 undef (.slice none 0 0) (.slice none 0 0) (.slice none 0 0) (.slice none 0 0)) (lst xs z1 a b 0)) := Lib.hid (by rw [← hg]; exact N0.out)
    rw [hg]
    clear N0 hg hB
    generalize w.alloc (.cells #[.slice none 0 0, .int .i64 0] 37) = w2 at N1 ⊢
    go_wp2
    go_loopg [10, 11, 12, 13, 14] (n + 1) (fun kq v10 v11 v12 v13 v14 w' => ∃ (i : Nat) (u0 : Value), v10 = .int .i64 (stepN z1 i) ∧ v14 = .int .i64 i ∧ Aside0 (i + kq = n + 1 ∧ 1 ≤ kq) ∧ Aside0 (NS w w' g B (stepN z1 i) (mk4 undef u0 v11 v12 v13) (lst xs z1 a b i)))
    case atStart => exact ⟨0, _, rfl, rfl, ⟨by omega, by omega⟩, ⟨N1.out⟩⟩
    case round =>
      clear N1
      obtain ⟨i, u0, rfl, rfl, HI, HNS⟩ := hrel
      obtain ⟨k1, rfl⟩ : ∃ k1, gk = k1 + 1 := ⟨gk - 1, by have := HI.out; omega⟩
      by_cases ci : i < n
      · have d1 : decide ((i : Int) < (n : Int)) = true := decide_eq_true (by omega)
        have d2 : decide (i < n) = true := decide_eq_true ci
        have x0 : (0 ≤ (i : Int) ∧ (i : Int) < (n : Int)) = True := eq_true ⟨by omega, by omega⟩
        have y0 : ((i : Int) < (n : Int)) = True := eq_true (by omega)
        have xt : ((i : Int)).toNat = i := by omega
        obtain ⟨ad, hAd, hL, hc0⟩ := ev_at HC.out i ci
        subst hAd
        have hcell : Hid (∀ W, Below w.heap.size w W → ∀ j u, (xs.getD i [])[j]? = some u → W.cell? ((ad.add (i * 24)).add j) = some u) := Lib.hid (fun W hW j u hu => by
          have h := hc0 j u hu
          rw [add_add]
          exact (hW.cell (World.block_lt_of_cell? w _ h)).trans h)
        have HLV := Lib.hid hL
        have HST : Hid (stepN z1 (i + 1) = if tickB z1 i = true then stepN z1 i + 1 else stepN z1 i) := Lib.hid rfl
        have hs0 := stepN_le z1 i
        have HS1 := Lib.hid (stepN_le z1 (i + 1))
        have HAL : Hid (allN xs z1 (i + 1) = allN xs z1 i ++ [setS (stepN z1 (i + 1)) (xs.getD i [])]) := Lib.hid rfl
        have HLN := Lib.hid (allN_len xs z1 i)
        clear hL hc0
        generalize xs.getD i [] = e at hcell HLV HAL
        generalize hsx : stepN z1 (i + 1) = s1 at HST HS1 HAL
        have HSX := Lib.hid hsx
        clear hsx
        generalize stepN z1 i = s0 at HST hs0 HNS ⊢
        have HTN : Hid (m ≤ i → tickB z1 i = false) := Lib.hid (fun h => by unfold tickB; rw [List.getElem?_eq_none (by rw [HZL.out]; exact h)])
        go_upto_region 9 with fail
        go_cut [43] (fun v43 wx => v43 = .bool (tickB z1 i) ∧ Aside0 (NS w wx g B s0 (mk4 undef u0 u11 u12 u13) (lst xs z1 a b i)))
        case first =>
          by_cases im : i < m
          · have b1 : decide ((i : Int) < (m : Int)) = true := decide_eq_true (by omega)
            have b2 : decide (i < m) = true := decide_eq_true im
            have x1 : (0 ≤ (i : Int) ∧ (i : Int) < (m : Int)) = True := eq_true ⟨by omega, by omega⟩
            have y1 : ((i : Int) < (m : Int)) = True := eq_true (by omega)
            obtain ⟨ad1, hA1, hq⟩ := HTI.out i im
            subst hA1
            have f1 := hq _ HNS.out.be
            clear hq
            obtain ⟨q, hq⟩ : ∃ q, tickB z1 i = q := ⟨_, rfl⟩
            rw [hq] at f1
            have HQ := Lib.hid hq
            clear hq
            go_wp2
            go_meet
            exact ⟨by rw [HQ.out], ⟨HNS.out⟩⟩
          · have b1 : decide ((i : Int) < (m : Int)) = false := decide_eq_false (by omega)
            have b2 : decide (i < m) = false := decide_eq_false im
            have HQ := Lib.hid (HTN.out (by omega))
            go_wp2
            go_meet
            exact ⟨by rw [HQ.out], ⟨HNS.out⟩⟩
        case rest =>
          clear HNS
          obtain ⟨rfl, HNS⟩ := hcut
          go_upto_if 43 with fail
          go_cut [10] (fun v10 wx => ∃ u0, v10 = .int .i64 s1 ∧ Aside0 (NS w wx g B s1 (mk4 undef u0 u11 u12 u13) (lst xs z1 a b i)))
          case first =>
            obtain ⟨q, hq⟩ : ∃ q, tickB z1 i = q := ⟨_, rfl⟩
            rw [hq] at HST ⊢
            clear hq
            cases q with
            | true =>
              have hs1 : s1 = s0 + 1 := by have h := HST.out; rw [if_pos rfl] at h; exact h
              have WA := wrapB (show s0 + 1 = s0 + 1 from rfl) (by omega) (by omega)
              have wa1 := WA.1
              have wa2 := WA.2
              have HSE := Lib.hid hs1
              have HSS := Lib.hid hs0
              clear WA hs1 HST
              go_wp2_with (go_at_call 8; refine (Tick_any _ g _ s0 HNS.out.lg (by have := HSS.out; omega) (by have := HSS.out; omega)).mono ?_; rintro e3 w3 ⟨rfl, hlg, hch⟩; have HN2 := Lib.hid (HNS.out.tick hlg hch); clear hlg hch)
              go_meet
              exact ⟨_, by rw [HSE.out], ⟨by rw [HSE.out]; exact HN2.out⟩⟩
            | false =>
              have hs1 : s1 = s0 := by have h := HST.out; rw [if_neg (by decide)] at h; exact h
              have HSE := Lib.hid hs1
              clear hs1 HST
              go_wp2
              go_meet
              exact ⟨_, by rw [HSE.out], ⟨by rw [HSE.out]; exact HNS.out⟩⟩
          case rest =>
            clear HNS HST hs0 HTN
            obtain ⟨u0, rfl, HNS⟩ := hcut
            have HLS : Hid (lst xs z1 a b (i + 1) = mk4 [] (allN xs z1 i ++ [setS s1 e]) (allN xs z1 i ++ [setS s1 e]) ((allN xs z1 i ++ [setS s1 e]).filter (ofK a b)) ((allN xs z1 i ++ [setS s1 e]).filter (ofK 2 4))) := Lib.hid (by unfold lst; rw [HAL.out])
            have HN1 : Hid (NS w wc g B s1 (mk4 undef u0 u11 u12 u13) (mk4 [] (allN xs z1 i) (allN xs z1 i) ((allN xs z1 i).filter (ofK a b)) ((allN xs z1 i).filter (ofK 2 4)))) := Lib.hid HNS.out
            have HWF := Lib.hid (wf_small (s := s1) (by have := HS1.out; omega))
            clear HNS HAL HS1
            generalize allN xs z1 i = al at HLN HLS HN1
            have hni : i ≤ 60 := by omega
            go_upto_region 13 with (first
              | ((with_reducible refine gate_ (.load 31 (.tmp 51)) rfl ?_); refine ev_load rfl _ rfl e (Flat.Leaves.len HLV.out) rfl (hcell.out _ HN1.out.be) ?_)
              | ((with_reducible refine gate_ (.buildSlice 22 1 #[(0, .tmp 52)]) rfl ?_); refine Kd.event_run rfl (exec_lits 1 #[(0, .tmp 52)] rfl [e] (fun c hc => by rw [List.mem_singleton.1 hc]; exact HLV.out) rfl (by decide) (by decide) rfl) ?_; have BL := Lib.hid (blk_new wc (.cells [e].flatten.toArray 31)); have HN2 := Lib.hid (HN1.out.below (below_alloc (Below.refl wc.heap.size wc) (.cells [e].flatten.toArray 31))); have HFR : Hid (∀ j, j < 4 → some wc.heap.size ≠ ((mk4 undef u0 u11 u12 u13) j).ownBlock) := Lib.hid (fun j hj he => by have := Kd.R_lt (HN1.out.fam.r j hj) _ he.symm; omega); have HGL : Hid (g < wc.heap.size) := Lib.hid HN1.out.lt; clear HN1; (generalize wc.heap.size = gl at BL HFR HGL ⊢); (generalize wc.alloc (.cells [e].flatten.toArray 31) = w2 at BL HN2 ⊢))
              | (go_at_call 9; go_loud (refine (Note_any w2 g B (okF g (mk4 undef u0 u11 u12 u13) 0) _ s1 al [e] (some ⟨gl, 0, none⟩) 1 HN2.out.lg (HN2.out.fam.r 0 (by omega)) HN2.out.hb.2.2 (fun k hk => hk.1) (HN2.out.fam.fresh HN2.out.lt 0) HWF.out (C_flat BL.out (fun c hc => by rw [List.mem_singleton.1 hc]; exact HLV.out) (by show 1 ≤ 9223372036854775807; decide)) (fun ad h _ hx => by injection h with h; subst h; rcases hx with hx | hx; exact absurd hx (Nat.ne_of_gt HGL.out); exact HFR.out 0 (by omega) hx) (by have := HLN.out; show al.length + 1 ≤ 128; omega)).mono ?_); rintro e3 w3 ⟨rfl, v1, hnt⟩; have HN3 : Hid (NS w w3 g B s1 (mk4 undef v1 u11 u12 u13) (mk4 [] (al ++ [setS s1 e]) al (al.filter (ofK a b)) (al.filter (ofK 2 4)))) := Lib.hid (by have h := HN2.out.note hnt; rw [upd0, upd0] at h; exact h); clear hnt HN2 BL HFR HGL))
            go_upto_region 14 with (first
              | ((with_reducible refine gate_ (.load 31 (.tmp 57)) rfl ?_); refine ev_load rfl _ rfl e (Flat.Leaves.len HLV.out) rfl (hcell.out _ HN3.out.be) ?_)
              | ((with_reducible refine gate_ (.alloc 31) rfl ?_); refine ev_alloc rfl (N := 15) rfl rfl ?_; intro ge W1 hg hb1 hbb; have BK := Lib.hid hb1; have HB2 := Lib.hid hbb; have HG := Lib.hid hg; clear hg hb1 hbb)
              | ((with_reducible refine gate_ (.store 31 (.tmp 15) (.tmp 58)) rfl ?_); refine ev_store rfl rfl _ _ rfl e HLV.out BK.out rfl rfl rfl ?_; intro W2 hb2 hbb; have BK2 := Lib.hid hb2; have HB := Lib.hid (HB2.out.grown hbb HB2.out.size (fun j hj => by cases hj; rw [HG.out]; exact Nat.le_refl _)); clear hb2 hbb HB2 BK))
            have q0 : W2.cell? ⟨ge, 0, none⟩ = e[0]? := (blk_cell BK2.out 0).trans (List.getElem?_toArray ..)
            rw [(iv_is HLV.out 0 (by omega)).1] at q0
            have q1 := blk_frozen BK2.out 0
            go_upto_region 15 with fail
            have HB3 := Lib.hid (HB.out.setCell (p := ⟨ge, 0, none⟩) (by rw [HG.out]; exact Nat.le_refl _) (.int .i64 s1))
            have HN4 := Lib.hid (HN3.out.below HB3.out)
            have HNE : Hid (NE (W2.setCell ⟨ge, 0, none⟩ (.int .i64 s1)) ge (setS s1 e) (mk4 undef v1 u11 u12 u13)) := Lib.hid ⟨blk_put BK2.out 0 (.int .i64 s1) (setS_array s1 e), fun j hj he => by have := Kd.R_lt (HN3.out.fam.r j hj) _ he.symm; have := HG.out; omega⟩
            have HE2 : Hid (Flat.Leaves EL (setS s1 e)) := Lib.hid (setS_ok s1 HWF.out HLV.out)
            clear q0 q1 BK2 HB HB3 HN3 HG HLV hcell
            generalize W2.setCell ⟨ge, 0, none⟩ (.int .i64 s1) = W3 at HN4 HNE ⊢
            generalize setS s1 e = e2 at HLS HN4 HNE HE2
            obtain ⟨x, hx⟩ : ∃ x, iv e2 1 = x := ⟨_, rfl⟩
            have HX := Lib.hid hx
            clear hx
            go_upto_region 16 with (first
              | ((with_reducible refine gate_ (.load 31 (.tmp 15)) rfl ?_); refine ev_load rfl _ rfl e2 (Flat.Leaves.len HE2.out) rfl (blk_cells HNE.out.bk) ?_)
              | ((with_reducible refine gate_ (.buildSlice 22 1 #[(0, .tmp 62)]) rfl ?_); refine Kd.event_run rfl (exec_lit _ rfl e2 (Flat.Leaves.len HE2.out) rfl) ?_)
              | ((with_reducible refine gate_builtin (b := .append) (xs := #[.tmp 61, .tmp 63]) rfl ?_); at_builtin; refine Kd.R_append E24 (w0 := W3) (W := W3) B rfl (.tmp 61) (.tmp 63) 22 31 _ 192 rfl Try.underlying22 info24 zev_cells E24_sz (by omega) _ (al) e2 e2 (okF g (mk4 undef v1 u11 u12 u13) 1) (fun _ => False) rfl rfl ?aPa (fun _ hk => hk.elim) ?aFa ?aOa ?aBa ?aSa ?aLa ?_; (case aPa => exact ⟨rfl, HE2.out⟩); (case aBa => exact Below.refl _ _); (case aFa => exact HN4.out.fam.fresh HN4.out.lt 1); (case aOa => exact HN4.out.fam.r 1 (by omega)); (case aSa => exact HN4.out.hb.2.2); (case aLa => have := HLN.out; have := List.length_filter_le (ofK a b) (al ++ [e2]); have := List.length_filter_le (ofK 2 4) (al ++ [e2]); have := List.length_filter_le (ofK a b) al; have := List.length_filter_le (ofK 2 4) al; simp only [List.length_append, List.length_singleton] at *; omega); intro v9 w5 ho hb hg hat; have HN5 : Hid (NS w w5 g B s1 (mk4 undef v1 v9 u12 u13) (mk4 [] (al ++ [e2]) (al ++ [e2]) (al.filter (ofK a b)) (al.filter (ofK 2 4)))) := Lib.hid (by have h := HN4.out.app 1 (by omega) (by omega) ho hg hat; rw [upd1, upd1] at h; exact h); have HNE5 : Hid (NE w5 ge e2 (mk4 undef v1 v9 u12 u13)) := Lib.hid (by have h := HNE.out.app 1 (by omega) hg hat; rw [upd1] at h; exact h); clear ho hb hg hat))
            clear HN4 HNE
            go_cut [74] (fun v74 wx => v74 = .bool (ofK a b e2) ∧ Aside0 (NS w wx g B s1 (mk4 undef v1 v9 u12 u13) (mk4 [] (al ++ [e2]) (al ++ [e2]) (al.filter (ofK a b)) (al.filter (ofK 2 4)))) ∧ Aside0 (NE wx ge e2 (mk4 undef v1 v9 u12 u13)))
            case first =>
              have f1 : _ := (blk_cell HNE5.out.bk 1).trans ((List.getElem?_toArray ..).trans (iv_is HE2.out 1 (by omega)).1)
              rw [HX.out] at f1
              have HOF : Hid (ofK a b e2 = (x == a || x == b)) := Lib.hid (by unfold ofK; rw [HX.out])
              by_cases xa : x = a
              · have z1 : (x == a) = true := by simpa using xa
                have HR : Hid (ofK a b e2 = true) := Lib.hid (by rw [HOF.out, z1]; rfl)
                clear xa
                go_wp2
                go_meet
                exact ⟨by rw [HR.out], ⟨HN5.out⟩, ⟨HNE5.out⟩⟩
              · have z1 : (x == a) = false := by simpa using xa
                by_cases xb : x = b
                · have z2 : (x == b) = true := by simpa using xb
                  have HR : Hid (ofK a b e2 = true) := Lib.hid (by rw [HOF.out, z1, z2]; rfl)
                  clear xa xb
                  go_wp2
                  go_meet
                  exact ⟨by rw [HR.out], ⟨HN5.out⟩, ⟨HNE5.out⟩⟩
                · have z2 : (x == b) = false := by simpa using xb
                  have HR : Hid (ofK a b e2 = false) := Lib.hid (by rw [HOF.out, z1, z2]; rfl)
                  clear xa xb
                  go_wp2
                  go_meet
                  exact ⟨by rw [HR.out], ⟨HN5.out⟩, ⟨HNE5.out⟩⟩
            case rest =>
              clear HN5 HNE5
              obtain ⟨rfl, HN5, HNE5⟩ := hcut
              go_upto_if 74 with fail
              go_cut [12] (fun v12 wx => ∃ y2 : Value, v12 = y2 ∧ Aside0 (NS w wx g B s1 (mk4 undef v1 v9 y2 u13) (mk4 [] (al ++ [e2]) (al ++ [e2]) ((al ++ [e2]).filter (ofK a b)) (al.filter (ofK 2 4)))) ∧ Aside0 (NE wx ge e2 (mk4 undef v1 v9 y2 u13)))
              case first =>
                obtain ⟨q, hq⟩ : ∃ q, ofK a b e2 = q := ⟨_, rfl⟩
                have HQ := Lib.hid hq
                rw [hq]
                clear hq
                cases q with
                | true =>
                  have HFO : Hid ((al ++ [e2]).filter (ofK a b) = al.filter (ofK a b) ++ [e2]) := Lib.hid (by rw [List.filter_append]; simp [HQ.out])
                  go_wp2_with (first
                    | ((with_reducible refine gate_ (.load 31 (.tmp 15)) rfl ?_); refine ev_load rfl _ rfl e2 (Flat.Leaves.len HE2.out) rfl (blk_cells HNE5.out.bk) ?_)
                    | ((with_reducible refine gate_ (.buildSlice 22 1 #[(0, .tmp 76)]) rfl ?_); refine Kd.event_run rfl (exec_lit _ rfl e2 (Flat.Leaves.len HE2.out) rfl) ?_)
                    | ((with_reducible refine gate_builtin (b := .append) (xs := #[.tmp 75, .tmp 77]) rfl ?_); at_builtin; refine Kd.R_append E24 (w0 := ?wzb) B rfl (.tmp 75) (.tmp 77) 22 31 _ 192 rfl Try.underlying22 info24 zev_cells E24_sz (by omega) _ (al.filter (ofK a b)) e2 e2 (okF g (mk4 undef v1 v9 u12 u13) 2) (fun _ => False) rfl rfl ?aPb (fun _ hk => hk.elim) ?aFb ?aOb ?aBb ?aSb ?aLb ?_; (case aPb => exact ⟨rfl, HE2.out⟩); (case aBb => exact Below.refl _ _); (case aFb => exact HN5.out.fam.fresh HN5.out.lt 2); (case aOb => exact HN5.out.fam.r 2 (by omega)); (case aSb => exact HN5.out.hb.2.2); (case aLb => have := HLN.out; have := List.length_filter_le (ofK a b) (al ++ [e2]); have := List.length_filter_le (ofK 2 4) (al ++ [e2]); have := List.length_filter_le (ofK a b) al; have := List.length_filter_le (ofK 2 4) al; simp only [List.length_append, List.length_singleton] at *; omega); intro v10 w5 ho hb hg hat; have HN6 : Hid (NS w w5 g B s1 (mk4 undef v1 v9 v10 u13) (mk4 [] (al ++ [e2]) (al ++ [e2]) (al.filter (ofK a b) ++ [e2]) (al.filter (ofK 2 4)))) := Lib.hid (by have h := HN5.out.app 2 (by omega) (by omega) ho hg hat; rw [upd2, upd2] at h; exact h); have HNE6 : Hid (NE w5 ge e2 (mk4 undef v1 v9 v10 u13)) := Lib.hid (by have h := HNE5.out.app 2 (by omega) hg hat; rw [upd2] at h; exact h); clear ho hb hg hat))
                  go_meet
                  exact ⟨_, rfl, ⟨by rw [HFO.out]; exact HN6.out⟩, ⟨HNE6.out⟩⟩
                | false =>
                  have HFO : Hid ((al ++ [e2]).filter (ofK a b) = al.filter (ofK a b)) := Lib.hid (by rw [List.filter_append]; simp [HQ.out])
                  go_wp2
                  go_meet
                  exact ⟨_, rfl, ⟨by rw [HFO.out]; exact HN5.out⟩, ⟨HNE5.out⟩⟩
              case rest =>
                clear HN5 HNE5
                obtain ⟨y2, hy2, HN5, HNE5⟩ := hcut
                rw [hy2]
                clear hy2
                go_upto_region 18 with fail
                go_cut [86] (fun v86 wx => v86 = .bool (ofK 2 4 e2) ∧ Aside0 (NS w wx g B s1 (mk4 undef v1 v9 y2 u13) (mk4 [] (al ++ [e2]) (al ++ [e2]) ((al ++ [e2]).filter (ofK a b)) (al.filter (ofK 2 4)))) ∧ Aside0 (NE wx ge e2 (mk4 undef v1 v9 y2 u13)))
                case first =>
                  have f1 : _ := (blk_cell HNE5.out.bk 1).trans ((List.getElem?_toArray ..).trans (iv_is HE2.out 1 (by omega)).1)
                  rw [HX.out] at f1
                  have HOF : Hid (ofK 2 4 e2 = (x == 2 || x == 4)) := Lib.hid (by unfold ofK; rw [HX.out])
                  by_cases xa : x = 2
                  · have z1 : (x == 2) = true := by simpa using xa
                    have HR : Hid (ofK 2 4 e2 = true) := Lib.hid (by rw [HOF.out, z1]; rfl)
                    clear xa
                    go_wp2
                    go_meet
                    exact ⟨by rw [HR.out], ⟨HN5.out⟩, ⟨HNE5.out⟩⟩
                  · have z1 : (x == 2) = false := by simpa using xa
                    by_cases xb : x = 4
                    · have z2 : (x == 4) = true := by simpa using xb
                      have HR : Hid (ofK 2 4 e2 = true) := Lib.hid (by rw [HOF.out, z1, z2]; rfl)
                      clear xa xb
                      go_wp2
                      go_meet
                      exact ⟨by rw [HR.out], ⟨HN5.out⟩, ⟨HNE5.out⟩⟩
                    · have z2 : (x == 4) = false := by simpa using xb
                      have HR : Hid (ofK 2 4 e2 = false) := Lib.hid (by rw [HOF.out, z1, z2]; rfl)
                      clear xa xb
                      go_wp2
                      go_meet
                      exact ⟨by rw [HR.out], ⟨HN5.out⟩, ⟨HNE5.out⟩⟩
                case rest =>
                  clear HN5 HNE5
                  obtain ⟨rfl, HN5, HNE5⟩ := hcut
                  obtain ⟨q, hq⟩ : ∃ q, ofK 2 4 e2 = q := ⟨_, rfl⟩
                  have HQ := Lib.hid hq
                  rw [hq]
                  clear hq
                  cases q with
                  | true =>
                    have HFD : Hid ((al ++ [e2]).filter (ofK 2 4) = al.filter (ofK 2 4) ++ [e2]) := Lib.hid (by rw [List.filter_append]; simp [HQ.out])
                    go_wp2_with (first
                      | ((with_reducible refine gate_ (.load 31 (.tmp 15)) rfl ?_); refine ev_load rfl _ rfl e2 (Flat.Leaves.len HE2.out) rfl (blk_cells HNE5.out.bk) ?_)
                      | ((with_reducible refine gate_ (.buildSlice 22 1 #[(0, .tmp 88)]) rfl ?_); refine Kd.event_run rfl (exec_lit _ rfl e2 (Flat.Leaves.len HE2.out) rfl) ?_)
                      | ((with_reducible refine gate_builtin (b := .append) (xs := #[.tmp 87, .tmp 89]) rfl ?_); at_builtin; refine Kd.R_append E24 (w0 := ?wzc) B rfl (.tmp 87) (.tmp 89) 22 31 _ 192 rfl Try.underlying22 info24 zev_cells E24_sz (by omega) _ (al.filter (ofK 2 4)) e2 e2 (okF g (mk4 undef v1 v9 y2 u13) 3) (fun _ => False) rfl rfl ?aPc (fun _ hk => hk.elim) ?aFc ?aOc ?aBc ?aSc ?aLc ?_; (case aPc => exact ⟨rfl, HE2.out⟩); (case aBc => exact Below.refl _ _); (case aFc => exact HN5.out.fam.fresh HN5.out.lt 3); (case aOc => exact HN5.out.fam.r 3 (by omega)); (case aSc => exact HN5.out.hb.2.2); (case aLc => have := HLN.out; have := List.length_filter_le (ofK a b) (al ++ [e2]); have := List.length_filter_le (ofK 2 4) (al ++ [e2]); have := List.length_filter_le (ofK a b) al; have := List.length_filter_le (ofK 2 4) al; simp only [List.length_append, List.length_singleton] at *; omega); intro v11 w5 ho hb hg hat; have HN7 : Hid (NS w w5 g B s1 (mk4 undef v1 v9 y2 v11) (mk4 [] (al ++ [e2]) (al ++ [e2]) ((al ++ [e2]).filter (ofK a b)) (al.filter (ofK 2 4) ++ [e2]))) := Lib.hid (by have h := HN5.out.app 3 (by omega) (by omega) ho hg hat; rw [upd3, upd3] at h; exact h); clear ho hb hg hat))
                    go_roundg k1
                    case measure => have := HI.out; omega
                    case rel => exact ⟨i + 1, v1, by rw [HSX.out], by go_num, ⟨by have := HI.out; omega, by have := HI.out; omega⟩, ⟨by rw [HSX.out, HLS.out, HFD.out]; exact HN7.out⟩⟩
                  | false =>
                    have HFD : Hid ((al ++ [e2]).filter (ofK 2 4) = al.filter (ofK 2 4)) := Lib.hid (by rw [List.filter_append]; simp [HQ.out])
                    go_wp2
                    go_roundg k1
                    case measure => have := HI.out; omega
                    case rel => exact ⟨i + 1, v1, by rw [HSX.out], by go_num, ⟨by have := HI.out; omega, by have := HI.out; omega⟩, ⟨by rw [HSX.out, HLS.out, HFD.out]; exact HN5.out⟩⟩
      · obtain rfl : i = n := by have := HI.out; omega
        have d1 : decide ((i : Int) < (i : Int)) = false := decide_eq_false (by omega)
        have d2 : decide (i < i) = false := decide_eq_false ci
        clear ci HC HTI HXN HZL hm1 HI
        obtain ⟨wo, rfl⟩ : ∃ x, x = wr := ⟨_, rfl⟩
        obtain ⟨al, hal⟩ : ∃ l, allN xs z1 i = l := ⟨_, rfl⟩
        have hln : al.length = i := by rw [← hal]; exact allN_len xs z1 i
        have HN1 : Hid (NS w wo g B (stepN z1 i) (mk4 undef u0 u11 u12 u13) (mk4 [] al al (al.filter (ofK a b)) (al.filter (ofK 2 4)))) := Lib.hid (by rw [← hal]; exact HNS.out)
        have HLN := Lib.hid hln
        clear HNS hal hln
        generalize stepN z1 i = s at HN1 ⊢
        obtain ⟨A11, c11, hv11, hc11, hC11⟩ := Kd.R_reads (show E24.R 31 wo B _ u11 al from HN1.out.fam.r 1 (by omega))
        obtain ⟨A12, c12, hv12, hc12, hC12⟩ := Kd.R_reads (show E24.R 31 wo B _ u12 (al.filter (ofK a b)) from HN1.out.fam.r 2 (by omega))
        obtain ⟨A13, c13, hv13, hc13, hC13⟩ := Kd.R_reads (show E24.R 31 wo B _ u13 (al.filter (ofK 2 4)) from HN1.out.fam.r 3 (by omega))
        have HC11 := Lib.hid hC11
        have HC12 := Lib.hid hC12
        have HC13 := Lib.hid hC13
        have HEV : Hid (∀ W', Below wo.heap.size wo W' → Calls Try.prog 11 #[.pointer (some ⟨g, 0, none⟩)] W' fun e w' => ∃ v', e = .returned v' ∧ E24.R 31 w' W'.heap.size (fun _ => True) v' al ∧ Below W'.heap.size W' w') := Lib.hid (fun W' hW => Events_any W' g B _ u0 s al (HN1.out.below hW).lg ((HN1.out.below hW).fam.r 0 (by omega)) (by have := HLN.out; omega))
        have HST : Hid (∀ W', Below wo.heap.size wo W' → Calls Try.prog 14 #[.pointer (some ⟨g, 0, none⟩)] W' fun e w' => e = .returned (.int .i64 s) ∧ W' = w') := Lib.hid (fun W' hW => Step_any W' g u0 s (HN1.out.below hW).lg)
        have HBW := Lib.hid HN1.out.be
        have HB := Lib.hid (Below.refl wo.heap.size wo)
        have HL1 : Hid (al.length ≤ 128) := Lib.hid (by have := HLN.out; omega)
        have HL2 : Hid ((al.filter (ofK a b)).length ≤ 128) := Lib.hid (by have := HLN.out; have := List.length_filter_le (ofK a b) al; omega)
        have HL3 : Hid ((al.filter (ofK 2 4)).length ≤ 128) := Lib.hid (by have := HLN.out; have := List.length_filter_le (ofK 2 4) al; omega)
        rw [HLN.out] at hv11
        obtain ⟨of, hof⟩ : ∃ l, al.filter (ofK a b) = l := ⟨_, rfl⟩
        obtain ⟨od, hod⟩ : ∃ l, al.filter (ofK 2 4) = l := ⟨_, rfl⟩
        obtain ⟨n2, hn2⟩ : ∃ k, of.length = k := ⟨_, rfl⟩
        obtain ⟨n3, hn3⟩ : ∃ k, od.length = k := ⟨_, rfl⟩
        have HOF := Lib.hid hof
        have HOD := Lib.hid hod
        have HN2 := Lib.hid hn2
        have HN3 := Lib.hid hn3
        rw [hof, hn2] at hv12
        rw [hod, hn3] at hv13
        rw [hof] at HC12 HL2
        rw [hod] at HC13 HL3
        clear hC11 hC12 hC13 hc11 hc12 hc13 hof hod hn2 hn3
        subst hv11 hv12 hv13
        have zs : (s != s) = false := by simp
        go_upto_region 22 with (first
          | (go_at_call 11; refine (HEV.out _ HB.out).mono ?_; rintro e w3 ⟨v3, rfl, hr, hb⟩; (obtain ⟨A3, c3, hv3, -, hC3⟩ := Kd.R_reads hr); rw [HLN.out] at hv3; subst hv3; have HC3 := Lib.hid hC3; clear hr hC3; (have n_ := Lib.hid (below_step HB.out hb)); clear HB hb; have HB := n_; clear n_; have tok1 : True := trivial)
          | (have _t := tok1; go_at_call 10; go_loud (refine (same_at A3 A11 c3 c11 al i _ HLN.out HC3.out (Kd.C_below HC11.out HB.out) HL1.out).mono ?_); rintro e w4 ⟨rfl, hb⟩; clear tok1 _t HC3; (have n_ := Lib.hid (below_step HB.out hb)); clear HB hb; have HB := n_; clear n_)
          | (go_at_call 12; go_loud (refine (Of_any (.pointer (some ⟨g, 0, none⟩)) _ a b al _ _ (HEV.out _ (below_step HB.out (below_alloc (Below.refl _ _) _))) HL1.out (lit2 (blk_new _ _)) (Nat.le_refl _)).mono ?_); rintro e w5 ⟨v5, rfl, hr, hb0⟩; have hb := below_step (below_alloc (Below.refl _ _) _) hb0; (obtain ⟨A5, c5, hv5, -, hC5⟩ := Kd.R_reads hr); rw [HOF.out, HN2.out] at hv5; rw [HOF.out] at hC5; subst hv5; have HC5 := Lib.hid hC5; clear hr hC5 hb0; (have n_ := Lib.hid (below_step HB.out hb)); clear HB hb; have HB := n_; clear n_; have tok2 : True := trivial)
          | (have _t := tok2; go_at_call 10; go_loud (refine (same_at A5 A12 c5 c12 of n2 _ HN2.out HC5.out (Kd.C_below HC12.out HB.out) HL2.out).mono ?_); rintro e w6 ⟨rfl, hb⟩; clear tok2 _t HC5; (have n_ := Lib.hid (below_step HB.out hb)); clear HB hb; have HB := n_; clear n_)
          | (go_at_call 13; go_loud (refine (Order_any (.pointer (some ⟨g, 0, none⟩)) _ al (fun W1 hW => HEV.out W1 (below_step HB.out hW)) HL1.out).mono ?_); rintro e w7 ⟨v7, rfl, hr, hb⟩; (obtain ⟨A7, c7, hv7, -, hC7⟩ := Kd.R_reads hr); rw [HOD.out, HN3.out] at hv7; rw [HOD.out] at hC7; subst hv7; have HC7 := Lib.hid hC7; clear hr hC7; (have n_ := Lib.hid (below_step HB.out hb)); clear HB hb; have HB := n_; clear n_; have tok3 : True := trivial)
          | (have _t := tok3; go_at_call 10; go_loud (refine (same_at A7 A13 c7 c13 od n3 _ HN3.out HC7.out (Kd.C_below HC13.out HB.out) HL3.out).mono ?_); rintro e w8 ⟨rfl, hb⟩; clear tok3 _t HC7; (have n_ := Lib.hid (below_step HB.out hb)); clear HB hb; have HB := n_; clear n_)
          | (go_at_call 14; go_loud (refine (HST.out _ HB.out).mono ?_); rintro e w9 ⟨rfl, rfl⟩))
        clear zs HC12 HC13 HL2 HL3 HN2 HN3 HOF HOD HST
        have HC14 := Lib.hid (Kd.C_below HC11.out HB.out)
        have HCL : Hid (∀ c ∈ al, Flat.Leaves EL c) := Lib.hid (C_leaves HC11.out)
        go_upto_region 23 with (first
          | ((with_reducible refine gate_ (.build 31 #[]) rfl ?_); refine ev_zero rfl rfl ?_; intro ez hez hle; have HEZ := Lib.hid hez; have HZL := Lib.hid hle; clear hez hle)
          | ((with_reducible refine gate_ (.alloc 31) rfl ?_); refine ev_alloc rfl (N := 16) rfl rfl ?_; intro gf W1 hg hb1 hb; have BK := Lib.hid hb1; have HGF : Hid (wo.heap.size ≤ gf) := Lib.hid (by rw [hg]; exact HB.out.size); clear hg hb1; (have n_ := Lib.hid (below_step HB.out hb)); clear HB hb; have HB := n_; clear n_)
          | ((with_reducible refine gate_ (.store 31 (.tmp 16) (.tmp 119)) rfl ?_); refine ev_store rfl rfl _ _ rfl ez HZL.out BK.out rfl rfl rfl ?_; intro W2 hb2 hbb; have BF := Lib.hid hb2; have HB3 := Lib.hid (HB.out.grown hbb HB.out.size (fun j hj => by cases hj; exact HGF.out)); clear hb2 hbb HB BK))
        have HF0 : Hid (ez = ((al.take 0).find? (fnd a b)).getD zev ∧ false = ((al.take 0).find? (fnd a b)).isSome) := Lib.hid ⟨by rw [List.take_zero, HEZ.out]; rfl, by rw [List.take_zero]; rfl⟩
        have hi60 : i ≤ 60 := h60
        go_wp2
        go_loopg [17, 18] (i + 1) (fun kq v17 v18 w' => ∃ (k : Nat) (q : Bool) (F : List Value), v17 = .bool q ∧ v18 = .int .i64 k ∧ Aside0 (k + kq = i + 1 ∧ 1 ≤ kq) ∧ Aside0 (F = ((al.take k).find? (fnd a b)).getD zev ∧ q = ((al.take k).find? (fnd a b)).isSome) ∧ Aside0 (w'.heap[gf]? = some (.cells F.toArray 31 (0, 0))) ∧ Aside0 (Flat.Leaves EL F) ∧ Aside0 (Below wo.heap.size wo w'))
        case atStart => exact ⟨0, _, ez, rfl, rfl, ⟨by omega, by omega⟩, ⟨HF0.out⟩, ⟨BF.out⟩, ⟨HZL.out⟩, ⟨HB3.out⟩⟩
        case round =>
          clear HF0 BF HZL HB3 HEZ HC14
          obtain ⟨k, q, F, rfl, rfl, HJ, HF, BF, HFL, HB⟩ := hrel
          obtain ⟨k2, rfl⟩ : ∃ k2, gk = k2 + 1 := ⟨gk - 1, by have := HJ.out; omega⟩
          by_cases ck : k < i ∧ q = false
          · obtain ⟨ck, hq⟩ := ck
            have HF2 := Lib.hid HF.out.2
            subst hq
            have b1 : decide ((k : Int) < (i : Int)) = true := decide_eq_true (by omega)
            have b2 : decide (k < i) = true := decide_eq_true ck
            have xk : (0 ≤ (k : Int) ∧ (k : Int) < (i : Int)) = True := eq_true ⟨by omega, by omega⟩
            have yk : ((k : Int) < (i : Int)) = True := eq_true (by omega)
            have tk : ((k : Int)).toNat = k := by omega
            obtain ⟨ad, hAd, hL, hc0⟩ := ev_at (Kd.C_below HC11.out HB.out) k (by rw [HLN.out]; exact ck)
            subst hAd
            have hcell : Hid (∀ j u, (al.getD k [])[j]? = some u → wr.cell? ((ad.add (k * 24)).add j) = some u) := Lib.hid (fun j u hu => by rw [add_add]; exact hc0 j u hu)
            have f1 := hc0 1 _ (iv_is hL 1 (by omega)).1
            have f2 := hc0 2 _ (iv_is hL 2 (by omega)).1
            rw [add_field _ _ 1 (by omega)] at f1
            rw [add_field _ _ 2 (by omega)] at f2
            have HLV := Lib.hid hL
            have HIL : Hid (al[k]? = some (al.getD k [])) := Lib.hid (by
              have hil : k < al.length := by have := HLN.out; omega
              rw [List.getD_eq_getElem?_getD, List.getElem?_eq_getElem hil]; rfl)
            have HNO : Hid ((al.take k).find? (fnd a b) = none) := Lib.hid (by
              have h := HF2.out
              cases hh : (al.take k).find? (fnd a b) with
              | none => rfl
              | some y => rw [hh] at h; cases h)
            clear hL hc0 HF2
            generalize al.getD k [] = e at hcell HLV HIL f1 f2
            obtain ⟨x, hx⟩ : ∃ x, iv e 1 = x := ⟨_, rfl⟩
            obtain ⟨y, hy⟩ : ∃ y, iv e 2 = y := ⟨_, rfl⟩
            have HFE : Hid (fnd a b e = (x == a && y == b)) := Lib.hid (by unfold fnd; rw [hx, hy])
            rw [hx] at f1
            rw [hy] at f2
            clear hx hy
            by_cases xa : x = a
            · by_cases yb : y = b
              · have z1 : (x == a) = true := by simpa using xa
                have z2 : (y == b) = true := by simpa using yb
                have HFF : Hid ((al.take (k + 1)).find? (fnd a b) = some e) := Lib.hid (by
                  rw [List.take_add_one, HIL.out, List.find?_append, HNO.out, Option.none_or]
                  show [e].find? (fnd a b) = some e
                  rw [List.find?_cons_of_pos (by rw [HFE.out, z1, z2]; rfl)])
                clear xa yb
                go_wp2_with (first
                  | ((with_reducible refine gate_ (.load 31 (.tmp 148)) rfl ?_); refine ev_load rfl _ rfl e (Flat.Leaves.len HLV.out) rfl hcell.out ?_)
                  | ((with_reducible refine gate_ (.store 31 (.tmp 16) (.tmp 149)) rfl ?_); refine ev_store rfl rfl _ _ rfl e HLV.out BF.out (by rw [List.size_toArray]; exact Flat.Leaves.len HFL.out) rfl rfl ?_; intro W3 hb3 hbb; have BF2 := Lib.hid hb3; have HB4 := Lib.hid (HB.out.grown hbb HB.out.size (fun j hj => by cases hj; exact HGF.out)); clear hb3 hbb f1 f2))
                go_roundg k2
                case measure => have := HJ.out; omega
                case rel => exact ⟨k + 1, true, e, rfl, by go_num, ⟨by have := HJ.out; omega, by have := HJ.out; omega⟩, ⟨by rw [HFF.out]; exact ⟨rfl, rfl⟩⟩, ⟨BF2.out⟩, ⟨HLV.out⟩, ⟨HB4.out⟩⟩
              · have z1 : (x == a) = true := by simpa using xa
                have z2 : (y == b) = false := by simpa using yb
                have HFF : Hid ((al.take (k + 1)).find? (fnd a b) = none) := Lib.hid (find_step HNO.out HIL.out (by rw [HFE.out, z1, z2]; rfl))
                have HFZ : Hid (F = zev) := Lib.hid (by have h := HF.out.1; rw [HNO.out] at h; exact h)
                clear xa yb
                go_wp2
                go_roundg k2
                case measure => have := HJ.out; omega
                case rel => exact ⟨k + 1, false, F, rfl, by go_num, ⟨by have := HJ.out; omega, by have := HJ.out; omega⟩, ⟨by rw [HFF.out]; exact ⟨HFZ.out, rfl⟩⟩, ⟨BF.out⟩, ⟨HFL.out⟩, ⟨HB.out⟩⟩
            · have z1 : (x == a) = false := by simpa using xa
              have HFF : Hid ((al.take (k + 1)).find? (fnd a b) = none) := Lib.hid (find_step HNO.out HIL.out (by rw [HFE.out, z1]; rfl))
              have HFZ : Hid (F = zev) := Lib.hid (by have h := HF.out.1; rw [HNO.out] at h; exact h)
              clear xa
              go_wp2
              go_roundg k2
              case measure => have := HJ.out; omega
              case rel => exact ⟨k + 1, false, F, rfl, by go_num, ⟨by have := HJ.out; omega, by have := HJ.out; omega⟩, ⟨by rw [HFF.out]; exact ⟨HFZ.out, rfl⟩⟩, ⟨BF.out⟩, ⟨HFL.out⟩, ⟨HB.out⟩⟩
          · have HFA : Hid (F = found al a b ∧ q = (al.find? (fnd a b)).isSome) := Lib.hid (by
              have h := HF.out
              by_cases hk : k < i
              · have hq : q = true := by
                  cases q with
                  | true => rfl
                  | false => exact absurd ⟨hk, rfl⟩ ck
                have h2 := h.2
                rw [hq] at h2
                obtain ⟨y, hy⟩ := Option.isSome_iff_exists.1 h2.symm
                have h3 : al.find? (fnd a b) = some y := by
                  conv => lhs; rw [← List.take_append_drop k al]
                  rw [List.find?_append, hy]; rfl
                unfold found
                rw [h3, hq]
                rw [hy] at h
                exact ⟨h.1, rfl⟩
              · have hki : k = i := by have := HJ.out; omega
                rw [List.take_of_length_le (by have := HLN.out; omega)] at h
                exact h)
            have HFIN := Lib.hid (fun W' (hW : Below wo.heap.size wo W') => Find_any (.pointer (some ⟨g, 0, none⟩)) W' a b al (fun W1 hW1 => HEV.out W1 (below_step hW hW1)) HL1.out)
            have HFIM : Hid (∀ W', Below wo.heap.size wo W' → Calls Try.prog 15 #[.pointer (some ⟨g, 0, none⟩), .int .i64 a, .int .i64 b] W' fun e w' => e = .returned (.tuple #[.agg F.toArray, .bool q]) ∧ Below W'.heap.size W' w') := Lib.hid (fun W' hW => by rw [HFA.out.1, HFA.out.2]; exact HFIN.out W' hW)
            have hrf := refl31 HFL.out
            have zq : (q == q) = true := by simp
            have b1 : (decide ((k : Int) < (i : Int)) && !q) = false := by
              by_cases hk : k < i
              · cases q with
                | true => simp
                | false => exact absurd ⟨hk, rfl⟩ ck
              · rw [decide_eq_false (by omega)]; rfl
            clear HFIN HFA HF
            obtain ⟨p, hp⟩ : ∃ p, decide ((k : Int) < (i : Int)) = p := ⟨_, rfl⟩
            have hp2 : decide (k < i) = p := by rw [← hp]; congr 1; exact propext (by omega)
            rw [hp] at b1
            cases p with
            | false =>
              go_wp2_with (first
                | (go_at_call 15; refine (HFIM.out _ HB.out).mono ?_; rintro e3 w3 ⟨rfl, hb⟩; (have n_ := Lib.hid (below_step HB.out hb)); have m_ := Lib.hid (blk_below BF.out hb); clear HB hb BF; have HB := n_; have BF := m_; clear n_ m_)
                | ((with_reducible refine gate_ (.alloc 31) rfl ?_); refine ev_alloc rfl (N := 19) rfl rfl ?_; intro ge W1 hg hb1 hb; have BK := Lib.hid hb1; have HG2 : Hid (wo.heap.size ≤ ge ∧ gf < ge) := Lib.hid ⟨by rw [hg]; exact HB.out.size, by rw [hg]; exact blk_lt BF.out⟩; clear hg hb1; (have n_ := Lib.hid (below_step HB.out hb)); have m_ := Lib.hid (blk_below BF.out hb); clear HB hb BF; have HB := n_; have BF := m_; clear n_ m_)
                | ((with_reducible refine gate_ (.store 31 (.tmp 19) (.tmp 155)) rfl ?_); refine ev_store rfl rfl _ _ rfl F HFL.out BK.out rfl rfl rfl ?_; intro W2 hb2 hbb; have BK2 := Lib.hid hb2; have HB9 := Lib.hid (HB.out.grown hbb HB.out.size (fun j hj => by cases hj; exact HG2.out.1)); have BF9 := Lib.hid ((hbb.block gf (blk_lt BF.out) (by intro h; injection h with h; have := HG2.out.2; omega)).trans BF.out); clear hb2 hbb HB BK BF HG2)
                | ((with_reducible refine gate_ (.load 31 (.tmp 19)) rfl ?_); refine ev_load rfl _ rfl F (Flat.Leaves.len HFL.out) rfl (blk_cells BK2.out) ?_)
                | ((with_reducible refine gate_ (.load 31 (.tmp 16)) rfl ?_); refine ev_load rfl _ rfl F (Flat.Leaves.len HFL.out) rfl (blk_cells BF9.out) ?_)
                | (go_at_call 7; refine (awake19_any _).mono ?_; rintro e3 w6 ⟨rfl, hb⟩; have HB10 := Lib.hid (below_step HB9.out hb); clear hb))
              go_ret
              exact ⟨rfl, below_step HBW.out HB10.out⟩
            | true =>
              obtain rfl : q = true := by
                cases q with
                | true => rfl
                | false => exact absurd b1 (by decide)
              clear b1
              go_wp2_with (first
                | (go_at_call 15; refine (HFIM.out _ HB.out).mono ?_; rintro e3 w3 ⟨rfl, hb⟩; (have n_ := Lib.hid (below_step HB.out hb)); have m_ := Lib.hid (blk_below BF.out hb); clear HB hb BF; have HB := n_; have BF := m_; clear n_ m_)
                | ((with_reducible refine gate_ (.alloc 31) rfl ?_); refine ev_alloc rfl (N := 19) rfl rfl ?_; intro ge W1 hg hb1 hb; have BK := Lib.hid hb1; have HG2 : Hid (wo.heap.size ≤ ge ∧ gf < ge) := Lib.hid ⟨by rw [hg]; exact HB.out.size, by rw [hg]; exact blk_lt BF.out⟩; clear hg hb1; (have n_ := Lib.hid (below_step HB.out hb)); have m_ := Lib.hid (blk_below BF.out hb); clear HB hb BF; have HB := n_; have BF := m_; clear n_ m_)
                | ((with_reducible refine gate_ (.store 31 (.tmp 19) (.tmp 155)) rfl ?_); refine ev_store rfl rfl _ _ rfl F HFL.out BK.out rfl rfl rfl ?_; intro W2 hb2 hbb; have BK2 := Lib.hid hb2; have HB9 := Lib.hid (HB.out.grown hbb HB.out.size (fun j hj => by cases hj; exact HG2.out.1)); have BF9 := Lib.hid ((hbb.block gf (blk_lt BF.out) (by intro h; injection h with h; have := HG2.out.2; omega)).trans BF.out); clear hb2 hbb HB BK BF HG2)
                | ((with_reducible refine gate_ (.load 31 (.tmp 19)) rfl ?_); refine ev_load rfl _ rfl F (Flat.Leaves.len HFL.out) rfl (blk_cells BK2.out) ?_)
                | ((with_reducible refine gate_ (.load 31 (.tmp 16)) rfl ?_); refine ev_load rfl _ rfl F (Flat.Leaves.len HFL.out) rfl (blk_cells BF9.out) ?_)
                | (go_at_call 7; refine (awake19_any _).mono ?_; rintro e3 w6 ⟨rfl, hb⟩; have HB10 := Lib.hid (below_step HB9.out hb); clear hb))
              go_ret
              exact ⟨rfl, below_step HBW.out HB10.out⟩
end Go.Proofs.Yteeaimbinhmjfaa.Hist
