/- hist.Log: Of gives the events of two kinds, in order; Order those of kinds 2 and 4. -/
import Derived.Test.YteeaimbinhmjfaaHist5
import Derived.Test.YteeaimbinhmjfaaPHistSoundsx1
namespace Go.Proofs.Yteeaimbinhmjfaa.Hist
open Go.RowKit Go.Proofs.Yteeaimbinhmjfaa.PHistSounds Go.Proofs.Yteeaimbinhmjfaa.Flat Go.Proofs.YteeaimbinhmjfaaW.PrintWords Go.Proofs.YteeaimbinhmjfaaW.PrintLast Go.Proofs.YteeaimbinhmjfaaW.PrintMore
set_option linter.unusedVariables false
set_option linter.unusedSimpArgs false
set_option maxRecDepth 100000
theorem cont2 (a b x : Int) : slices_Contains_int_int.f 3 [a, b] x = some (x == a || x == b) := by
  unfold slices_Contains_int_int.f slices_Index_int_int.f
  have e1 : wrap64 1 = 1 := by unfold wrap64; omega
  have e2 : wrap64 2 = 2 := by unfold wrap64; omega
  by_cases h1 : x = a
  · subst h1
    simp [slices_Index_int_int.l0, rd]
  · by_cases h2 : x = b
    · subst h2
      simp [slices_Index_int_int.l0, rd, h1, e1]
    · simp [slices_Index_int_int.l0, rd, h1, h2, e1, e2]
theorem Contains2 (A : Option Addr) (c : Nat) (a b x : Int) (W : World) (hC : (Kd.int .i64).C W A 2 [a, b]) (hc : 2 ≤ c) : Calls Try.prog 17 #[.slice A 2 c, .int .i64 x] W fun e w' => e = .returned (.bool (x == a || x == b)) ∧ Below W.heap.size W w' :=
  (slices_Contains_int_int.calls 3 A c [a, b] x _ W hC hc (cont2 a b x)).mono fun e w' ⟨h1, h2⟩ => ⟨h1, h2.below⟩
def ofK (a b : Int) (c : List Value) : Bool := iv c 1 == a || iv c 1 == b
set_option maxHeartbeats 4000000 in
theorem Of_any (p : Value) (W : World) (a b : Int) (l : List (List Value)) (A : Option Addr) (c : Nat) (hE : Calls Try.prog 11 #[p] W fun e w' => ∃ v', e = .returned v' ∧ E24.R 31 w' W.heap.size (fun _ => True) v' l ∧ Below W.heap.size W w') (hl : l.length ≤ 128)
    (hC : (Kd.int .i64).C W A 2 [a, b]) (hc : 2 ≤ c) :
    Calls Try.prog 12 #[p, .slice A 2 c] W fun e w' => ∃ v', e = .returned v' ∧ E24.R 31 w' W.heap.size (fun _ => True) v' (l.filter (ofK a b)) ∧ Below W.heap.size W w' := by
  have HE := Lib.hid hE
  have HC := Lib.hid hC
  have HC2 := Lib.hid hc
  obtain ⟨n, hn⟩ : ∃ n, l.length = n := ⟨_, rfl⟩
  have HN := Lib.hid hn
  have hn128 : n ≤ 128 := by omega
  clear hE hC hc hn hl
  go_enter Try.func12, Try.ntmps12
  go_upto_region 3 with (go_at_call 11; refine HE.out.mono ?_; rintro e w1 ⟨v1, rfl, hr, hb⟩; have HR1 := Lib.hid hr; have HB1 := Lib.hid hb; clear hr hb; (obtain ⟨A1, c1, hv, hc1, hC1⟩ := Kd.R_reads HR1.out); rw [HN.out] at hv hc1; subst hv; have HE1 := Lib.hid hC1; clear hC1 HR1)
  have HO0 : Hid (E24.R 31 w1 w1.heap.size (fun _ => True) (.slice none 0 0) ((l.take 0).filter (ofK a b))) := Lib.hid (by rw [List.take_zero]; exact Kd.R_nil _ _ _ _ _)
  go_wp2
  go_loopg [5, 11] (n + 1) (fun kq v5 v11 w' => ∃ i : Nat, v11 = .int .i64 i ∧ Aside0 (i + kq = n + 1 ∧ 1 ≤ kq) ∧ Aside0 (E24.R 31 w' w1.heap.size (fun _ => True) v5 ((l.take i).filter (ofK a b))) ∧ Aside0 (Below w1.heap.size w1 w'))
  case atStart => exact ⟨0, rfl, ⟨by omega, by omega⟩, ⟨HO0.out⟩, ⟨Below.refl _ _⟩⟩
  case round =>
    clear HO0
    obtain ⟨i, rfl, HI, HO, HB⟩ := hrel
    obtain ⟨k1, rfl⟩ : ∃ k1, gk = k1 + 1 := ⟨gk - 1, by have := HI.out; omega⟩
    by_cases ci : i < n
    · have d1 : decide ((i : Int) < (n : Int)) = true := decide_eq_true (by omega)
      have d2 : decide (i < n) = true := decide_eq_true ci
      have x0 : (0 ≤ (i : Int) ∧ (i : Int) < (n : Int)) = True := eq_true ⟨by omega, by omega⟩
      have y0 : ((i : Int) < (n : Int)) = True := eq_true (by omega)
      have xt : ((i : Int)).toNat = i := by omega
      obtain ⟨ad, hAd, hL, hc0⟩ := ev_at (Kd.C_below HE1.out HB.out) i (by rw [HN.out]; exact ci)
      subst hAd
      have hcell : Hid (∀ j u, (l.getD i [])[j]? = some u → wr.cell? ((ad.add (i * 24)).add j) = some u) := Lib.hid (fun j u hu => by rw [add_add]; exact hc0 j u hu)
      have HLV := Lib.hid hL
      have HTK : Hid (l.take (i + 1) = l.take i ++ [l.getD i []]) := Lib.hid (by
        have hil : i < l.length := by have := HN.out; omega
        rw [List.take_add_one, List.getD_eq_getElem?_getD, List.getElem?_eq_getElem hil]; rfl)
      have HLN : Hid (((l.take i).filter (ofK a b)).length ≤ 127) := Lib.hid (by have := List.length_filter_le (ofK a b) (l.take i); rw [List.length_take] at this; omega)
      clear hL hc0
      generalize l.getD i [] = e at hcell HLV HTK
      go_upto_region 5 with (first
        | ((with_reducible refine gate_ (.load 31 (.tmp 13)) rfl ?_); refine ev_load rfl _ rfl e (Flat.Leaves.len HLV.out) rfl hcell.out ?_)
        | ((with_reducible refine gate_ (.alloc 31) rfl ?_); refine ev_alloc rfl (N := 7) rfl rfl ?_; intro ge W1 hg hb1 hbb; have BK := Lib.hid hb1; have HB2 := Lib.hid hbb; have HG := Lib.hid hg; clear hg hb1 hbb)
        | ((with_reducible refine gate_ (.store 31 (.tmp 7) (.tmp 14)) rfl ?_); refine ev_store rfl rfl _ _ rfl e HLV.out BK.out rfl rfl rfl ?_; intro W2 hb2 hbb; have BK2 := Lib.hid hb2; have HB3 := Lib.hid (HB2.out.grown hbb HB2.out.size (fun j hj => by cases hj; rw [HG.out]; exact Nat.le_refl _)); clear hb2 hbb HB2 BK))
      have HO2 := Lib.hid (Kd.R_below HO.out HB3.out)
      have HB4 := Lib.hid (below_step HB.out HB3.out)
      have HCW := Lib.hid (Kd.C_below HC.out (below_step HB1.out HB4.out))
      clear HO HB HB3 hcell HG
      obtain ⟨x, hx⟩ : ∃ x, iv e 1 = x := ⟨_, rfl⟩
      have f1 : W2.cell? ⟨ge, 1, none⟩ = some (.int .i64 x) := (blk_cell BK2.out 1).trans (by rw [List.getElem?_toArray, ← hx]; exact (iv_is HLV.out 1 (by omega)).1)
      obtain ⟨q, hq⟩ : ∃ q, (x == a || x == b) = q := ⟨_, rfl⟩
      have KC : Hid (Calls Try.prog 17 #[.slice A 2 c, .int .i64 x] W2 fun e w' => e = .returned (.bool q) ∧ Below W2.heap.size W2 w') := Lib.hid (by rw [← hq]; exact Contains2 A c a b x W2 HCW.out HC2.out)
      have HQ : Hid (ofK a b e = q) := Lib.hid (by unfold ofK; rw [hx]; exact hq)
      clear hx hq HCW
      obtain ⟨lx, hlx⟩ : ∃ lx, (l.take i).filter (ofK a b) = lx := ⟨_, rfl⟩
      rw [hlx] at HO2 HLN
      have HLX := Lib.hid hlx
      clear hlx
      cases q with
      | false =>
        have HFL : Hid ((l.take (i + 1)).filter (ofK a b) = lx) := Lib.hid (by rw [HTK.out, List.filter_append, HLX.out]; simp [HQ.out])
        go_wp2_with (go_at_call 17; refine KC.out.mono ?_; rintro e w4 ⟨rfl, hb⟩; have HO3 := Lib.hid (Kd.R_below HO2.out hb); have HB5 := Lib.hid (below_step HB4.out hb); clear hb)
        go_roundg k1
        case measure => have := HI.out; omega
        case rel => exact ⟨i + 1, by go_num, ⟨by have := HI.out; omega, by have := HI.out; omega⟩, ⟨by rw [HFL.out]; exact HO3.out⟩, ⟨HB5.out⟩⟩
      | true =>
        have HFL : Hid ((l.take (i + 1)).filter (ofK a b) = lx ++ [e]) := Lib.hid (by rw [HTK.out, List.filter_append, HLX.out]; simp [HQ.out])
        go_wp2_with (first
          | (go_at_call 17; refine KC.out.mono ?_; rintro e w4 ⟨rfl, hb⟩; have HO3 := Lib.hid (Kd.R_below HO2.out hb); have HB5 := Lib.hid (below_step HB4.out hb); have BK3 := Lib.hid (blk_below BK2.out hb); clear hb BK2 HO2 HB4)
          | ((with_reducible refine gate_ (.load 31 (.tmp 7)) rfl ?_); refine ev_load rfl _ rfl e (Flat.Leaves.len HLV.out) rfl (blk_cells BK3.out) ?_)
          | ((with_reducible refine gate_ (.buildSlice 22 1 #[(0, .tmp 20)]) rfl ?_); refine Kd.event_run rfl (exec_lit _ rfl e (Flat.Leaves.len HLV.out) rfl) ?_)
          | ((with_reducible refine gate_builtin (b := .append) (xs := #[.tmp 19, .tmp 21]) rfl ?_); at_builtin; refine Kd.R_append E24 (w0 := w1) w1.heap.size rfl (.tmp 19) (.tmp 21) 22 31 _ 192 rfl Try.underlying22 info24 zev_cells E24_sz (by omega) _ lx e e (fun _ => True) (fun _ => False) rfl rfl ?aP (fun _ hk => hk.elim) ?aF ?aO ?aB ?aS ?aL ?_; (case aP => exact ⟨rfl, HLV.out⟩); (case aB => exact HB5.out); (case aF => exact (fun _ _ => trivial)); (case aO => exact HO3.out); (case aS => exact HB5.out.size); (case aL => have := HLN.out; omega); intro v113 w5 ho hb hg hat; have HO5 := Lib.hid ho; have HB6 := Lib.hid hb; clear ho hb hg hat HO3 HB5))
        go_roundg k1
        case measure => have := HI.out; omega
        case rel => exact ⟨i + 1, by go_num, ⟨by have := HI.out; omega, by have := HI.out; omega⟩, ⟨by rw [HFL.out]; exact HO5.out⟩, ⟨HB6.out⟩⟩
    · obtain rfl : i = n := by have := HI.out; omega
      have d1 : decide ((i : Int) < (i : Int)) = false := decide_eq_false (by omega)
      have d2 : decide (i < i) = false := decide_eq_false ci
      go_wp2
      go_ret
      exact ⟨_, rfl, by have h := HO.out; rw [List.take_of_length_le (by have := HN.out; omega)] at h; exact Kd.R_lower h HB1.out.size, below_step HB1.out HB.out⟩
end Go.Proofs.Yteeaimbinhmjfaa.Hist
