/- hist.Log.Note: for every log and every list of events: they are noted behind those that were, each with the log's step. -/
import Derived.Test.YteeaimbinhmjfaaHist3
import Derived.Deep.RegionHeld3
namespace Go.Proofs.Yteeaimbinhmjfaa.Hist
open Go.RowKit Go.Proofs.Yteeaimbinhmjfaa.Flat Go.Proofs.YteeaimbinhmjfaaW.PrintWords Go.Proofs.YteeaimbinhmjfaaW.PrintLast Go.Proofs.YteeaimbinhmjfaaW.PrintMore
set_option linter.unusedVariables false
set_option linter.unusedSimpArgs false
set_option maxRecDepth 100000
theorem zev_cells : (Value.agg #[.int .i64 0, .int .i64 0, .int .i64 0, .int .i64 0, .int .i64 0, .int .i64 0, .int .i64 0, .int .i64 0, .int .i64 0, .bool false, .int .i64 0, .int .i64 0, .int .i64 0, .int .i64 0, .int .i64 0, .int .i64 0, .int .i64 0, .int .i64 0, .int .i64 0, .int .i64 0, .int .i64 0, .int .i64 0, .int .i64 0, .bool false]).cells.size = E24.sz := rfl
theorem E24_sz : 0 < E24.sz := by show 0 < 24; decide
set_option maxHeartbeats 4000000 in
theorem Note_any (W : World) (g B : Nat) (ok : Nat → Prop) (v : Value) (s : Int) (l xs : List (List Value)) (A : Option Addr) (c : Nat) (hlg : W.heap[g]? = some (.cells #[v, .int .i64 s] 37 (0, 0))) (hR : E24.R 31 W B ok v l) (hB : B ≤ W.heap.size) (hok : ∀ k, ok k → k ≠ g) (hnew : ∀ k, W.heap.size ≤ k → ok k) (hs : (Lit.int .i64 s).wf = true)
    (hC : E24.C W A xs.length xs) (hA : ∀ ad, A = some ad → 0 < xs.length → ¬ (ad.block = g ∨ some ad.block = v.ownBlock)) (hl : l.length + xs.length ≤ 128) :
    Calls Try.prog 9 #[.pointer (some ⟨g, 0, none⟩), .slice A xs.length c] W fun e w' => e = .returned (.tuple #[]) ∧ ∃ v', NT W w' g B ok v v' s (l ++ xs.map (setS s)) := by
  have H0 : Hid (NT W W g B ok v v s (l ++ (xs.take 0).map (setS s))) := Lib.hid (by rw [List.take_zero, List.map_nil, List.append_nil]; exact ⟨hlg, hR, .inl rfl, Chg.refl _ _⟩)
  obtain ⟨n, hn⟩ : ∃ n, xs.length = n := ⟨_, rfl⟩
  have HC := Lib.hid hC
  have HA := Lib.hid hA
  have HL := Lib.hid hl
  have HOK := Lib.hid hok
  have HNEW := Lib.hid hnew
  have HS := Lib.hid hs
  have HBS := Lib.hid hB
  have HXN := Lib.hid hn
  rw [hn] at HC HA HL ⊢
  have hn128 : n ≤ 128 := by omega
  clear hlg hR hB hok hnew hs hC hA hl hn
  go_enter Try.func9, Try.ntmps9
  go_wp2
  go_loopg [10] (n + 1) (fun kq v10 w' => ∃ (i : Nat) (v1 : Value), v10 = .int .i64 i ∧ Aside0 (i + kq = n + 1 ∧ 1 ≤ kq) ∧ Aside0 (NT W w' g B ok v v1 s (l ++ (xs.take i).map (setS s))))
  case atStart => exact ⟨0, v, rfl, ⟨by omega, by omega⟩, ⟨H0.out⟩⟩
  case round =>
    clear H0
    obtain ⟨i, v1, rfl, HI, HNT⟩ := hrel
    obtain ⟨k1, rfl⟩ : ∃ k1, gk = k1 + 1 := ⟨gk - 1, by have := HI.out; omega⟩
    by_cases ci : i < n
    · have d1 : decide ((i : Int) < (n : Int)) = true := decide_eq_true (by omega)
      have d2 : decide (i < n) = true := decide_eq_true ci
      have x0 : (0 ≤ (i : Int) ∧ (i : Int) < (n : Int)) = True := eq_true ⟨by omega, by omega⟩
      have y0 : ((i : Int) < (n : Int)) = True := eq_true (by omega)
      have xt : ((i : Int)).toNat = i := by omega
      obtain ⟨ad, hAd, hL, hc0⟩ := ev_at (C_chg HNT.out.ch HC.out (fun ad e hp => HA.out ad e hp)) i ci
      subst hAd
      have hcell : Hid (∀ j u, (xs.getD i [])[j]? = some u → wr.cell? ((ad.add (i * 24)).add j) = some u) := Lib.hid (fun j u hu => by rw [add_add]; exact hc0 j u hu)
      have HLV := Lib.hid hL
      have HTK : Hid (xs.take (i + 1) = xs.take i ++ [xs.getD i []]) := Lib.hid (by
        have hil : i < xs.length := by have := HXN.out; omega
        rw [List.take_add_one, List.getD_eq_getElem?_getD, List.getElem?_eq_getElem hil]; rfl)
      have HLN : Hid ((l ++ (xs.take i).map (setS s)).length ≤ 127) := Lib.hid (by have := HL.out; have := HXN.out; rw [List.length_append, List.length_map, List.length_take]; omega)
      clear hL hc0
      generalize xs.getD i [] = e at hcell HLV HTK
      go_upto_region 4 with (first
        | ((with_reducible refine gate_ (.load 31 (.tmp 12)) rfl ?_); refine ev_load rfl _ rfl e (Flat.Leaves.len HLV.out) rfl hcell.out ?_)
        | ((with_reducible refine gate_ (.alloc 31) rfl ?_); refine ev_alloc rfl (N := 5) rfl rfl ?_; intro ge W1 hg hb1 hbb; have BK := Lib.hid hb1; have HB2 := Lib.hid hbb; have HG := Lib.hid hg; clear hg hb1 hbb)
        | ((with_reducible refine gate_ (.store 31 (.tmp 5) (.tmp 13)) rfl ?_); refine ev_store rfl rfl _ _ rfl e HLV.out BK.out rfl rfl rfl ?_; intro W2 hb2 hbb; have BK2 := Lib.hid hb2; have HB := Lib.hid (HB2.out.grown hbb HB2.out.size (fun j hj => by cases hj; rw [HG.out]; exact Nat.le_refl _)); clear hb2 hbb HB2 BK))
      clear hcell
      have p1 := (HNT.out.below HB.out).c1
      have q0 : W2.cell? ⟨ge, 0, none⟩ = e[0]? := (blk_cell BK2.out 0).trans (List.getElem?_toArray ..)
      rw [(iv_is HLV.out 0 (by omega)).1] at q0
      have q1 := blk_frozen BK2.out 0
      go_upto_region 5 with fail
      have HB3 := Lib.hid (HB.out.setCell (p := ⟨ge, 0, none⟩) (by rw [HG.out]; exact Nat.le_refl _) (.int .i64 s))
      have HT : Hid (NT W (W2.setCell ⟨ge, 0, none⟩ (.int .i64 s)) g B ok v v1 s (l ++ (xs.take i).map (setS s))) := Lib.hid (HNT.out.below HB3.out)
      have BK3 : Hid ((W2.setCell ⟨ge, 0, none⟩ (.int .i64 s)).heap[ge]? = some (.cells (setS s e).toArray 31 (0, 0))) := Lib.hid (blk_put BK2.out 0 (.int .i64 s) (setS_array s e))
      have HE2 : Hid (Flat.Leaves EL (setS s e)) := Lib.hid (setS_ok s HS.out HLV.out)
      have HTM : Hid (l ++ (xs.take (i + 1)).map (setS s) = (l ++ (xs.take i).map (setS s)) ++ [setS s e]) := Lib.hid (by rw [HTK.out, List.map_append, List.map_singleton, List.append_assoc])
      clear p1 q0 q1 BK2 HB HB3 HNT HLV HTK HG
      generalize W2.setCell ⟨ge, 0, none⟩ (.int .i64 s) = W3 at HT BK3 ⊢
      generalize setS s e = e2 at BK3 HE2 HTM
      generalize l ++ (xs.take i).map (setS s) = lx at HT HLN HTM
      refine start_ (n := 11) (S := fun w' => w'.cell? ⟨g, 0, none⟩ = some v1) (ds := [7, 10]) #[false, false, false, false, false, false, false, false, false, false, false] (by kernel_rfl) rfl rfl (HT.out.c0) (fun hHeld => ?_)
      have n_ := Lib.hid HT.out.drew
      have m_ := Lib.hid (blk_drew BK3.out)
      clear HT BK3
      have HT := n_
      have BK3 := m_
      clear n_ m_
      generalize W3.drew = w5 at HT BK3 hHeld ⊢
      have f0 := blk_frozen HT.out.lg 0
      refine pure_ (i := 0) (N := some 19) (v := ?_) (a' := ?_) #[true, false, false, false, false, false, false, false, false, false, false] rfl rfl (by kernel_rfl) (fun _ _ _ h => h) (Or.inl ⟨by rfl, ?_⟩) ?_ ?_
      rotate_left
      · intro w'
        go_simp
        with_reducible rfl
      rotate_left
      · simp only [Act.put, List.setIfInBounds_toArray, List.set_cons_zero, List.set_cons_succ, i64_w, i32_w]
        rfl
      refine pure_ (i := 1) (N := some 20) (v := ?_) (a' := ?_) #[true, true, false, false, false, false, false, false, false, false, false] rfl rfl (by kernel_rfl) (fun _ _ _ h => h) (Or.inl ⟨by rfl, ?_⟩) ?_ ?_
      rotate_left
      · intro w'
        go_simp
        with_reducible rfl
      rotate_left
      · simp only [Act.put, List.setIfInBounds_toArray, List.set_cons_zero, List.set_cons_succ, i64_w, i32_w]
        rfl
      refine pure_ (i := 2) (N := some 21) (v := ?_) (a' := ?_) #[true, true, true, false, false, false, false, false, false, false, false] rfl rfl (by kernel_rfl) (fun _ _ _ h => h) (Or.inl ⟨by rfl, ?_⟩) ?_ ?_
      rotate_left
      · intro w'
        go_simp
        with_reducible rfl
      rotate_left
      · simp only [Act.put, List.setIfInBounds_toArray, List.set_cons_zero, List.set_cons_succ, i64_w, i32_w]
        rfl
      refine pure_ (i := 3) (N := some 22) (v := ?_) (a' := ?_) #[true, true, true, true, false, false, false, false, false, false, false] rfl rfl (by kernel_rfl) (fun _ _ _ h => h) (Or.inl ⟨by rfl, ?_⟩) ?_ ?_
      rotate_left
      · intro w'
        go_simp
        with_reducible rfl
      rotate_left
      · simp only [Act.put, List.setIfInBounds_toArray, List.set_cons_zero, List.set_cons_succ, i64_w, i32_w]
        rfl
      refine take_ (i := 4) (N := some 23) (v := ?_) (a' := ?_) #[true, true, true, true, true, false, false, false, false, false, false] rfl rfl (by kernel_rfl) (fun _ _ _ h => h) (Or.inl ⟨by rfl, ?_⟩) hHeld ?_ ?_
      rotate_left
      · intro w' s0
        go_simp
        with_reducible rfl
      rotate_left
      · simp only [Act.put, List.setIfInBounds_toArray, List.set_cons_zero, List.set_cons_succ, i64_w, i32_w]
        rfl
      refine one_ (i := 5) (N := some 24) #[true, true, true, true, true, true, false, false, false, false, false] rfl rfl (by kernel_rfl) (by decide) (fun K hK => ?_)
      refine value_ (w1 := _) (v := _) (by rfl) rfl (exec_load (.tmp 5) rfl rfl e2 (Flat.Leaves.len HE2.out) (blk_cells BK3.out)) ?_
      refine hK.out _ _ (HT.out.c0) (fun hHeld => ?_)
      clear hK K
      refine norm_ (a' := ?_) ?_ ?_
      rotate_left
      · show Act.put _ (some 24) _ = _
        simp only [Act.put, List.setIfInBounds_toArray, List.set_cons_zero, List.set_cons_succ, i64_w, i32_w]
        rfl
      refine one_ (i := 6) (N := some 25) #[true, true, true, true, true, true, true, false, false, false, false] rfl rfl (by kernel_rfl) (by decide) (fun K hK => ?_)
      refine value_ (w1 := _) (v := _) (by rfl) rfl (exec_lit _ rfl e2 (Flat.Leaves.len HE2.out) rfl) ?_
      have HT2 := Lib.hid (HT.out.below (below_alloc (Below.refl _ _) (.cells e2.toArray 31)))
      refine hK.out _ _ (HT2.out.c0) (fun hHeld => ?_)
      clear hK K
      refine norm_ (a' := ?_) ?_ ?_
      rotate_left
      · show Act.put _ (some 25) _ = _
        simp only [Act.put, List.setIfInBounds_toArray, List.set_cons_zero, List.set_cons_succ, i64_w, i32_w]
        rfl
      refine last_ (i := 7) (N := some 26) #[true, true, true, true, true, true, true, true, false, false, false] rfl rfl (by kernel_rfl) (by decide) (fun K hK => ?_)
      refine Kd.R_append_step E24 (w0 := ?wz1) B (by rfl) (.tmp 23) (.tmp 25) 22 31 _ 192 rfl Try.underlying22 info24 zev_cells E24_sz (by omega) v1 lx e2 e2 ok (fun _ => False) rfl rfl ?aP1 (fun _ hk => hk.elim) ?aF1 ?aO1 ?aB1 ?aS1 ?aL1 ?_
      case aP1 => exact ⟨rfl, HE2.out⟩
      case aB1 => exact Below.refl _ _
      case aF1 => exact (fun k hk => HNEW.out k (Nat.le_trans HT.out.ch.size hk))
      case aO1 => exact HT.out.r
      case aS1 => exact Nat.le_trans HBS.out HT.out.ch.size
      case aL1 => have := HLN.out; omega
      intro v2 w6 ho hb hg hat
      obtain ⟨A8, k8, hv8⟩ := Kd.R_slice ho
      rw [List.length_append, List.length_singleton] at hv8
      subst hv8
      have HT3 := Lib.hid (HT.out.app HOK.out ho hg hat)
      have hbg := hg.block g HT.out.lt (fun e => HOK.out g (HT.out.r.1 g e.symm) rfl)
      have c0 := (World.cell?_of_block (a := ⟨g, 0, none⟩) hbg).trans HT.out.c0
      have f0 := (World.frozen?_of_block (a := ⟨g, 0, none⟩) hbg).trans f0
      clear ho hb hg hat hbg
      refine hK.out _ _ ?_
      clear hK K
      refine norm_ (a' := ?_) ?_ ?_
      rotate_left
      · show Act.put _ (some 26) _ = _
        simp only [Act.put, List.setIfInBounds_toArray, List.set_cons_zero, List.set_cons_succ, i64_w, i32_w]
        rfl
      refine pure_ (i := 8) (N := some 27) (v := ?_) (a' := ?_) #[true, true, true, true, true, true, true, true, true, false, false] rfl rfl (by kernel_rfl) (fun _ _ _ h => h) (Or.inl ⟨by rfl, ?_⟩) ?_ ?_
      rotate_left
      · intro w'
        go_simp
        with_reducible rfl
      rotate_left
      · simp only [Act.put, List.setIfInBounds_toArray, List.set_cons_zero, List.set_cons_succ, i64_w, i32_w]
        rfl
      refine pure_ (i := 9) (N := some 28) (v := ?_) (a' := ?_) #[true, true, true, true, true, true, true, true, true, true, false] rfl rfl (by kernel_rfl) (fun _ _ _ h => h) (Or.inl ⟨by rfl, ?_⟩) ?_ ?_
      rotate_left
      · intro w'
        go_simp
        with_reducible rfl
      rotate_left
      · simp only [Act.put, List.setIfInBounds_toArray, List.set_cons_zero, List.set_cons_succ, i64_w, i32_w]
        rfl
      refine last_ (i := 10) (N := none) #[true, true, true, true, true, true, true, true, true, true, true] rfl rfl (by kernel_rfl) (by decide) (fun K hK => ?_)
      refine skip_ (w1 := ?_) (by rfl) rfl ?_ ?_
      rotate_left
      · go_simp
        rfl
      refine hK.out _ _ ?_
      clear hK K
      refine done_ (by kernel_rfl) ?_
      clear HT HT2 hHeld f0 c0 BK3
      generalize w6.setCell ⟨g, 0, none⟩ (.slice A8 (lx.length + 1) k8) = w7 at HT3 ⊢
      generalize (Value.slice A8 (lx.length + 1) k8) = v9 at HT3 ⊢
      go_wp2
      go_roundg k1
      case measure => have := HI.out; omega
      case rel => exact ⟨i + 1, v9, by go_num, ⟨by have := HI.out; omega, by have := HI.out; omega⟩, ⟨by rw [HTM.out]; exact HT3.out⟩⟩
    · obtain rfl : i = n := by have := HI.out; omega
      have d1 : decide ((i : Int) < (i : Int)) = false := decide_eq_false (by omega)
      have d2 : decide (i < i) = false := decide_eq_false ci
      go_wp2
      go_end0
      exact ⟨rfl, v1, by have h := HNT.out; rw [List.take_of_length_le (by have := HXN.out; omega)] at h; exact h⟩
end Go.Proofs.Yteeaimbinhmjfaa.Hist
