/- req.Read, where the head is right. -/
import Derived.Test.YtplajmcjkddikaaReqRead
namespace Go.Proofs.Ytplajmcjkddikaa.ReqRead
open Go.RowKit Go.Proofs.YtplajmcjkddikaaW.PrintWords Go.Proofs.YtplajmcjkddikaaW.PrintLast Go.Proofs.YtplajmcjkddikaaW.PrintMore Go.Proofs.Ytplajmcjkddikaa.Leb Go.Proofs.Ytplajmcjkddikaa.Wire Go.Proofs.Ytplajmcjkddikaa.Reader Go.Proofs.Ytplajmcjkddikaa.Lock Go.Proofs.Ytplajmcjkddikaa.Req Go.Proofs.Ytplajmcjkddikaa.ReqLaw
set_option linter.unusedVariables false
set_option linter.unusedSimpArgs false

set_option maxRecDepth 100000 in
set_option maxHeartbeats 4000000 in
theorem read_good (w : World) (A : Option Addr) (c : Nat) (b0 b1 last : Int) (mid : List Int) (hl : mid.length ≤ 61) (hC : Kd.C (Kd.int .u8) w A (b0 :: b1 :: (mid ++ [last])).length (b0 :: b1 :: (mid ++ [last]))) (hc : mid.length + 3 ≤ c)
    (g1 : b0 = 183) (g2 : 1 ≤ b1 ∧ b1 ≤ 13) (g3 : sm (b0 :: b1 :: mid) = last) (hmid : ∀ c ∈ mid, 0 ≤ c ∧ c < 256) :
    Calls Try.prog 86 #[.slice A (mid.length + 3) c] w fun r w' => r = .returned (.tuple #[.agg (qc (rd b1 mid).1), .int .i64 (rd b1 mid).2]) ∧ Below w.heap.size w w' := by
  have hu1 := Try.underlying64
  have U1 := Try.underlying38
  obtain ⟨i0, hi, hz0, hz1, hz2⟩ := info_parts info_u8
  have hCt : Kd.C (Kd.int .u8) w A (b0 :: b1 :: mid).length (b0 :: b1 :: mid) := by
    have := Kd.C_take (m := mid.length + 2) hC (by simp)
    rwa [show (b0 :: b1 :: (mid ++ [last])).take (mid.length + 2) = b0 :: b1 :: mid by simp] at this
  have HS := Lib.hid (fun (w' : World) (h : Below w.heap.size w w') => sum_any A c (b0 :: b1 :: mid) w' (Kd.C_below hCt h) (by simp; omega) (by simp; omega))
  have k1 := cut_to (P := Try.prog) 38 5 .i64 U1 hi A (mid.length + 3) c ((mid.length : Int) + 2) (by omega) (by omega) (by omega)
  rw [show ((mid.length : Int) + 2).toNat = mid.length + 2 by omega] at k1
  rw [show (b0 :: b1 :: mid).length = mid.length + 2 by simp] at HS
  obtain ⟨A2, k2, hA2⟩ : ∃ A2, (∀ W : World, (Instr.slice 38 (.slice A (mid.length + 3) c) (some (.int .i64 2)) (some (.int .i64 ((mid.length : Int) + 2))) none).run Try.prog W = .ok (.slice A2 mid.length (c - 2)) W) ∧ Kd.C (Kd.int .u8) w A2 mid.length mid := by
    have h1 := cut_mid (P := Try.prog) 38 5 .i64 .i64 U1 hi 1 hz1 A (mid.length + 3) c 2 ((mid.length : Int) + 2) (by omega) (by omega) (by omega) (by omega)
    have h2 := Kd.C_mid (c := c) (lo := 2) (hi := mid.length + 2) hC (by omega) (by simp) (by simpa using hc)
    have e1 : ((b0 :: b1 :: (mid ++ [last])).take (mid.length + 2)).drop 2 = mid := by simp
    rw [e1] at h2
    rw [show ((mid.length : Int) + 2).toNat - (2 : Int).toNat = mid.length by omega, show (2 : Int).toNat = 2 from rfl] at h1
    exact ⟨_, h1, h2⟩
  obtain ⟨ad, rfl, h0, h1, h2⟩ := at_three hC
  have hlt : ad.block < w.heap.size := World.block_lt_of_cell? w _ h0
  have HW := Lib.hid (fun (w' : World) (h : Below w.heap.size w w') => And.intro ((h.cell (p := ad) hlt).trans h0) (And.intro ((h.cell (p := ⟨ad.block, ad.off + 1, none⟩) hlt).trans h1) ((h.cell (p := ⟨ad.block, ad.off + (mid.length + 1 + 1), none⟩) hlt).trans h2)))
  have a1 : (mid.length : Int) + 3 ≤ 64 := by omega
  have a2 : ¬ (mid.length : Int) + 3 < 3 := by omega
  rw [g3] at HS
  have c1 : (b0 != 183) = false := by simpa using g1
  have c2 : (last != last) = false := by simp
  have HI := Lib.hid (is_any b1)
  rw [decide_eq_true g2] at HI
  have HA2 := Lib.hid hA2
  have HMB := Lib.hid hmid
  have HG2 := Lib.hid g2
  have HR : Hid (rd b1 mid = rd b1 mid) := Lib.hid rfl
  have d0 : (0 : Int) < (mid.length : Int) + 3 := by omega
  have d1 : (1 : Int) < (mid.length : Int) + 3 := by omega
  have d2 : (0 : Int) ≤ (mid.length : Int) + 2 := by omega
  have d3 : (mid.length : Int) + 2 < (mid.length : Int) + 3 := by omega
  have d4 : ((mid.length : Int) + 2).toNat = mid.length + 2 := by omega
  have d6 : IntKind.i64.wrap b1 = b1 := by rw [IntKind.wrap_i64]; omega
  have d7 : wrap64 b1 = b1 := by unfold wrap64; omega
  have d5 : IntKind.i64.wrap ((mid.length : Int) + 3 - 1) = (mid.length : Int) + 2 := by rw [IntKind.wrap_i64]; omega
  clear hC hCt hz0 hz1 hz2 hi h0 h1 h2 g1 g2 g3 hA2 hmid
  go_enter Try.func86, Try.ntmps86
  go_upto_region 5 with fail
  have h1 := blk_new w (.cells #[.int .i64 0, .int .i64 0, .int .i64 0, .int .i64 0, .int .i64 0, .int .i64 0, .bool false, .int .i64 0, .int .i64 0] 64)
  have h2 : Below w.heap.size w (w.alloc (.cells #[.int .i64 0, .int .i64 0, .int .i64 0, .int .i64 0, .int .i64 0, .int .i64 0, .bool false, .int .i64 0, .int .i64 0] 64)) := by go_grown
  generalize w.alloc (.cells #[.int .i64 0, .int .i64 0, .int .i64 0, .int .i64 0, .int .i64 0, .int .i64 0, .bool false, .int .i64 0, .int .i64 0] 64) = W at h1 h2 ⊢
  have BK0 := Lib.hid (blk_drew h1)
  have HB := Lib.hid (below_drew1 h2)
  clear h1 h2
  refine start_ (n := 28) (S := fun w' => w'.cell? ad = some (.int .u8 b0) ∧ w'.cell? ⟨ad.block, ad.off + 1, none⟩ = some (.int .u8 b1) ∧ w'.cell? ⟨ad.block, ad.off + (mid.length + 1 + 1), none⟩ = some (.int .u8 last)) (ds := []) #[false, false, false, false, false, false, false, false, false, false, false, false, false, false, false, false, false, false, false, false, false, false, false, false, false, false, false, false] (by kernel_rfl) rfl rfl ⟨(HW.out _ HB.out).1, (HW.out _ HB.out).2.1, (HW.out _ HB.out).2.2⟩ (fun hHeld => ?_)
  generalize W.drew = w5 at BK0 HB hHeld ⊢
  refine pure_ (i := 0) (N := some 17) (v := ?_) (a' := ?_) #[true, false, false, false, false, false, false, false, false, false, false, false, false, false, false, false, false, false, false, false, false, false, false, false, false, false, false, false] rfl rfl (by kernel_rfl) (fun _ _ _ h => h) (Or.inl ⟨by rfl, ?_⟩) ?_ ?_
  rotate_left
  · intro w'
    go_simp
    with_reducible rfl
  rotate_left
  · simp only [Act.put, List.setIfInBounds_toArray, List.set_cons_zero, List.set_cons_succ, i64_w, i32_w]
    rfl
  refine pure_ (i := 1) (N := some 18) (v := ?_) (a' := ?_) #[true, true, false, false, false, false, false, false, false, false, false, false, false, false, false, false, false, false, false, false, false, false, false, false, false, false, false, false] rfl rfl (by kernel_rfl) (fun _ _ _ h => h) (Or.inl ⟨by rfl, ?_⟩) ?_ ?_
  rotate_left
  · intro w'
    go_simp
    with_reducible rfl
  rotate_left
  · simp only [Act.put, List.setIfInBounds_toArray, List.set_cons_zero, List.set_cons_succ, i64_w, i32_w]
    rfl
  refine take_ (i := 2) (N := some 19) (v := ?_) (a' := ?_) #[true, true, true, false, false, false, false, false, false, false, false, false, false, false, false, false, false, false, false, false, false, false, false, false, false, false, false, false] rfl rfl (by kernel_rfl) (fun _ _ _ h => h) (Or.inl ⟨by rfl, ?_⟩) hHeld ?_ ?_
  rotate_left
  · rintro w' ⟨s0, s1, s2⟩
    go_simp
    with_reducible rfl
  rotate_left
  · simp only [Act.put, List.setIfInBounds_toArray, List.set_cons_zero, List.set_cons_succ, i64_w, i32_w]
    rfl
  refine pure_ (i := 3) (N := some 20) (v := ?_) (a' := ?_) #[true, true, true, true, false, false, false, false, false, false, false, false, false, false, false, false, false, false, false, false, false, false, false, false, false, false, false, false] rfl rfl (by kernel_rfl) (fun _ _ _ h => h) (Or.inl ⟨by rfl, ?_⟩) ?_ ?_
  rotate_left
  · intro w'
    go_simp
    with_reducible rfl
  rotate_left
  · simp only [Act.put, List.setIfInBounds_toArray, List.set_cons_zero, List.set_cons_succ, i64_w, i32_w]
    rfl
  refine pure_ (i := 4) (N := some 21) (v := ?_) (a' := ?_) #[true, true, true, true, true, false, false, false, false, false, false, false, false, false, false, false, false, false, false, false, false, false, false, false, false, false, false, false] rfl rfl (by kernel_rfl) (fun _ _ _ h => h) (Or.inl ⟨by rfl, ?_⟩) ?_ ?_
  rotate_left
  · intro w'
    go_simp
    with_reducible rfl
  rotate_left
  · simp only [Act.put, List.setIfInBounds_toArray, List.set_cons_zero, List.set_cons_succ, i64_w, i32_w]
    rfl
  refine pure_ (i := 5) (N := some 22) (v := ?_) (a' := ?_) #[true, true, true, true, true, true, false, false, false, false, false, false, false, false, false, false, false, false, false, false, false, false, false, false, false, false, false, false] rfl rfl (by kernel_rfl) (fun _ _ _ h => h) (Or.inl ⟨by rfl, ?_⟩) ?_ ?_
  rotate_left
  · intro w'
    go_simp
    with_reducible rfl
  rotate_left
  · simp only [Act.put, List.setIfInBounds_toArray, List.set_cons_zero, List.set_cons_succ, i64_w, i32_w]
    rfl
  refine pure_ (i := 6) (N := some 23) (v := ?_) (a' := ?_) #[true, true, true, true, true, true, true, false, false, false, false, false, false, false, false, false, false, false, false, false, false, false, false, false, false, false, false, false] rfl rfl (by kernel_rfl) (fun _ _ _ h => h) (Or.inl ⟨by rfl, ?_⟩) ?_ ?_
  rotate_left
  · intro w'
    go_simp
    with_reducible rfl
  rotate_left
  · simp only [Act.put, List.setIfInBounds_toArray, List.set_cons_zero, List.set_cons_succ, i64_w, i32_w]
    rfl
  refine take_ (i := 7) (N := some 24) (v := ?_) (a' := ?_) #[true, true, true, true, true, true, true, true, false, false, false, false, false, false, false, false, false, false, false, false, false, false, false, false, false, false, false, false] rfl rfl (by kernel_rfl) (fun _ _ _ h => h) (Or.inl ⟨by rfl, ?_⟩) hHeld ?_ ?_
  rotate_left
  · rintro w' ⟨s0, s1, s2⟩
    go_simp
    with_reducible rfl
  rotate_left
  · simp only [Act.put, List.setIfInBounds_toArray, List.set_cons_zero, List.set_cons_succ, i64_w, i32_w]
    rfl
  refine pure_ (i := 8) (N := some 25) (v := ?_) (a' := ?_) #[true, true, true, true, true, true, true, true, true, false, false, false, false, false, false, false, false, false, false, false, false, false, false, false, false, false, false, false] rfl rfl (by kernel_rfl) (fun _ _ _ h => h) (Or.inl ⟨by rfl, ?_⟩) ?_ ?_
  rotate_left
  · intro w'
    go_simp
    with_reducible rfl
  rotate_left
  · simp only [Act.put, List.setIfInBounds_toArray, List.set_cons_zero, List.set_cons_succ, i64_w, i32_w]
    rfl
  refine one_ (i := 9) (N := some 26) #[true, true, true, true, true, true, true, true, true, true, false, false, false, false, false, false, false, false, false, false, false, false, false, false, false, false, false, false] rfl rfl (by kernel_rfl) (by decide) (fun K hK => ?_)
  refine goes_ Try.func55 (by kernel_rfl) rfl #[.int .i64 b1] (by rfl) rfl rfl (by (try simp only [List.map_toArray, List.map_cons, List.map_nil]); first | done | rfl | (simp only [List.length_drop, List.length_take]; rfl)) ?_
  with_reducible refine (HI.out _).mono ?_
  rintro e w3 ⟨rfl, hd⟩
  refine ⟨_, rfl, ?_⟩
  have hb := hd.below
  have n0_ := Lib.hid (blk_below BK0.out hb)
  have n2_ := Lib.hid (HB.out.trans (hb.mono HB.out.size))
  clear BK0 HB hb hd
  have BK0 := n0_
  have HB := n2_
  clear n0_ n2_
  refine hK.out _ _ ⟨(HW.out _ HB.out).1, (HW.out _ HB.out).2.1, (HW.out _ HB.out).2.2⟩ (fun hHeld => ?_)
  clear hK K
  refine norm_ (a' := ?_) ?_ ?_
  rotate_left
  · show Act.put _ (some 26) _ = _
    simp only [Act.put, List.setIfInBounds_toArray, List.set_cons_zero, List.set_cons_succ, i64_w, i32_w]
    rfl
  refine pure_ (i := 10) (N := some 27) (v := ?_) (a' := ?_) #[true, true, true, true, true, true, true, true, true, true, true, false, false, false, false, false, false, false, false, false, false, false, false, false, false, false, false, false] rfl rfl (by kernel_rfl) (fun _ _ _ h => h) (Or.inl ⟨by rfl, ?_⟩) ?_ ?_
  rotate_left
  · intro w'
    go_simp
    with_reducible rfl
  rotate_left
  · simp only [Act.put, List.setIfInBounds_toArray, List.set_cons_zero, List.set_cons_succ, i64_w, i32_w]
    rfl
  refine pure_ (i := 11) (N := some 28) (v := ?_) (a' := ?_) #[true, true, true, true, true, true, true, true, true, true, true, true, false, false, false, false, false, false, false, false, false, false, false, false, false, false, false, false] rfl rfl (by kernel_rfl) (fun _ _ _ h => h) (Or.inl ⟨by rfl, ?_⟩) ?_ ?_
  rotate_left
  · intro w'
    go_simp
    with_reducible rfl
  rotate_left
  · simp only [Act.put, List.setIfInBounds_toArray, List.set_cons_zero, List.set_cons_succ, i64_w, i32_w]
    rfl
  refine pure_ (i := 12) (N := some 29) (v := ?_) (a' := ?_) #[true, true, true, true, true, true, true, true, true, true, true, true, true, false, false, false, false, false, false, false, false, false, false, false, false, false, false, false] rfl rfl (by kernel_rfl) (fun _ _ _ h => h) (Or.inl ⟨by rfl, ?_⟩) ?_ ?_
  rotate_left
  · intro w'
    go_simp
    with_reducible rfl
  rotate_left
  · simp only [Act.put, List.setIfInBounds_toArray, List.set_cons_zero, List.set_cons_succ, i64_w, i32_w]
    rfl
  refine pure_ (i := 13) (N := some 30) (v := ?_) (a' := ?_) #[true, true, true, true, true, true, true, true, true, true, true, true, true, true, false, false, false, false, false, false, false, false, false, false, false, false, false, false] rfl rfl (by kernel_rfl) (fun _ _ _ h => h) (Or.inl ⟨by rfl, ?_⟩) ?_ ?_
  rotate_left
  · intro w'
    go_simp
    with_reducible rfl
  rotate_left
  · simp only [Act.put, List.setIfInBounds_toArray, List.set_cons_zero, List.set_cons_succ, i64_w, i32_w]
    rfl
  refine pure_ (i := 14) (N := some 31) (v := ?_) (a' := ?_) #[true, true, true, true, true, true, true, true, true, true, true, true, true, true, true, false, false, false, false, false, false, false, false, false, false, false, false, false] rfl rfl (by kernel_rfl) (fun _ _ _ h => h) (Or.inl ⟨by rfl, ?_⟩) ?_ ?_
  rotate_left
  · intro w'
    go_simp
    with_reducible rfl
  rotate_left
  · simp only [Act.put, List.setIfInBounds_toArray, List.set_cons_zero, List.set_cons_succ, i64_w, i32_w]
    rfl
  refine pure_ (i := 15) (N := some 32) (v := ?_) (a' := ?_) #[true, true, true, true, true, true, true, true, true, true, true, true, true, true, true, true, false, false, false, false, false, false, false, false, false, false, false, false] rfl rfl (by kernel_rfl) (fun _ _ _ h => h) (Or.inl ⟨by rfl, ?_⟩) ?_ ?_
  rotate_left
  · intro w'
    go_simp
    with_reducible rfl
  rotate_left
  · simp only [Act.put, List.setIfInBounds_toArray, List.set_cons_zero, List.set_cons_succ, i64_w, i32_w]
    rfl
  refine pure_ (i := 16) (N := some 33) (v := ?_) (a' := ?_) #[true, true, true, true, true, true, true, true, true, true, true, true, true, true, true, true, true, false, false, false, false, false, false, false, false, false, false, false] rfl rfl (by kernel_rfl) (fun _ _ _ h => h) (Or.inl ⟨by rfl, ?_⟩) ?_ ?_
  rotate_left
  · intro w'
    go_simp
    with_reducible rfl
  rotate_left
  · simp only [Act.put, List.setIfInBounds_toArray, List.set_cons_zero, List.set_cons_succ, i64_w, i32_w]
    rfl
  refine pure_ (i := 17) (N := some 34) (v := ?_) (a' := ?_) #[true, true, true, true, true, true, true, true, true, true, true, true, true, true, true, true, true, true, false, false, false, false, false, false, false, false, false, false] rfl rfl (by kernel_rfl) (fun _ _ _ h => h) (Or.inl ⟨by rfl, ?_⟩) ?_ ?_
  rotate_left
  · intro w'
    go_simp
    with_reducible rfl
  rotate_left
  · simp only [Act.put, List.setIfInBounds_toArray, List.set_cons_zero, List.set_cons_succ, i64_w, i32_w]
    rfl
  refine pure_ (i := 19) (N := some 36) (v := ?_) (a' := ?_) #[true, true, true, true, true, true, true, true, true, true, true, true, true, true, true, true, true, true, false, true, false, false, false, false, false, false, false, false] rfl rfl (by kernel_rfl) (fun _ _ _ h => h) (Or.inl ⟨by rfl, ?_⟩) ?_ ?_
  rotate_left
  · intro w'
    go_simp
    with_reducible rfl
  rotate_left
  · simp only [Act.put, List.setIfInBounds_toArray, List.set_cons_zero, List.set_cons_succ, i64_w, i32_w]
    rfl
  refine pure_ (i := 20) (N := some 37) (v := ?_) (a' := ?_) #[true, true, true, true, true, true, true, true, true, true, true, true, true, true, true, true, true, true, false, true, true, false, false, false, false, false, false, false] rfl rfl (by kernel_rfl) (fun _ _ _ h => h) (Or.inl ⟨by rfl, ?_⟩) ?_ ?_
  rotate_left
  · intro w'
    go_simp
    with_reducible rfl
  rotate_left
  · simp only [Act.put, List.setIfInBounds_toArray, List.set_cons_zero, List.set_cons_succ, i64_w, i32_w]
    rfl
  refine pure_ (i := 21) (N := some 38) (v := ?_) (a' := ?_) #[true, true, true, true, true, true, true, true, true, true, true, true, true, true, true, true, true, true, false, true, true, true, false, false, false, false, false, false] rfl rfl (by kernel_rfl) (fun _ _ _ h => h) (Or.inl ⟨by rfl, ?_⟩) ?_ ?_
  rotate_left
  · intro w'
    go_simp
    with_reducible rfl
  rotate_left
  · simp only [Act.put, List.setIfInBounds_toArray, List.set_cons_zero, List.set_cons_succ, i64_w, i32_w]
    rfl
  refine pure_ (i := 22) (N := some 39) (v := ?_) (a' := ?_) #[true, true, true, true, true, true, true, true, true, true, true, true, true, true, true, true, true, true, false, true, true, true, true, false, false, false, false, false] rfl rfl (by kernel_rfl) (fun _ _ _ h => h) (Or.inl ⟨by rfl, ?_⟩) ?_ ?_
  rotate_left
  · intro w'
    go_simp
    with_reducible rfl
  rotate_left
  · simp only [Act.put, List.setIfInBounds_toArray, List.set_cons_zero, List.set_cons_succ, i64_w, i32_w]
    rfl
  refine pure_ (i := 23) (N := some 40) (v := ?_) (a' := ?_) #[true, true, true, true, true, true, true, true, true, true, true, true, true, true, true, true, true, true, false, true, true, true, true, true, false, false, false, false] rfl rfl (by kernel_rfl) (fun _ _ _ h => h) (Or.inl ⟨by rfl, ?_⟩) ?_ ?_
  rotate_left
  · intro w'
    go_simp
    with_reducible rfl
  rotate_left
  · simp only [Act.put, List.setIfInBounds_toArray, List.set_cons_zero, List.set_cons_succ, i64_w, i32_w]
    rfl
  refine take_ (i := 24) (N := some 41) (v := ?_) (a' := ?_) #[true, true, true, true, true, true, true, true, true, true, true, true, true, true, true, true, true, true, false, true, true, true, true, true, true, false, false, false] rfl rfl (by kernel_rfl) (fun _ _ _ h => h) (Or.inl ⟨by rfl, ?_⟩) hHeld ?_ ?_
  rotate_left
  · rintro w' ⟨s0, s1, s2⟩
    go_simp
    with_reducible rfl
  rotate_left
  · simp only [Act.put, List.setIfInBounds_toArray, List.set_cons_zero, List.set_cons_succ, i64_w, i32_w]
    rfl
  refine one_ (i := 18) (N := some 35) #[true, true, true, true, true, true, true, true, true, true, true, true, true, true, true, true, true, true, true, true, true, true, true, true, true, false, false, false] rfl rfl (by kernel_rfl) (by decide) (fun K hK => ?_)
  refine goes_ Try.func108 (by kernel_rfl) rfl #[.slice (some ad) (mid.length + 2) c] (by rfl) rfl rfl (by (try simp only [List.map_toArray, List.map_cons, List.map_nil]); first | done | rfl | (simp only [List.length_drop, List.length_take]; rfl)) ?_
  with_reducible refine (HS.out _ HB.out).mono ?_
  rintro e w3 ⟨rfl, hd⟩
  refine ⟨_, rfl, ?_⟩
  have hb := hd.below
  have n0_ := Lib.hid (blk_below BK0.out hb)
  have n2_ := Lib.hid (HB.out.trans (hb.mono HB.out.size))
  clear BK0 HB hb hd
  have BK0 := n0_
  have HB := n2_
  clear n0_ n2_
  refine hK.out _ _ ⟨(HW.out _ HB.out).1, (HW.out _ HB.out).2.1, (HW.out _ HB.out).2.2⟩ (fun hHeld => ?_)
  clear hK K
  refine norm_ (a' := ?_) ?_ ?_
  rotate_left
  · show Act.put _ (some 35) _ = _
    simp only [Act.put, List.setIfInBounds_toArray, List.set_cons_zero, List.set_cons_succ, i64_w, i32_w]
    rfl
  refine pure_ (i := 25) (N := some 42) (v := ?_) (a' := ?_) #[true, true, true, true, true, true, true, true, true, true, true, true, true, true, true, true, true, true, true, true, true, true, true, true, true, true, false, false] rfl rfl (by kernel_rfl) (fun _ _ _ h => h) (Or.inl ⟨by rfl, ?_⟩) ?_ ?_
  rotate_left
  · intro w'
    go_simp
    with_reducible rfl
  rotate_left
  · simp only [Act.put, List.setIfInBounds_toArray, List.set_cons_zero, List.set_cons_succ, i64_w, i32_w]
    rfl
  refine pure_ (i := 26) (N := some 43) (v := ?_) (a' := ?_) #[true, true, true, true, true, true, true, true, true, true, true, true, true, true, true, true, true, true, true, true, true, true, true, true, true, true, true, false] rfl rfl (by kernel_rfl) (fun _ _ _ h => h) (Or.inl ⟨by rfl, ?_⟩) ?_ ?_
  rotate_left
  · intro w'
    go_simp
    with_reducible rfl
  rotate_left
  · simp only [Act.put, List.setIfInBounds_toArray, List.set_cons_zero, List.set_cons_succ, i64_w, i32_w]
    rfl
  refine pure_ (i := 27) (N := some 16) (v := ?_) (a' := ?_) #[true, true, true, true, true, true, true, true, true, true, true, true, true, true, true, true, true, true, true, true, true, true, true, true, true, true, true, true] rfl rfl (by kernel_rfl) (fun _ _ _ h => h) (Or.inl ⟨by rfl, ?_⟩) ?_ ?_
  rotate_left
  · intro w'
    go_simp
    with_reducible rfl
  rotate_left
  · simp only [Act.put, List.setIfInBounds_toArray, List.set_cons_zero, List.set_cons_succ, i64_w, i32_w]
    rfl
  refine done_ (by kernel_rfl) ?_
  have c3 : ∀ w', Below w.heap.size w w' → w'.cell? ⟨ad.block, ad.off + 1, none⟩ = some (.int .u8 b1) := fun w' h => (HW.out w' h).2.1
  have C3 := Lib.hid c3
  clear c3
  go_upto_block 1 with (go_at_call 48; refine (read_rd w3 A2 (c - 2) mid (Kd.C_below HA2.out HB.out) (by omega)).mono ?_; rintro e w4 ⟨rfl, hr4⟩; have hx1 := C3.out w4 (HB.out.trans (hr4.low.mono HB.out.size)))
  have e1 := blk_new w4 (.cells #[.int .i64 b1, .int .i64 0, .int .i64 0, .int .i64 0, .int .i64 0, .int .i64 0, .bool false, .int .i64 0, .int .i64 0] 64)
  have e2 := hr4.below ((Below.refl w4.heap.size w4).alloc (Nat.le_refl _) (.cells #[.int .i64 b1, .int .i64 0, .int .i64 0, .int .i64 0, .int .i64 0, .int .i64 0, .bool false, .int .i64 0, .int .i64 0] 64))
  have e3 : w3.heap.size < w4.heap.size := hr4.lt
  obtain ⟨g, hg⟩ : ∃ g, w3.heap.size = g := ⟨_, rfl⟩
  generalize w4.alloc (.cells #[.int .i64 b1, .int .i64 0, .int .i64 0, .int .i64 0, .int .i64 0, .int .i64 0, .bool false, .int .i64 0, .int .i64 0] 64) = W at e1 e2 ⊢
  generalize w4.heap.size = q at e1 e3 ⊢
  rw [hg] at e2 e3 ⊢
  have E1 := Lib.hid e1
  have E2 := Lib.hid e2
  have E3 := Lib.hid e3
  have HG := Lib.hid hg
  clear e1 e2 e3 hg hr4 hx1 c1 c2 d0 d1 d2 d3 d4 d5 d6 d7 k1 k2
  go_cut [4] (fun v4 wx => ∃ q0 q1 q2 q3 q4 q5 q6 q7 q8 e ys, v4 = .pointer (some ⟨g, 0, none⟩) ∧ Aside0 (RS w3 wx g ys e) ∧ Aside0 (wx.heap[q]? = some (.cells #[.int .i64 q0, .int .i64 q1, .int .i64 q2, .int .i64 q3, .int .i64 q4, .int .i64 q5, .bool q6, .int .i64 q7, .int .i64 q8] 64 (0, 0))) ∧ Aside0 (fin (q0, q1, q2, q3, q4, q5, q6, q7, q8) e ys = rd b1 mid))
  case first =>
    have hgq : g ≠ q := by have := E3.out; omega
    have HGQ := Lib.hid hgq
    have hge : w3.heap.size ≤ q := by have := E3.out; have := HG.out; omega
    have HGE := Lib.hid hge
    clear hgq hge
    have hk : b1 = 1 ∨ b1 = 2 ∨ b1 = 3 ∨ b1 = 4 ∨ b1 = 5 ∨ b1 = 6 ∨ b1 = 7 ∨ b1 = 8 ∨ b1 = 9 ∨ (10 ≤ b1 ∧ b1 ≤ 13) := by have := HG2.out; omega
    clear a1 a2
    rcases hk with rfl | rfl | rfl | rfl | rfl | rfl | rfl | rfl | rfl | hk
    · have hs1 := sign_rd w3 W g mid 0 HMB.out E2.out
      have HB1 := Lib.hid (rawS_bytes mid HMB.out 0)
      have HR5 : Hid (rd 1 mid = fin (1, 0, (five mid).1.1, (five mid).1.2.1, (five mid).1.2.2.1, (five mid).1.2.2.2.1, (five mid).1.2.2.2.2, 0, 0) (five mid).2.1 (five mid).2.2) := Lib.hid rfl
      unfold five at HR5
      generalize rawS 0 mid = r1 at hs1 HB1 HR5
      obtain ⟨x1, u1, y1⟩ := r1
      try simp only at hs1 HB1 HR5
      have HB2 := Lib.hid (rawS_bytes y1 HB1.out x1)
      have HS2 := Lib.hid (fun (w' : World) (h : RS w3 w' g y1 x1) => sign_rd w3 w' g y1 x1 HB1.out h)
      generalize rawS x1 y1 = r2 at HS2 HB2 HR5
      obtain ⟨x2, u2, y2⟩ := r2
      try simp only at HS2 HB2 HR5
      have HB3 := Lib.hid (rawS_bytes y2 HB2.out x2)
      have HS3 := Lib.hid (fun (w' : World) (h : RS w3 w' g y2 x2) => sign_rd w3 w' g y2 x2 HB2.out h)
      generalize rawS x2 y2 = r3 at HS3 HB3 HR5
      obtain ⟨x3, u3, y3⟩ := r3
      try simp only at HS3 HB3 HR5
      have HB4 := Lib.hid (rawS_bytes y3 HB3.out x3)
      have HS4 := Lib.hid (fun (w' : World) (h : RS w3 w' g y3 x3) => sign_rd w3 w' g y3 x3 HB3.out h)
      generalize rawS x3 y3 = r4 at HS4 HB4 HR5
      obtain ⟨x4, u4, y4⟩ := r4
      try simp only at HS4 HB4 HR5
      have HS5 := Lib.hid (fun (w' : World) (h : RS w3 w' g y4 x4) => bool_rd w3 w' g y4 x4 HB4.out h)
      generalize boolS x4 y4 = r5 at HS5 HR5
      obtain ⟨v5, x5, y5⟩ := r5
      try simp only at HS5 HR5
      generalize zag u1 = z1 at hs1 HR5
      generalize zag u2 = z2 at HS2 HR5
      generalize zag u3 = z3 at HS3 HR5
      generalize zag u4 = z4 at HS4 HR5
      have HS1 := Lib.hid hs1
      clear hs1
      go_wp2_with fail
      refine (HS1.out).mono ?_
      rintro e wa1 ⟨rfl, hr1, hu1⟩
      have hk1 := Lib.hid (Go.Proofs.Ytplajmcjkddikaa.Far.Upd.blk hu1 E1.out (HGQ.out ·.symm))
      go_wp2_with fail
      refine (HS2.out _ hr1).mono ?_
      rintro e wa2 ⟨rfl, hr2, hu2⟩
      have hk2 := Lib.hid (Go.Proofs.Ytplajmcjkddikaa.Far.Upd.blk hu2 hk1.out (HGQ.out ·.symm))
      go_wp2_with fail
      refine (HS3.out _ hr2).mono ?_
      rintro e wa3 ⟨rfl, hr3, hu3⟩
      have hk3 := Lib.hid (Go.Proofs.Ytplajmcjkddikaa.Far.Upd.blk hu3 hk2.out (HGQ.out ·.symm))
      go_wp2_with fail
      refine (HS4.out _ hr3).mono ?_
      rintro e wa4 ⟨rfl, hr4, hu4⟩
      have hk4 := Lib.hid (Go.Proofs.Ytplajmcjkddikaa.Far.Upd.blk hu4 hk3.out (HGQ.out ·.symm))
      have hq_0 : wa4.cell? ⟨q, 0, none⟩ = some (.int .i64 1) := (blk_cell hk4.out 0).trans rfl
      have hqf_0 := blk_frozen hk4.out 0
      have hq_1 : wa4.cell? ⟨q, 1, none⟩ = some (.int .i64 0) := (blk_cell hk4.out 1).trans rfl
      have hqf_1 := blk_frozen hk4.out 1
      have hq_2 : wa4.cell? ⟨q, 2, none⟩ = some (.int .i64 0) := (blk_cell hk4.out 2).trans rfl
      have hqf_2 := blk_frozen hk4.out 2
      have hq_3 : wa4.cell? ⟨q, 3, none⟩ = some (.int .i64 0) := (blk_cell hk4.out 3).trans rfl
      have hqf_3 := blk_frozen hk4.out 3
      have hq_4 : wa4.cell? ⟨q, 4, none⟩ = some (.int .i64 0) := (blk_cell hk4.out 4).trans rfl
      have hqf_4 := blk_frozen hk4.out 4
      have hq_5 : wa4.cell? ⟨q, 5, none⟩ = some (.int .i64 0) := (blk_cell hk4.out 5).trans rfl
      have hqf_5 := blk_frozen hk4.out 5
      have hq_6 : wa4.cell? ⟨q, 6, none⟩ = some (.bool false) := (blk_cell hk4.out 6).trans rfl
      have hqf_6 := blk_frozen hk4.out 6
      have hq_7 : wa4.cell? ⟨q, 7, none⟩ = some (.int .i64 0) := (blk_cell hk4.out 7).trans rfl
      have hqf_7 := blk_frozen hk4.out 7
      have hq_8 : wa4.cell? ⟨q, 8, none⟩ = some (.int .i64 0) := (blk_cell hk4.out 8).trans rfl
      have hqf_8 := blk_frozen hk4.out 8
      have hr4' := Go.Proofs.Ytplajmcjkddikaa.Far.RS.far (Go.Proofs.Ytplajmcjkddikaa.Far.RS.far (Go.Proofs.Ytplajmcjkddikaa.Far.RS.far (Go.Proofs.Ytplajmcjkddikaa.Far.RS.far hr4 (p := ⟨q, 2, none⟩) HGQ.out HGE.out (.int .i64 z1)) (p := ⟨q, 3, none⟩) HGQ.out HGE.out (.int .i64 z2)) (p := ⟨q, 4, none⟩) HGQ.out HGE.out (.int .i64 z3)) (p := ⟨q, 5, none⟩) HGQ.out HGE.out (.int .i64 z4)
      have hk5 := Lib.hid (blk_set (blk_set (blk_set (blk_set hk4.out 2 (.int .i64 z1)) 3 (.int .i64 z2)) 4 (.int .i64 z3)) 5 (.int .i64 z4))
      have HR4 := Lib.hid hr4'
      clear hr4'
      go_wp2_with fail
      clear hq_0 hqf_0 hq_1 hqf_1 hq_2 hqf_2 hq_3 hqf_3 hq_4 hqf_4 hq_5 hqf_5 hq_6 hqf_6 hq_7 hqf_7 hq_8 hqf_8
      refine (HS5.out _ HR4.out).mono ?_
      rintro e wa5 ⟨rfl, hr5, hu5⟩
      have hk6 := Go.Proofs.Ytplajmcjkddikaa.Far.Upd.blk hu5 hk5.out (HGQ.out ·.symm)
      simp only [List.setIfInBounds_toArray, List.set_cons_zero, List.set_cons_succ] at hk6
      have hq_0 : wa5.cell? ⟨q, 0, none⟩ = some (.int .i64 1) := (blk_cell hk6 0).trans rfl
      have hqf_0 := blk_frozen hk6 0
      have hq_1 : wa5.cell? ⟨q, 1, none⟩ = some (.int .i64 0) := (blk_cell hk6 1).trans rfl
      have hqf_1 := blk_frozen hk6 1
      have hq_2 : wa5.cell? ⟨q, 2, none⟩ = some (.int .i64 z1) := (blk_cell hk6 2).trans rfl
      have hqf_2 := blk_frozen hk6 2
      have hq_3 : wa5.cell? ⟨q, 3, none⟩ = some (.int .i64 z2) := (blk_cell hk6 3).trans rfl
      have hqf_3 := blk_frozen hk6 3
      have hq_4 : wa5.cell? ⟨q, 4, none⟩ = some (.int .i64 z3) := (blk_cell hk6 4).trans rfl
      have hqf_4 := blk_frozen hk6 4
      have hq_5 : wa5.cell? ⟨q, 5, none⟩ = some (.int .i64 z4) := (blk_cell hk6 5).trans rfl
      have hqf_5 := blk_frozen hk6 5
      have hq_6 : wa5.cell? ⟨q, 6, none⟩ = some (.bool false) := (blk_cell hk6 6).trans rfl
      have hqf_6 := blk_frozen hk6 6
      have hq_7 : wa5.cell? ⟨q, 7, none⟩ = some (.int .i64 0) := (blk_cell hk6 7).trans rfl
      have hqf_7 := blk_frozen hk6 7
      have hq_8 : wa5.cell? ⟨q, 8, none⟩ = some (.int .i64 0) := (blk_cell hk6 8).trans rfl
      have hqf_8 := blk_frozen hk6 8
      go_wp2
      go_meet
      exact ⟨1, 0, z1, z2, z3, z4, v5, 0, 0, x5, y5, rfl, ⟨Go.Proofs.Ytplajmcjkddikaa.Far.RS.far hr5 (p := ⟨q, 6, none⟩) HGQ.out HGE.out _⟩, ⟨by simpa using blk_set hk6 6 (.bool v5)⟩, ⟨HR5.out.symm⟩⟩
    · have hs1 := sign_rd w3 W g mid 0 HMB.out E2.out
      have HR5 : Hid (rd 2 mid = fin (2, zag (rawS 0 mid).2.1, 0, 0, 0, 0, false, 0, 0) (rawS 0 mid).1 (rawS 0 mid).2.2) := Lib.hid (by simp [rd])
      generalize rawS 0 mid = r1 at hs1 HR5
      obtain ⟨x1, u1, y1⟩ := r1
      try simp only at hs1 HR5
      generalize zag u1 = z1 at hs1 HR5
      go_wp2_with fail
      refine hs1.mono ?_
      rintro e wa1 ⟨rfl, hr1, hu1⟩
      have hk1 := Go.Proofs.Ytplajmcjkddikaa.Far.Upd.blk hu1 E1.out (HGQ.out ·.symm)
      clear hs1
      have hq_0 : wa1.cell? ⟨q, 0, none⟩ = some (.int .i64 2) := (blk_cell hk1 0).trans rfl
      have hqf_0 := blk_frozen hk1 0
      have hq_1 : wa1.cell? ⟨q, 1, none⟩ = some (.int .i64 0) := (blk_cell hk1 1).trans rfl
      have hqf_1 := blk_frozen hk1 1
      have hq_2 : wa1.cell? ⟨q, 2, none⟩ = some (.int .i64 0) := (blk_cell hk1 2).trans rfl
      have hqf_2 := blk_frozen hk1 2
      have hq_3 : wa1.cell? ⟨q, 3, none⟩ = some (.int .i64 0) := (blk_cell hk1 3).trans rfl
      have hqf_3 := blk_frozen hk1 3
      have hq_4 : wa1.cell? ⟨q, 4, none⟩ = some (.int .i64 0) := (blk_cell hk1 4).trans rfl
      have hqf_4 := blk_frozen hk1 4
      have hq_5 : wa1.cell? ⟨q, 5, none⟩ = some (.int .i64 0) := (blk_cell hk1 5).trans rfl
      have hqf_5 := blk_frozen hk1 5
      have hq_6 : wa1.cell? ⟨q, 6, none⟩ = some (.bool false) := (blk_cell hk1 6).trans rfl
      have hqf_6 := blk_frozen hk1 6
      have hq_7 : wa1.cell? ⟨q, 7, none⟩ = some (.int .i64 0) := (blk_cell hk1 7).trans rfl
      have hqf_7 := blk_frozen hk1 7
      have hq_8 : wa1.cell? ⟨q, 8, none⟩ = some (.int .i64 0) := (blk_cell hk1 8).trans rfl
      have hqf_8 := blk_frozen hk1 8
      go_wp2
      go_meet
      exact ⟨2, z1, 0, 0, 0, 0, false, 0, 0, x1, y1, rfl, ⟨Go.Proofs.Ytplajmcjkddikaa.Far.RS.far hr1 (p := ⟨q, 1, none⟩) HGQ.out HGE.out _⟩, ⟨by simpa using blk_set hk1 1 (.int .i64 z1)⟩, ⟨HR5.out.symm⟩⟩
    · have hs1 := sign_rd w3 W g mid 0 HMB.out E2.out
      have HR5 : Hid (rd 3 mid = fin (3, zag (rawS 0 mid).2.1, 0, 0, 0, 0, false, 0, 0) (rawS 0 mid).1 (rawS 0 mid).2.2) := Lib.hid (by simp [rd])
      generalize rawS 0 mid = r1 at hs1 HR5
      obtain ⟨x1, u1, y1⟩ := r1
      try simp only at hs1 HR5
      generalize zag u1 = z1 at hs1 HR5
      go_wp2_with fail
      refine hs1.mono ?_
      rintro e wa1 ⟨rfl, hr1, hu1⟩
      have hk1 := Go.Proofs.Ytplajmcjkddikaa.Far.Upd.blk hu1 E1.out (HGQ.out ·.symm)
      clear hs1
      have hq_0 : wa1.cell? ⟨q, 0, none⟩ = some (.int .i64 3) := (blk_cell hk1 0).trans rfl
      have hqf_0 := blk_frozen hk1 0
      have hq_1 : wa1.cell? ⟨q, 1, none⟩ = some (.int .i64 0) := (blk_cell hk1 1).trans rfl
      have hqf_1 := blk_frozen hk1 1
      have hq_2 : wa1.cell? ⟨q, 2, none⟩ = some (.int .i64 0) := (blk_cell hk1 2).trans rfl
      have hqf_2 := blk_frozen hk1 2
      have hq_3 : wa1.cell? ⟨q, 3, none⟩ = some (.int .i64 0) := (blk_cell hk1 3).trans rfl
      have hqf_3 := blk_frozen hk1 3
      have hq_4 : wa1.cell? ⟨q, 4, none⟩ = some (.int .i64 0) := (blk_cell hk1 4).trans rfl
      have hqf_4 := blk_frozen hk1 4
      have hq_5 : wa1.cell? ⟨q, 5, none⟩ = some (.int .i64 0) := (blk_cell hk1 5).trans rfl
      have hqf_5 := blk_frozen hk1 5
      have hq_6 : wa1.cell? ⟨q, 6, none⟩ = some (.bool false) := (blk_cell hk1 6).trans rfl
      have hqf_6 := blk_frozen hk1 6
      have hq_7 : wa1.cell? ⟨q, 7, none⟩ = some (.int .i64 0) := (blk_cell hk1 7).trans rfl
      have hqf_7 := blk_frozen hk1 7
      have hq_8 : wa1.cell? ⟨q, 8, none⟩ = some (.int .i64 0) := (blk_cell hk1 8).trans rfl
      have hqf_8 := blk_frozen hk1 8
      go_wp2
      go_meet
      exact ⟨3, z1, 0, 0, 0, 0, false, 0, 0, x1, y1, rfl, ⟨Go.Proofs.Ytplajmcjkddikaa.Far.RS.far hr1 (p := ⟨q, 1, none⟩) HGQ.out HGE.out _⟩, ⟨by simpa using blk_set hk1 1 (.int .i64 z1)⟩, ⟨HR5.out.symm⟩⟩
    · have hs1 := sign_rd w3 W g mid 0 HMB.out E2.out
      have HR5 : Hid (rd 4 mid = fin (4, zag (rawS 0 mid).2.1, 0, 0, 0, 0, false, 0, 0) (rawS 0 mid).1 (rawS 0 mid).2.2) := Lib.hid (by simp [rd])
      generalize rawS 0 mid = r1 at hs1 HR5
      obtain ⟨x1, u1, y1⟩ := r1
      try simp only at hs1 HR5
      generalize zag u1 = z1 at hs1 HR5
      go_wp2_with fail
      refine hs1.mono ?_
      rintro e wa1 ⟨rfl, hr1, hu1⟩
      have hk1 := Go.Proofs.Ytplajmcjkddikaa.Far.Upd.blk hu1 E1.out (HGQ.out ·.symm)
      clear hs1
      have hq_0 : wa1.cell? ⟨q, 0, none⟩ = some (.int .i64 4) := (blk_cell hk1 0).trans rfl
      have hqf_0 := blk_frozen hk1 0
      have hq_1 : wa1.cell? ⟨q, 1, none⟩ = some (.int .i64 0) := (blk_cell hk1 1).trans rfl
      have hqf_1 := blk_frozen hk1 1
      have hq_2 : wa1.cell? ⟨q, 2, none⟩ = some (.int .i64 0) := (blk_cell hk1 2).trans rfl
      have hqf_2 := blk_frozen hk1 2
      have hq_3 : wa1.cell? ⟨q, 3, none⟩ = some (.int .i64 0) := (blk_cell hk1 3).trans rfl
      have hqf_3 := blk_frozen hk1 3
      have hq_4 : wa1.cell? ⟨q, 4, none⟩ = some (.int .i64 0) := (blk_cell hk1 4).trans rfl
      have hqf_4 := blk_frozen hk1 4
      have hq_5 : wa1.cell? ⟨q, 5, none⟩ = some (.int .i64 0) := (blk_cell hk1 5).trans rfl
      have hqf_5 := blk_frozen hk1 5
      have hq_6 : wa1.cell? ⟨q, 6, none⟩ = some (.bool false) := (blk_cell hk1 6).trans rfl
      have hqf_6 := blk_frozen hk1 6
      have hq_7 : wa1.cell? ⟨q, 7, none⟩ = some (.int .i64 0) := (blk_cell hk1 7).trans rfl
      have hqf_7 := blk_frozen hk1 7
      have hq_8 : wa1.cell? ⟨q, 8, none⟩ = some (.int .i64 0) := (blk_cell hk1 8).trans rfl
      have hqf_8 := blk_frozen hk1 8
      go_wp2
      go_meet
      exact ⟨4, z1, 0, 0, 0, 0, false, 0, 0, x1, y1, rfl, ⟨Go.Proofs.Ytplajmcjkddikaa.Far.RS.far hr1 (p := ⟨q, 1, none⟩) HGQ.out HGE.out _⟩, ⟨by simpa using blk_set hk1 1 (.int .i64 z1)⟩, ⟨HR5.out.symm⟩⟩
    · have hs1 := sign_rd w3 W g mid 0 HMB.out E2.out
      have HR5 : Hid (rd 5 mid = fin (5, zag (rawS 0 mid).2.1, 0, 0, 0, 0, false, 0, 0) (rawS 0 mid).1 (rawS 0 mid).2.2) := Lib.hid (by simp [rd])
      generalize rawS 0 mid = r1 at hs1 HR5
      obtain ⟨x1, u1, y1⟩ := r1
      try simp only at hs1 HR5
      generalize zag u1 = z1 at hs1 HR5
      go_wp2_with fail
      refine hs1.mono ?_
      rintro e wa1 ⟨rfl, hr1, hu1⟩
      have hk1 := Go.Proofs.Ytplajmcjkddikaa.Far.Upd.blk hu1 E1.out (HGQ.out ·.symm)
      clear hs1
      have hq_0 : wa1.cell? ⟨q, 0, none⟩ = some (.int .i64 5) := (blk_cell hk1 0).trans rfl
      have hqf_0 := blk_frozen hk1 0
      have hq_1 : wa1.cell? ⟨q, 1, none⟩ = some (.int .i64 0) := (blk_cell hk1 1).trans rfl
      have hqf_1 := blk_frozen hk1 1
      have hq_2 : wa1.cell? ⟨q, 2, none⟩ = some (.int .i64 0) := (blk_cell hk1 2).trans rfl
      have hqf_2 := blk_frozen hk1 2
      have hq_3 : wa1.cell? ⟨q, 3, none⟩ = some (.int .i64 0) := (blk_cell hk1 3).trans rfl
      have hqf_3 := blk_frozen hk1 3
      have hq_4 : wa1.cell? ⟨q, 4, none⟩ = some (.int .i64 0) := (blk_cell hk1 4).trans rfl
      have hqf_4 := blk_frozen hk1 4
      have hq_5 : wa1.cell? ⟨q, 5, none⟩ = some (.int .i64 0) := (blk_cell hk1 5).trans rfl
      have hqf_5 := blk_frozen hk1 5
      have hq_6 : wa1.cell? ⟨q, 6, none⟩ = some (.bool false) := (blk_cell hk1 6).trans rfl
      have hqf_6 := blk_frozen hk1 6
      have hq_7 : wa1.cell? ⟨q, 7, none⟩ = some (.int .i64 0) := (blk_cell hk1 7).trans rfl
      have hqf_7 := blk_frozen hk1 7
      have hq_8 : wa1.cell? ⟨q, 8, none⟩ = some (.int .i64 0) := (blk_cell hk1 8).trans rfl
      have hqf_8 := blk_frozen hk1 8
      go_wp2
      go_meet
      exact ⟨5, z1, 0, 0, 0, 0, false, 0, 0, x1, y1, rfl, ⟨Go.Proofs.Ytplajmcjkddikaa.Far.RS.far hr1 (p := ⟨q, 1, none⟩) HGQ.out HGE.out _⟩, ⟨by simpa using blk_set hk1 1 (.int .i64 z1)⟩, ⟨HR5.out.symm⟩⟩
    · have hs1 := sign_rd w3 W g mid 0 HMB.out E2.out
      have HR5 : Hid (rd 6 mid = fin (6, zag (rawS 0 mid).2.1, 0, 0, 0, 0, false, 0, 0) (rawS 0 mid).1 (rawS 0 mid).2.2) := Lib.hid (by simp [rd])
      generalize rawS 0 mid = r1 at hs1 HR5
      obtain ⟨x1, u1, y1⟩ := r1
      try simp only at hs1 HR5
      generalize zag u1 = z1 at hs1 HR5
      go_wp2_with fail
      refine hs1.mono ?_
      rintro e wa1 ⟨rfl, hr1, hu1⟩
      have hk1 := Go.Proofs.Ytplajmcjkddikaa.Far.Upd.blk hu1 E1.out (HGQ.out ·.symm)
      clear hs1
      have hq_0 : wa1.cell? ⟨q, 0, none⟩ = some (.int .i64 6) := (blk_cell hk1 0).trans rfl
      have hqf_0 := blk_frozen hk1 0
      have hq_1 : wa1.cell? ⟨q, 1, none⟩ = some (.int .i64 0) := (blk_cell hk1 1).trans rfl
      have hqf_1 := blk_frozen hk1 1
      have hq_2 : wa1.cell? ⟨q, 2, none⟩ = some (.int .i64 0) := (blk_cell hk1 2).trans rfl
      have hqf_2 := blk_frozen hk1 2
      have hq_3 : wa1.cell? ⟨q, 3, none⟩ = some (.int .i64 0) := (blk_cell hk1 3).trans rfl
      have hqf_3 := blk_frozen hk1 3
      have hq_4 : wa1.cell? ⟨q, 4, none⟩ = some (.int .i64 0) := (blk_cell hk1 4).trans rfl
      have hqf_4 := blk_frozen hk1 4
      have hq_5 : wa1.cell? ⟨q, 5, none⟩ = some (.int .i64 0) := (blk_cell hk1 5).trans rfl
      have hqf_5 := blk_frozen hk1 5
      have hq_6 : wa1.cell? ⟨q, 6, none⟩ = some (.bool false) := (blk_cell hk1 6).trans rfl
      have hqf_6 := blk_frozen hk1 6
      have hq_7 : wa1.cell? ⟨q, 7, none⟩ = some (.int .i64 0) := (blk_cell hk1 7).trans rfl
      have hqf_7 := blk_frozen hk1 7
      have hq_8 : wa1.cell? ⟨q, 8, none⟩ = some (.int .i64 0) := (blk_cell hk1 8).trans rfl
      have hqf_8 := blk_frozen hk1 8
      go_wp2
      go_meet
      exact ⟨6, z1, 0, 0, 0, 0, false, 0, 0, x1, y1, rfl, ⟨Go.Proofs.Ytplajmcjkddikaa.Far.RS.far hr1 (p := ⟨q, 1, none⟩) HGQ.out HGE.out _⟩, ⟨by simpa using blk_set hk1 1 (.int .i64 z1)⟩, ⟨HR5.out.symm⟩⟩
    · have hs1 := sign_rd w3 W g mid 0 HMB.out E2.out
      have HR5 : Hid (rd 7 mid = fin (7, 0, 0, 0, 0, 0, false, zag (rawS 0 mid).2.1, 0) (rawS 0 mid).1 (rawS 0 mid).2.2) := Lib.hid (by simp [rd])
      generalize rawS 0 mid = r1 at hs1 HR5
      obtain ⟨x1, u1, y1⟩ := r1
      try simp only at hs1 HR5
      generalize zag u1 = z1 at hs1 HR5
      go_wp2_with fail
      refine hs1.mono ?_
      rintro e wa1 ⟨rfl, hr1, hu1⟩
      have hk1 := Go.Proofs.Ytplajmcjkddikaa.Far.Upd.blk hu1 E1.out (HGQ.out ·.symm)
      clear hs1
      have hq_0 : wa1.cell? ⟨q, 0, none⟩ = some (.int .i64 7) := (blk_cell hk1 0).trans rfl
      have hqf_0 := blk_frozen hk1 0
      have hq_1 : wa1.cell? ⟨q, 1, none⟩ = some (.int .i64 0) := (blk_cell hk1 1).trans rfl
      have hqf_1 := blk_frozen hk1 1
      have hq_2 : wa1.cell? ⟨q, 2, none⟩ = some (.int .i64 0) := (blk_cell hk1 2).trans rfl
      have hqf_2 := blk_frozen hk1 2
      have hq_3 : wa1.cell? ⟨q, 3, none⟩ = some (.int .i64 0) := (blk_cell hk1 3).trans rfl
      have hqf_3 := blk_frozen hk1 3
      have hq_4 : wa1.cell? ⟨q, 4, none⟩ = some (.int .i64 0) := (blk_cell hk1 4).trans rfl
      have hqf_4 := blk_frozen hk1 4
      have hq_5 : wa1.cell? ⟨q, 5, none⟩ = some (.int .i64 0) := (blk_cell hk1 5).trans rfl
      have hqf_5 := blk_frozen hk1 5
      have hq_6 : wa1.cell? ⟨q, 6, none⟩ = some (.bool false) := (blk_cell hk1 6).trans rfl
      have hqf_6 := blk_frozen hk1 6
      have hq_7 : wa1.cell? ⟨q, 7, none⟩ = some (.int .i64 0) := (blk_cell hk1 7).trans rfl
      have hqf_7 := blk_frozen hk1 7
      have hq_8 : wa1.cell? ⟨q, 8, none⟩ = some (.int .i64 0) := (blk_cell hk1 8).trans rfl
      have hqf_8 := blk_frozen hk1 8
      go_wp2
      go_meet
      exact ⟨7, 0, 0, 0, 0, 0, false, z1, 0, x1, y1, rfl, ⟨Go.Proofs.Ytplajmcjkddikaa.Far.RS.far hr1 (p := ⟨q, 7, none⟩) HGQ.out HGE.out _⟩, ⟨by simpa using blk_set hk1 7 (.int .i64 z1)⟩, ⟨HR5.out.symm⟩⟩
    · have hs1 := sign_rd w3 W g mid 0 HMB.out E2.out
      have HR5 : Hid (rd 8 mid = fin (8, 0, 0, 0, 0, 0, false, zag (rawS 0 mid).2.1, 0) (rawS 0 mid).1 (rawS 0 mid).2.2) := Lib.hid (by simp [rd])
      generalize rawS 0 mid = r1 at hs1 HR5
      obtain ⟨x1, u1, y1⟩ := r1
      try simp only at hs1 HR5
      generalize zag u1 = z1 at hs1 HR5
      go_wp2_with fail
      refine hs1.mono ?_
      rintro e wa1 ⟨rfl, hr1, hu1⟩
      have hk1 := Go.Proofs.Ytplajmcjkddikaa.Far.Upd.blk hu1 E1.out (HGQ.out ·.symm)
      clear hs1
      have hq_0 : wa1.cell? ⟨q, 0, none⟩ = some (.int .i64 8) := (blk_cell hk1 0).trans rfl
      have hqf_0 := blk_frozen hk1 0
      have hq_1 : wa1.cell? ⟨q, 1, none⟩ = some (.int .i64 0) := (blk_cell hk1 1).trans rfl
      have hqf_1 := blk_frozen hk1 1
      have hq_2 : wa1.cell? ⟨q, 2, none⟩ = some (.int .i64 0) := (blk_cell hk1 2).trans rfl
      have hqf_2 := blk_frozen hk1 2
      have hq_3 : wa1.cell? ⟨q, 3, none⟩ = some (.int .i64 0) := (blk_cell hk1 3).trans rfl
      have hqf_3 := blk_frozen hk1 3
      have hq_4 : wa1.cell? ⟨q, 4, none⟩ = some (.int .i64 0) := (blk_cell hk1 4).trans rfl
      have hqf_4 := blk_frozen hk1 4
      have hq_5 : wa1.cell? ⟨q, 5, none⟩ = some (.int .i64 0) := (blk_cell hk1 5).trans rfl
      have hqf_5 := blk_frozen hk1 5
      have hq_6 : wa1.cell? ⟨q, 6, none⟩ = some (.bool false) := (blk_cell hk1 6).trans rfl
      have hqf_6 := blk_frozen hk1 6
      have hq_7 : wa1.cell? ⟨q, 7, none⟩ = some (.int .i64 0) := (blk_cell hk1 7).trans rfl
      have hqf_7 := blk_frozen hk1 7
      have hq_8 : wa1.cell? ⟨q, 8, none⟩ = some (.int .i64 0) := (blk_cell hk1 8).trans rfl
      have hqf_8 := blk_frozen hk1 8
      go_wp2
      go_meet
      exact ⟨8, 0, 0, 0, 0, 0, false, z1, 0, x1, y1, rfl, ⟨Go.Proofs.Ytplajmcjkddikaa.Far.RS.far hr1 (p := ⟨q, 7, none⟩) HGQ.out HGE.out _⟩, ⟨by simpa using blk_set hk1 7 (.int .i64 z1)⟩, ⟨HR5.out.symm⟩⟩
    · have hs1 := sign_rd w3 W g mid 0 HMB.out E2.out
      have HR5 : Hid (rd 9 mid = fin (9, 0, 0, 0, 0, 0, false, 0, zag (rawS 0 mid).2.1) (rawS 0 mid).1 (rawS 0 mid).2.2) := Lib.hid (by simp [rd])
      generalize rawS 0 mid = r1 at hs1 HR5
      obtain ⟨x1, u1, y1⟩ := r1
      try simp only at hs1 HR5
      generalize zag u1 = z1 at hs1 HR5
      go_wp2_with fail
      refine hs1.mono ?_
      rintro e wa1 ⟨rfl, hr1, hu1⟩
      have hk1 := Go.Proofs.Ytplajmcjkddikaa.Far.Upd.blk hu1 E1.out (HGQ.out ·.symm)
      clear hs1
      have hq_0 : wa1.cell? ⟨q, 0, none⟩ = some (.int .i64 9) := (blk_cell hk1 0).trans rfl
      have hqf_0 := blk_frozen hk1 0
      have hq_1 : wa1.cell? ⟨q, 1, none⟩ = some (.int .i64 0) := (blk_cell hk1 1).trans rfl
      have hqf_1 := blk_frozen hk1 1
      have hq_2 : wa1.cell? ⟨q, 2, none⟩ = some (.int .i64 0) := (blk_cell hk1 2).trans rfl
      have hqf_2 := blk_frozen hk1 2
      have hq_3 : wa1.cell? ⟨q, 3, none⟩ = some (.int .i64 0) := (blk_cell hk1 3).trans rfl
      have hqf_3 := blk_frozen hk1 3
      have hq_4 : wa1.cell? ⟨q, 4, none⟩ = some (.int .i64 0) := (blk_cell hk1 4).trans rfl
      have hqf_4 := blk_frozen hk1 4
      have hq_5 : wa1.cell? ⟨q, 5, none⟩ = some (.int .i64 0) := (blk_cell hk1 5).trans rfl
      have hqf_5 := blk_frozen hk1 5
      have hq_6 : wa1.cell? ⟨q, 6, none⟩ = some (.bool false) := (blk_cell hk1 6).trans rfl
      have hqf_6 := blk_frozen hk1 6
      have hq_7 : wa1.cell? ⟨q, 7, none⟩ = some (.int .i64 0) := (blk_cell hk1 7).trans rfl
      have hqf_7 := blk_frozen hk1 7
      have hq_8 : wa1.cell? ⟨q, 8, none⟩ = some (.int .i64 0) := (blk_cell hk1 8).trans rfl
      have hqf_8 := blk_frozen hk1 8
      go_wp2
      go_meet
      exact ⟨9, 0, 0, 0, 0, 0, false, 0, z1, x1, y1, rfl, ⟨Go.Proofs.Ytplajmcjkddikaa.Far.RS.far hr1 (p := ⟨q, 8, none⟩) HGQ.out HGE.out _⟩, ⟨by simpa using blk_set hk1 8 (.int .i64 z1)⟩, ⟨HR5.out.symm⟩⟩
    · have HR5 : Hid (rd b1 mid = fin (b1, 0, 0, 0, 0, 0, false, 0, 0) 0 mid) := Lib.hid (by unfold rd; rw [if_neg (by omega), if_neg (by omega), if_neg (by omega), if_neg (by omega)])
      have n1 : (b1 == 1) = false := by simp; omega
      have n2 : (b1 == 2) = false := by simp; omega
      have n3 : (b1 == 3) = false := by simp; omega
      have n4 : (b1 == 4) = false := by simp; omega
      have n5 : (b1 == 5) = false := by simp; omega
      have n6 : (b1 == 6) = false := by simp; omega
      have n7 : (b1 == 7) = false := by simp; omega
      have n8 : (b1 == 8) = false := by simp; omega
      have n9 : (b1 == 9) = false := by simp; omega
      clear hk
      go_wp2
      go_meet
      exact ⟨b1, 0, 0, 0, 0, 0, false, 0, 0, 0, mid, rfl, ⟨E2.out⟩, ⟨E1.out⟩, ⟨HR5.out.symm⟩⟩
  case rest =>
    obtain ⟨q0, q1, q2, q3, q4, q5, q6, q7, q8, e, ys, rfl, hr, hk, hfin⟩ := hcut
    have hen := end_rd w3 wc g ys e hr.out
    have hf := hfin.out
    unfold fin at hf
    have HZ1 := Lib.hid (fun (w' : World) (h : Below w3.heap.size w3 w') => show w'.heap[w.heap.size]? = some (.cells #[.int .i64 0, .int .i64 0, .int .i64 0, .int .i64 0, .int .i64 0, .int .i64 0, .bool false, .int .i64 0, .int .i64 0] 64 (0, 0)) from (h.block w.heap.size (blk_lt BK0.out)).trans BK0.out)
    have HGQ : Hid (q ≠ g) := Lib.hid (by have := E3.out; omega)
    by_cases he : endS e ys = 0
    · rw [he] at hen
      rw [if_pos he] at hf
      have HF := Lib.hid hf.symm
      have b1 : ((0 : Int) != 0) = false := rfl
      clear hf he hfin
      go_wp2_with (go_at_call 54; refine hen.mono ?_; rintro e w4 ⟨rfl, hr4, hu4⟩; have hk4 := Go.Proofs.Ytplajmcjkddikaa.Far.Upd.blk hu4 hk.out HGQ.out; have hz := HZ1.out w4 hr4.low; have hq_0 : w4.cell? ⟨q, 0, none⟩ = some (.int .i64 q0) := (blk_cell hk4 0).trans rfl; have hq_1 : w4.cell? ⟨q, 1, none⟩ = some (.int .i64 q1) := (blk_cell hk4 1).trans rfl; have hq_2 : w4.cell? ⟨q, 2, none⟩ = some (.int .i64 q2) := (blk_cell hk4 2).trans rfl; have hq_3 : w4.cell? ⟨q, 3, none⟩ = some (.int .i64 q3) := (blk_cell hk4 3).trans rfl; have hq_4 : w4.cell? ⟨q, 4, none⟩ = some (.int .i64 q4) := (blk_cell hk4 4).trans rfl; have hq_5 : w4.cell? ⟨q, 5, none⟩ = some (.int .i64 q5) := (blk_cell hk4 5).trans rfl; have hq_6 : w4.cell? ⟨q, 6, none⟩ = some (.bool q6) := (blk_cell hk4 6).trans rfl; have hq_7 : w4.cell? ⟨q, 7, none⟩ = some (.int .i64 q7) := (blk_cell hk4 7).trans rfl; have hq_8 : w4.cell? ⟨q, 8, none⟩ = some (.int .i64 q8) := (blk_cell hk4 8).trans rfl; have hz_0 : w4.cell? ⟨w.heap.size, 0, none⟩ = some (.int .i64 0) := (blk_cell hz 0).trans rfl; have hz_1 : w4.cell? ⟨w.heap.size, 1, none⟩ = some (.int .i64 0) := (blk_cell hz 1).trans rfl; have hz_2 : w4.cell? ⟨w.heap.size, 2, none⟩ = some (.int .i64 0) := (blk_cell hz 2).trans rfl; have hz_3 : w4.cell? ⟨w.heap.size, 3, none⟩ = some (.int .i64 0) := (blk_cell hz 3).trans rfl; have hz_4 : w4.cell? ⟨w.heap.size, 4, none⟩ = some (.int .i64 0) := (blk_cell hz 4).trans rfl; have hz_5 : w4.cell? ⟨w.heap.size, 5, none⟩ = some (.int .i64 0) := (blk_cell hz 5).trans rfl; have hz_6 : w4.cell? ⟨w.heap.size, 6, none⟩ = some (.bool false) := (blk_cell hz 6).trans rfl; have hz_7 : w4.cell? ⟨w.heap.size, 7, none⟩ = some (.int .i64 0) := (blk_cell hz 7).trans rfl; have hz_8 : w4.cell? ⟨w.heap.size, 8, none⟩ = some (.int .i64 0) := (blk_cell hz 8).trans rfl; have hf_0 := blk_frozen hz 0; have hf_1 := blk_frozen hz 1; have hf_2 := blk_frozen hz 2; have hf_3 := blk_frozen hz 3; have hf_4 := blk_frozen hz 4; have hf_5 := blk_frozen hz 5; have hf_6 := blk_frozen hz 6; have hf_7 := blk_frozen hz 7; have hf_8 := blk_frozen hz 8)
      have s8 := (blk_set (blk_set (blk_set (blk_set (blk_set (blk_set (blk_set (blk_set (blk_set hz 0 (.int .i64 q0)) 1 (.int .i64 q1)) 2 (.int .i64 q2)) 3 (.int .i64 q3)) 4 (.int .i64 q4)) 5 (.int .i64 q5)) 6 (.bool q6)) 7 (.int .i64 q7)) 8 (.int .i64 q8))
      simp only [List.setIfInBounds_toArray, List.set_cons_zero, List.set_cons_succ] at s8
      rw [HF.out]
      refine bodyPost_ret (results_ct (g := w.heap.size) Try.results86 _ _ 64 #[.int .i64 q0, .int .i64 q1, .int .i64 q2, .int .i64 q3, .int .i64 q4, .int .i64 q5, .bool q6, .int .i64 q7, .int .i64 q8] (0, 0) _ rfl s8 hu1 rfl (by kernel_rfl)) rfl ⟨by rfl, ?_⟩
      exact (((((((((HB.out.trans (hr4.low.mono HB.out.size)).setCell (Nat.le_refl _) _).setCell (Nat.le_refl _) _).setCell (Nat.le_refl _) _).setCell (Nat.le_refl _) _).setCell (Nat.le_refl _) _).setCell (Nat.le_refl _) _).setCell (Nat.le_refl _) _).setCell (Nat.le_refl _) _).setCell (Nat.le_refl _) _
    · rw [if_neg he] at hf
      have HF := Lib.hid hf.symm
      have b1 : (endS e ys != 0) = true := by simpa using he
      generalize endS e ys = ee at hen b1
      clear hf he hfin
      go_wp2_with (go_at_call 54; refine hen.mono ?_; rintro e w4 ⟨rfl, hr4, hu4⟩; have hz := HZ1.out w4 hr4.low; have hz_0 : w4.cell? ⟨w.heap.size, 0, none⟩ = some (.int .i64 0) := (blk_cell hz 0).trans rfl; have hz_1 : w4.cell? ⟨w.heap.size, 1, none⟩ = some (.int .i64 0) := (blk_cell hz 1).trans rfl; have hz_2 : w4.cell? ⟨w.heap.size, 2, none⟩ = some (.int .i64 0) := (blk_cell hz 2).trans rfl; have hz_3 : w4.cell? ⟨w.heap.size, 3, none⟩ = some (.int .i64 0) := (blk_cell hz 3).trans rfl; have hz_4 : w4.cell? ⟨w.heap.size, 4, none⟩ = some (.int .i64 0) := (blk_cell hz 4).trans rfl; have hz_5 : w4.cell? ⟨w.heap.size, 5, none⟩ = some (.int .i64 0) := (blk_cell hz 5).trans rfl; have hz_6 : w4.cell? ⟨w.heap.size, 6, none⟩ = some (.bool false) := (blk_cell hz 6).trans rfl; have hz_7 : w4.cell? ⟨w.heap.size, 7, none⟩ = some (.int .i64 0) := (blk_cell hz 7).trans rfl; have hz_8 : w4.cell? ⟨w.heap.size, 8, none⟩ = some (.int .i64 0) := (blk_cell hz 8).trans rfl; have hf_0 := blk_frozen hz 0; have hf_1 := blk_frozen hz 1; have hf_2 := blk_frozen hz 2; have hf_3 := blk_frozen hz 3; have hf_4 := blk_frozen hz 4; have hf_5 := blk_frozen hz 5; have hf_6 := blk_frozen hz 6; have hf_7 := blk_frozen hz 7; have hf_8 := blk_frozen hz 8)
      have s8 := (blk_set (blk_set (blk_set (blk_set (blk_set (blk_set (blk_set (blk_set (blk_set hz 0 (.int .i64 0)) 1 (.int .i64 0)) 2 (.int .i64 0)) 3 (.int .i64 0)) 4 (.int .i64 0)) 5 (.int .i64 0)) 6 (.bool false)) 7 (.int .i64 0)) 8 (.int .i64 0))
      simp only [List.setIfInBounds_toArray, List.set_cons_zero, List.set_cons_succ] at s8
      rw [HF.out]
      refine bodyPost_ret (results_ct (g := w.heap.size) Try.results86 _ _ 64 #[.int .i64 0, .int .i64 0, .int .i64 0, .int .i64 0, .int .i64 0, .int .i64 0, .bool false, .int .i64 0, .int .i64 0] (0, 0) _ rfl s8 hu1 rfl (by kernel_rfl)) rfl ⟨by rfl, ?_⟩
      exact (((((((((HB.out.trans (hr4.low.mono HB.out.size)).setCell (Nat.le_refl _) _).setCell (Nat.le_refl _) _).setCell (Nat.le_refl _) _).setCell (Nat.le_refl _) _).setCell (Nat.le_refl _) _).setCell (Nat.le_refl _) _).setCell (Nat.le_refl _) _).setCell (Nat.le_refl _) _).setCell (Nat.le_refl _) _
/-- what any bytes are read as -/
def rq (xs : List Int) : Q × Int :=
  if 64 < xs.length then (q0, 3)
  else if xs.length < 3 then (q0, 2)
  else if xs.getD 0 0 ≠ 183 ∨ ¬ (1 ≤ xs.getD 1 0 ∧ xs.getD 1 0 ≤ 13) ∨ sm (xs.take (xs.length - 1)) ≠ xs.getD (xs.length - 1) 0 then (q0, 4)
  else rd (xs.getD 1 0) ((xs.take (xs.length - 1)).drop 2)
theorem three_of (xs : List Int) (h : 3 ≤ xs.length) : ∃ b0 b1 mid last, xs = b0 :: b1 :: (mid ++ [last]) := by
  match xs, h with
  | b0 :: b1 :: b2 :: t, _ =>
    refine ⟨b0, b1, (b2 :: t).dropLast, (b2 :: t).getLast (by simp), ?_⟩
    rw [List.dropLast_concat_getLast]
theorem rq_three (b0 b1 last : Int) (mid : List Int) (h : mid.length ≤ 61) :
    rq (b0 :: b1 :: (mid ++ [last])) = if b0 ≠ 183 ∨ ¬ (1 ≤ b1 ∧ b1 ≤ 13) ∨ sm (b0 :: b1 :: mid) ≠ last then (q0, 4) else rd b1 mid := by
  have hl : (b0 :: b1 :: (mid ++ [last])).length = mid.length + 3 := by simp
  unfold rq
  rw [if_neg (by omega), if_neg (by omega), hl]
  have e1 : (b0 :: b1 :: (mid ++ [last])).take (mid.length + 3 - 1) = b0 :: b1 :: mid := by simp
  have e2 : (b0 :: b1 :: (mid ++ [last])).getD (mid.length + 3 - 1) 0 = last := by
    rw [List.getD_eq_getElem?_getD]; simp
  rw [e1, e2]
  rfl
theorem read_q (w : World) (A : Option Addr) (c : Nat) (xs : List Int) (hC : Kd.C (Kd.int .u8) w A xs.length xs) (hc : xs.length ≤ c) (hx : ∀ c ∈ xs, 0 ≤ c ∧ c < 256) :
    Calls Try.prog 86 #[.slice A xs.length c] w fun r w' => r = .returned (.tuple #[.agg (qc (rq xs).1), .int .i64 (rq xs).2]) ∧ Below w.heap.size w w' := by
  by_cases h1 : 64 < xs.length
  · have e : rq xs = (q0, 3) := by unfold rq; rw [if_pos h1]
    rw [e]
    exact read_long w A c _ h1
  by_cases h2 : xs.length < 3
  · have e : rq xs = (q0, 2) := by unfold rq; rw [if_neg h1, if_pos h2]
    rw [e]
    exact read_short w A c _ h2
  obtain ⟨b0, b1, mid, last, rfl⟩ := three_of xs (by omega)
  have hl : (b0 :: b1 :: (mid ++ [last])).length = mid.length + 3 := by simp
  have hb1 := hx b1 (by simp)
  rw [rq_three b0 b1 last mid (by omega)]
  by_cases hb : b0 ≠ 183 ∨ ¬ (1 ≤ b1 ∧ b1 ≤ 13) ∨ sm (b0 :: b1 :: mid) ≠ last
  · rw [if_pos hb]
    have := read_bad w A c b0 b1 last mid (by omega) hC (by omega) hb hb1
    rwa [← hl] at this
  · rw [if_neg hb]
    have g1 : b0 = 183 := Classical.byContradiction fun h => hb (.inl h)
    have g2 : 1 ≤ b1 ∧ b1 ≤ 13 := Classical.byContradiction fun h => hb (.inr (.inl h))
    have g3 : sm (b0 :: b1 :: mid) = last := Classical.byContradiction fun h => hb (.inr (.inr h))
    have := read_good w A c b0 b1 last mid (by omega) hC (by omega) g1 g2 g3 (fun c hc => hx c (by simp [hc]))
    rwa [← hl] at this
end Go.Proofs.Ytplajmcjkddikaa.ReqRead
