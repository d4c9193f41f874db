/- The request's bytes as the law makes them. -/
import Derived.Test.YtplajmcjkddikaaReqRead2
import Derived.Test.YtplajmcjkddikaaWire2
import Derived.Test.YtplajmcjkddikaaOpen
namespace Go.Proofs.Ytplajmcjkddikaa.ReqLaw
open Go.RowKit Go.Proofs.YtplajmcjkddikaaW.PrintWords Go.Proofs.YtplajmcjkddikaaW.PrintLast Go.Proofs.YtplajmcjkddikaaW.PrintMore Go.Proofs.Ytplajmcjkddikaa.Leb Go.Proofs.Ytplajmcjkddikaa.Wire Go.Proofs.Ytplajmcjkddikaa.Reader Go.Proofs.Ytplajmcjkddikaa.Lock Go.Proofs.Ytplajmcjkddikaa.Req Go.Proofs.Ytplajmcjkddikaa.ReqRead
set_option linter.unusedVariables false
set_option linter.unusedSimpArgs false
theorem all_own (g : Nat) (xs l : List Int) (hx : xs.length ≤ 1000) (hl : ∀ a ∈ l, In64 a) (hn : l.length < 50) (w0 w : World) (v : Value) (hB : Below w0.heap.size w0 w) (ho : Kd.R (Kd.int .u8) 5 w w0.heap.size (fun _ => True) v xs)
    (hne : v.ownBlock ≠ some g) (hg : Kd.R (Kd.int .i64) 2 w 0 (fun k => k = g) (.slice (some ⟨g, 0, none⟩) l.length l.length) l) :
    Calls Try.prog 45 #[v, .slice (some ⟨g, 0, none⟩) l.length l.length] w fun e w' => ∃ v0 : Value, e = .returned v0 ∧ Kd.R (Kd.int .u8) 5 w' w0.heap.size (fun _ => True) v0 (xs ++ sgns l) ∧ Below w0.heap.size w0 w' ∧ Kept w w' (fun k => some k = v.ownBlock) := by
  have hk := all_k l hl hn (18446744073709551616 + 51) xs (by omega) hx
  refine (PReqApart.wire_All.calls _ (fun k => some k = v.ownBlock) v xs (some ⟨g, 0, none⟩) l.length l _ w0 w hB (Kd.R_tight rfl ho) ?_ (Nat.le_refl _) hk).mono ?_
  · intro W hW
    exact (Kd.N_reads' (Kd.N_kept (Kd.R_N hg) hW (fun k hk he => by subst hk; exact hne he.symm))).2.2
  · rintro e w' ⟨v0, h1, h2, h3, h4⟩
    exact ⟨v0, h1, Kd.R_mono h2 (fun _ _ => trivial), h3, h4⟩
theorem sgns_one (a : Int) : sgns [a] = sgn a := by simp [sgns]
theorem body_kind (k : Int) (q : Q) (h : q.1 = k) (h2 : k = 2 ∨ k = 3 ∨ k = 4 ∨ k = 5 ∨ k = 6) : body q = [183, k % 256] ++ sgn q.2.1 := by
  obtain ⟨a0, a1, a2, a3, a4, a5, a6, a7, a8⟩ := q
  simp only at h
  subst h
  simp only [body]
  rw [if_neg (by omega), if_pos h2, sgns_one]
theorem str_app (a b : List Int) : strOfNums (a ++ b) = strOfNums a ++ strOfNums b := by
  apply ByteArray.ext
  apply Array.toList_inj.1
  rw [str_data]
  simp [ByteArray.data_append, Array.toList_append, str_data]
set_option maxRecDepth 100000 in
set_option maxHeartbeats 2000000 in
theorem bytes10_any (a0 a1 a2 a3 a4 a5 : Int) (a6 : Bool) (a7 a8 : Int) (hq : rng (a0, a1, a2, a3, a4, a5, a6, a7, a8)) (hk : 1 ≤ a0 ∧ a0 ≤ 13) (w : World) :
    Calls Try.prog 87 #[.agg #[.int .i64 a0, .int .i64 a1, .int .i64 a2, .int .i64 a3, .int .i64 a4, .int .i64 a5, .bool a6, .int .i64 a7, .int .i64 a8]] w fun e w' =>
      e = .returned (.string (strOfNums (body (a0, a1, a2, a3, a4, a5, a6, a7, a8) ++ [sm (body (a0, a1, a2, a3, a4, a5, a6, a7, a8))]))) ∧ Below w.heap.size w w' := by
  have hu1 := Try.underlying64
  have hbl := body_len _ hq
  have hbb := body_bytes (a0, a1, a2, a3, a4, a5, a6, a7, a8)
  have HBL := Lib.hid hbl
  have HBB := Lib.hid hbb
  have HQ := Lib.hid hq
  have HK := Lib.hid hk
  have d7 : IntKind.u8.wrap a0 = a0 := by
    have hw : ∀ n : Int, IntKind.u8.wrap n = n % 256 := fun n => by simp [IntKind.wrap, IntKind.bits, IntKind.signed]
    rw [hw]; omega
  clear hbl hbb hq hk
  go_enter Try.func87, Try.ntmps87
  go_upto_block 0 with fail
  have h0 := own_lit (w.alloc (.cells #[.int .i64 a0, .int .i64 a1, .int .i64 a2, .int .i64 a3, .int .i64 a4, .int .i64 a5, .bool a6, .int .i64 a7, .int .i64 a8] 64)) w.heap.size 5 .u8 [183, a0] (by simp) (by simp)
  rw [World.size_alloc] at h0
  have h1 : Kd.R (Kd.int .u8) 5 ((w.alloc (.cells #[.int .i64 a0, .int .i64 a1, .int .i64 a2, .int .i64 a3, .int .i64 a4, .int .i64 a5, .bool a6, .int .i64 a7, .int .i64 a8] 64)).alloc (.cells #[.int .u8 183, .int .u8 a0] 5)) w.heap.size (fun _ => True) (.slice (some ⟨w.heap.size + 1, 0, none⟩) 2 2) [183, a0] := Kd.R_of_own h0 (fun _ _ => trivial)
  have h2 : ((w.alloc (.cells #[.int .i64 a0, .int .i64 a1, .int .i64 a2, .int .i64 a3, .int .i64 a4, .int .i64 a5, .bool a6, .int .i64 a7, .int .i64 a8] 64)).alloc (.cells #[.int .u8 183, .int .u8 a0] 5)).heap[w.heap.size]? = some (.cells #[.int .i64 a0, .int .i64 a1, .int .i64 a2, .int .i64 a3, .int .i64 a4, .int .i64 a5, .bool a6, .int .i64 a7, .int .i64 a8] 64 (0, 0)) := blk_alloc (blk_new w _) _
  have h3 : Below w.heap.size w ((w.alloc (.cells #[.int .i64 a0, .int .i64 a1, .int .i64 a2, .int .i64 a3, .int .i64 a4, .int .i64 a5, .bool a6, .int .i64 a7, .int .i64 a8] 64)).alloc (.cells #[.int .u8 183, .int .u8 a0] 5)) := by go_grown
  have h4 : w.heap.size + 1 < ((w.alloc (.cells #[.int .i64 a0, .int .i64 a1, .int .i64 a2, .int .i64 a3, .int .i64 a4, .int .i64 a5, .bool a6, .int .i64 a7, .int .i64 a8] 64)).alloc (.cells #[.int .u8 183, .int .u8 a0] 5)).heap.size := by simp
  generalize (w.alloc (.cells #[.int .i64 a0, .int .i64 a1, .int .i64 a2, .int .i64 a3, .int .i64 a4, .int .i64 a5, .bool a6, .int .i64 a7, .int .i64 a8] 64)).alloc (.cells #[.int .u8 183, .int .u8 a0] 5) = W at h1 h2 h3 h4 ⊢
  have HO := Lib.hid h1
  have BK := Lib.hid h2
  have HB := Lib.hid h3
  have H4 := Lib.hid h4
  clear h0 h1 h2 h3 h4
  go_cut [3] (fun v wx => Aside0 (Kd.R (Kd.int .u8) 5 wx w.heap.size (fun _ => True) v (body (a0, a1, a2, a3, a4, a5, a6, a7, a8))) ∧ Aside0 (Below w.heap.size w wx))
  case first =>
    have hk := HK.out
    obtain ⟨_, i1, i2, i3, i4, i5, i7, i8⟩ := HQ.out
    have I1 := Lib.hid i1
    have I7 := Lib.hid i7
    have I8 := Lib.hid i8
    have I4 := Lib.hid (in4 i2 i3 i4 i5)
    clear i1 i2 i3 i4 i5 i7 i8 d7
    have hz : a0 = 1 ∨ a0 = 2 ∨ a0 = 3 ∨ a0 = 4 ∨ a0 = 5 ∨ a0 = 6 ∨ a0 = 7 ∨ a0 = 8 ∨ a0 = 9 ∨ (10 ≤ a0 ∧ a0 ≤ 13) := by omega
    clear hk
    rcases hz with rfl | rfl | rfl | rfl | rfl | rfl | rfl | rfl | rfl | hz
    · have hc_0 : W.cell? ⟨w.heap.size, 0, none⟩ = some (.int .i64 1) := (blk_cell BK.out 0).trans rfl
      have hc_1 : W.cell? ⟨w.heap.size, 1, none⟩ = some (.int .i64 a1) := (blk_cell BK.out 1).trans rfl
      have hc_2 : W.cell? ⟨w.heap.size, 2, none⟩ = some (.int .i64 a2) := (blk_cell BK.out 2).trans rfl
      have hc_3 : W.cell? ⟨w.heap.size, 3, none⟩ = some (.int .i64 a3) := (blk_cell BK.out 3).trans rfl
      have hc_4 : W.cell? ⟨w.heap.size, 4, none⟩ = some (.int .i64 a4) := (blk_cell BK.out 4).trans rfl
      have hc_5 : W.cell? ⟨w.heap.size, 5, none⟩ = some (.int .i64 a5) := (blk_cell BK.out 5).trans rfl
      have hc_6 : W.cell? ⟨w.heap.size, 6, none⟩ = some (.bool a6) := (blk_cell BK.out 6).trans rfl
      have hc_7 : W.cell? ⟨w.heap.size, 7, none⟩ = some (.int .i64 a7) := (blk_cell BK.out 7).trans rfl
      have hc_8 : W.cell? ⟨w.heap.size, 8, none⟩ = some (.int .i64 a8) := (blk_cell BK.out 8).trans rfl
      have hg := own_lit W 0 2 .i64 [a2, a3, a4, a5] (by omega) (by simp)
      have hg2 : Kd.R (Kd.int .i64) 2 (W.alloc (.cells #[.int .i64 a2, .int .i64 a3, .int .i64 a4, .int .i64 a5] 2)) 0 (fun k => k = W.heap.size) (.slice (some ⟨W.heap.size, 0, none⟩) 4 4) [a2, a3, a4, a5] := Kd.R_of_own hg (fun k hk => by simpa [Value.ownBlock] using hk.symm)
      have hal := Lib.hid (all_own W.heap.size [183, 1] [a2, a3, a4, a5] (by simp) I4.out (by simp) w (W.alloc (.cells #[.int .i64 a2, .int .i64 a3, .int .i64 a4, .int .i64 a5] 2)) (.slice (some ⟨w.heap.size + 1, 0, none⟩) 2 2) (HB.out.alloc HB.out.size _) (Kd.R_alloc HO.out _) (by have := H4.out; simp [Value.ownBlock]; omega) hg2)
      have hsl := sgns_len [a2, a3, a4, a5] I4.out
      have HSL := Lib.hid hsl
      clear hg hg2 hsl
      go_wp2_with fail
      refine hal.out.mono ?_
      rintro e w1 ⟨v1, rfl, ho1, hb1, hk1⟩
      have hx1 := (hk1.2 w.heap.size (blk_lt (blk_alloc BK.out _)) (by simp [Value.ownBlock])).trans (blk_alloc BK.out (.cells #[.int .i64 a2, .int .i64 a3, .int .i64 a4, .int .i64 a5] 2))
      have hd_6 : w1.cell? ⟨w.heap.size, 6, none⟩ = some (.bool a6) := (blk_cell hx1 6).trans rfl
      have hbo := Lib.hid (bool_own v1 _ a6 w w1 hb1 ho1 (by have := HSL.out; simp at this ⊢; omega))
      have HBD : Hid (body (1, a1, a2, a3, a4, a5, a6, a7, a8) = [183, 1] ++ sgns [a2, a3, a4, a5] ++ [boolB a6]) := Lib.hid (by cases a6 <;> simp [body, boolB])
      clear hx1 hc_0 hc_1 hc_2 hc_3 hc_4 hc_5 hc_6 hc_7 hc_8
      go_wp2_with (go_at_call 46; refine hbo.out.mono ?_; rintro e w2 ⟨v2, rfl, ho2, hb2⟩)
      go_meet
      exact ⟨⟨by rw [HBD.out]; exact ho2⟩, ⟨hb2⟩⟩
    · have hc_0 : W.cell? ⟨w.heap.size, 0, none⟩ = some (.int .i64 2) := (blk_cell BK.out 0).trans rfl
      have hc_1 : W.cell? ⟨w.heap.size, 1, none⟩ = some (.int .i64 a1) := (blk_cell BK.out 1).trans rfl
      have hc_2 : W.cell? ⟨w.heap.size, 2, none⟩ = some (.int .i64 a2) := (blk_cell BK.out 2).trans rfl
      have hc_3 : W.cell? ⟨w.heap.size, 3, none⟩ = some (.int .i64 a3) := (blk_cell BK.out 3).trans rfl
      have hc_4 : W.cell? ⟨w.heap.size, 4, none⟩ = some (.int .i64 a4) := (blk_cell BK.out 4).trans rfl
      have hc_5 : W.cell? ⟨w.heap.size, 5, none⟩ = some (.int .i64 a5) := (blk_cell BK.out 5).trans rfl
      have hc_6 : W.cell? ⟨w.heap.size, 6, none⟩ = some (.bool a6) := (blk_cell BK.out 6).trans rfl
      have hc_7 : W.cell? ⟨w.heap.size, 7, none⟩ = some (.int .i64 a7) := (blk_cell BK.out 7).trans rfl
      have hc_8 : W.cell? ⟨w.heap.size, 8, none⟩ = some (.int .i64 a8) := (blk_cell BK.out 8).trans rfl
      have hs := Lib.hid (sign_own (.slice (some ⟨w.heap.size + 1, 0, none⟩) 2 2) [183, 2] a1 I1.out w W HB.out HO.out (by simp))
      have HBD : Hid (body (2, a1, a2, a3, a4, a5, a6, a7, a8) = [183, 2] ++ sgn a1) := Lib.hid (by simp [body, sgns_one])
      go_wp2_with (go_at_call 39; refine hs.out.mono ?_; rintro e w1 ⟨v1, rfl, ho1, hb1⟩)
      go_meet
      exact ⟨⟨by rw [HBD.out]; exact ho1⟩, ⟨hb1⟩⟩
    · have hc_0 : W.cell? ⟨w.heap.size, 0, none⟩ = some (.int .i64 3) := (blk_cell BK.out 0).trans rfl
      have hc_1 : W.cell? ⟨w.heap.size, 1, none⟩ = some (.int .i64 a1) := (blk_cell BK.out 1).trans rfl
      have hc_2 : W.cell? ⟨w.heap.size, 2, none⟩ = some (.int .i64 a2) := (blk_cell BK.out 2).trans rfl
      have hc_3 : W.cell? ⟨w.heap.size, 3, none⟩ = some (.int .i64 a3) := (blk_cell BK.out 3).trans rfl
      have hc_4 : W.cell? ⟨w.heap.size, 4, none⟩ = some (.int .i64 a4) := (blk_cell BK.out 4).trans rfl
      have hc_5 : W.cell? ⟨w.heap.size, 5, none⟩ = some (.int .i64 a5) := (blk_cell BK.out 5).trans rfl
      have hc_6 : W.cell? ⟨w.heap.size, 6, none⟩ = some (.bool a6) := (blk_cell BK.out 6).trans rfl
      have hc_7 : W.cell? ⟨w.heap.size, 7, none⟩ = some (.int .i64 a7) := (blk_cell BK.out 7).trans rfl
      have hc_8 : W.cell? ⟨w.heap.size, 8, none⟩ = some (.int .i64 a8) := (blk_cell BK.out 8).trans rfl
      have hs := Lib.hid (sign_own (.slice (some ⟨w.heap.size + 1, 0, none⟩) 2 2) [183, 3] a1 I1.out w W HB.out HO.out (by simp))
      have HBD : Hid (body (3, a1, a2, a3, a4, a5, a6, a7, a8) = [183, 3] ++ sgn a1) := Lib.hid (by simp [body, sgns_one])
      go_wp2_with (go_at_call 39; refine hs.out.mono ?_; rintro e w1 ⟨v1, rfl, ho1, hb1⟩)
      go_meet
      exact ⟨⟨by rw [HBD.out]; exact ho1⟩, ⟨hb1⟩⟩
    · have hc_0 : W.cell? ⟨w.heap.size, 0, none⟩ = some (.int .i64 4) := (blk_cell BK.out 0).trans rfl
      have hc_1 : W.cell? ⟨w.heap.size, 1, none⟩ = some (.int .i64 a1) := (blk_cell BK.out 1).trans rfl
      have hc_2 : W.cell? ⟨w.heap.size, 2, none⟩ = some (.int .i64 a2) := (blk_cell BK.out 2).trans rfl
      have hc_3 : W.cell? ⟨w.heap.size, 3, none⟩ = some (.int .i64 a3) := (blk_cell BK.out 3).trans rfl
      have hc_4 : W.cell? ⟨w.heap.size, 4, none⟩ = some (.int .i64 a4) := (blk_cell BK.out 4).trans rfl
      have hc_5 : W.cell? ⟨w.heap.size, 5, none⟩ = some (.int .i64 a5) := (blk_cell BK.out 5).trans rfl
      have hc_6 : W.cell? ⟨w.heap.size, 6, none⟩ = some (.bool a6) := (blk_cell BK.out 6).trans rfl
      have hc_7 : W.cell? ⟨w.heap.size, 7, none⟩ = some (.int .i64 a7) := (blk_cell BK.out 7).trans rfl
      have hc_8 : W.cell? ⟨w.heap.size, 8, none⟩ = some (.int .i64 a8) := (blk_cell BK.out 8).trans rfl
      have hs := Lib.hid (sign_own (.slice (some ⟨w.heap.size + 1, 0, none⟩) 2 2) [183, 4] a1 I1.out w W HB.out HO.out (by simp))
      have HBD : Hid (body (4, a1, a2, a3, a4, a5, a6, a7, a8) = [183, 4] ++ sgn a1) := Lib.hid (by simp [body, sgns_one])
      go_wp2_with (go_at_call 39; refine hs.out.mono ?_; rintro e w1 ⟨v1, rfl, ho1, hb1⟩)
      go_meet
      exact ⟨⟨by rw [HBD.out]; exact ho1⟩, ⟨hb1⟩⟩
    · have hc_0 : W.cell? ⟨w.heap.size, 0, none⟩ = some (.int .i64 5) := (blk_cell BK.out 0).trans rfl
      have hc_1 : W.cell? ⟨w.heap.size, 1, none⟩ = some (.int .i64 a1) := (blk_cell BK.out 1).trans rfl
      have hc_2 : W.cell? ⟨w.heap.size, 2, none⟩ = some (.int .i64 a2) := (blk_cell BK.out 2).trans rfl
      have hc_3 : W.cell? ⟨w.heap.size, 3, none⟩ = some (.int .i64 a3) := (blk_cell BK.out 3).trans rfl
      have hc_4 : W.cell? ⟨w.heap.size, 4, none⟩ = some (.int .i64 a4) := (blk_cell BK.out 4).trans rfl
      have hc_5 : W.cell? ⟨w.heap.size, 5, none⟩ = some (.int .i64 a5) := (blk_cell BK.out 5).trans rfl
      have hc_6 : W.cell? ⟨w.heap.size, 6, none⟩ = some (.bool a6) := (blk_cell BK.out 6).trans rfl
      have hc_7 : W.cell? ⟨w.heap.size, 7, none⟩ = some (.int .i64 a7) := (blk_cell BK.out 7).trans rfl
      have hc_8 : W.cell? ⟨w.heap.size, 8, none⟩ = some (.int .i64 a8) := (blk_cell BK.out 8).trans rfl
      have hs := Lib.hid (sign_own (.slice (some ⟨w.heap.size + 1, 0, none⟩) 2 2) [183, 5] a1 I1.out w W HB.out HO.out (by simp))
      have HBD : Hid (body (5, a1, a2, a3, a4, a5, a6, a7, a8) = [183, 5] ++ sgn a1) := Lib.hid (by simp [body, sgns_one])
      go_wp2_with (go_at_call 39; refine hs.out.mono ?_; rintro e w1 ⟨v1, rfl, ho1, hb1⟩)
      go_meet
      exact ⟨⟨by rw [HBD.out]; exact ho1⟩, ⟨hb1⟩⟩
    · have hc_0 : W.cell? ⟨w.heap.size, 0, none⟩ = some (.int .i64 6) := (blk_cell BK.out 0).trans rfl
      have hc_1 : W.cell? ⟨w.heap.size, 1, none⟩ = some (.int .i64 a1) := (blk_cell BK.out 1).trans rfl
      have hc_2 : W.cell? ⟨w.heap.size, 2, none⟩ = some (.int .i64 a2) := (blk_cell BK.out 2).trans rfl
      have hc_3 : W.cell? ⟨w.heap.size, 3, none⟩ = some (.int .i64 a3) := (blk_cell BK.out 3).trans rfl
      have hc_4 : W.cell? ⟨w.heap.size, 4, none⟩ = some (.int .i64 a4) := (blk_cell BK.out 4).trans rfl
      have hc_5 : W.cell? ⟨w.heap.size, 5, none⟩ = some (.int .i64 a5) := (blk_cell BK.out 5).trans rfl
      have hc_6 : W.cell? ⟨w.heap.size, 6, none⟩ = some (.bool a6) := (blk_cell BK.out 6).trans rfl
      have hc_7 : W.cell? ⟨w.heap.size, 7, none⟩ = some (.int .i64 a7) := (blk_cell BK.out 7).trans rfl
      have hc_8 : W.cell? ⟨w.heap.size, 8, none⟩ = some (.int .i64 a8) := (blk_cell BK.out 8).trans rfl
      have hs := Lib.hid (sign_own (.slice (some ⟨w.heap.size + 1, 0, none⟩) 2 2) [183, 6] a1 I1.out w W HB.out HO.out (by simp))
      have HBD : Hid (body (6, a1, a2, a3, a4, a5, a6, a7, a8) = [183, 6] ++ sgn a1) := Lib.hid (by simp [body, sgns_one])
      go_wp2_with (go_at_call 39; refine hs.out.mono ?_; rintro e w1 ⟨v1, rfl, ho1, hb1⟩)
      go_meet
      exact ⟨⟨by rw [HBD.out]; exact ho1⟩, ⟨hb1⟩⟩
    · have hc_0 : W.cell? ⟨w.heap.size, 0, none⟩ = some (.int .i64 7) := (blk_cell BK.out 0).trans rfl
      have hc_1 : W.cell? ⟨w.heap.size, 1, none⟩ = some (.int .i64 a1) := (blk_cell BK.out 1).trans rfl
      have hc_2 : W.cell? ⟨w.heap.size, 2, none⟩ = some (.int .i64 a2) := (blk_cell BK.out 2).trans rfl
      have hc_3 : W.cell? ⟨w.heap.size, 3, none⟩ = some (.int .i64 a3) := (blk_cell BK.out 3).trans rfl
      have hc_4 : W.cell? ⟨w.heap.size, 4, none⟩ = some (.int .i64 a4) := (blk_cell BK.out 4).trans rfl
      have hc_5 : W.cell? ⟨w.heap.size, 5, none⟩ = some (.int .i64 a5) := (blk_cell BK.out 5).trans rfl
      have hc_6 : W.cell? ⟨w.heap.size, 6, none⟩ = some (.bool a6) := (blk_cell BK.out 6).trans rfl
      have hc_7 : W.cell? ⟨w.heap.size, 7, none⟩ = some (.int .i64 a7) := (blk_cell BK.out 7).trans rfl
      have hc_8 : W.cell? ⟨w.heap.size, 8, none⟩ = some (.int .i64 a8) := (blk_cell BK.out 8).trans rfl
      have hs := Lib.hid (sign_own (.slice (some ⟨w.heap.size + 1, 0, none⟩) 2 2) [183, 7] a7 I7.out w W HB.out HO.out (by simp))
      have HBD : Hid (body (7, a1, a2, a3, a4, a5, a6, a7, a8) = [183, 7] ++ sgn a7) := Lib.hid (by simp [body, sgns_one])
      go_wp2_with (go_at_call 39; refine hs.out.mono ?_; rintro e w1 ⟨v1, rfl, ho1, hb1⟩)
      go_meet
      exact ⟨⟨by rw [HBD.out]; exact ho1⟩, ⟨hb1⟩⟩
    · have hc_0 : W.cell? ⟨w.heap.size, 0, none⟩ = some (.int .i64 8) := (blk_cell BK.out 0).trans rfl
      have hc_1 : W.cell? ⟨w.heap.size, 1, none⟩ = some (.int .i64 a1) := (blk_cell BK.out 1).trans rfl
      have hc_2 : W.cell? ⟨w.heap.size, 2, none⟩ = some (.int .i64 a2) := (blk_cell BK.out 2).trans rfl
      have hc_3 : W.cell? ⟨w.heap.size, 3, none⟩ = some (.int .i64 a3) := (blk_cell BK.out 3).trans rfl
      have hc_4 : W.cell? ⟨w.heap.size, 4, none⟩ = some (.int .i64 a4) := (blk_cell BK.out 4).trans rfl
      have hc_5 : W.cell? ⟨w.heap.size, 5, none⟩ = some (.int .i64 a5) := (blk_cell BK.out 5).trans rfl
      have hc_6 : W.cell? ⟨w.heap.size, 6, none⟩ = some (.bool a6) := (blk_cell BK.out 6).trans rfl
      have hc_7 : W.cell? ⟨w.heap.size, 7, none⟩ = some (.int .i64 a7) := (blk_cell BK.out 7).trans rfl
      have hc_8 : W.cell? ⟨w.heap.size, 8, none⟩ = some (.int .i64 a8) := (blk_cell BK.out 8).trans rfl
      have hs := Lib.hid (sign_own (.slice (some ⟨w.heap.size + 1, 0, none⟩) 2 2) [183, 8] a7 I7.out w W HB.out HO.out (by simp))
      have HBD : Hid (body (8, a1, a2, a3, a4, a5, a6, a7, a8) = [183, 8] ++ sgn a7) := Lib.hid (by simp [body, sgns_one])
      go_wp2_with (go_at_call 39; refine hs.out.mono ?_; rintro e w1 ⟨v1, rfl, ho1, hb1⟩)
      go_meet
      exact ⟨⟨by rw [HBD.out]; exact ho1⟩, ⟨hb1⟩⟩
    · have hc_0 : W.cell? ⟨w.heap.size, 0, none⟩ = some (.int .i64 9) := (blk_cell BK.out 0).trans rfl
      have hc_1 : W.cell? ⟨w.heap.size, 1, none⟩ = some (.int .i64 a1) := (blk_cell BK.out 1).trans rfl
      have hc_2 : W.cell? ⟨w.heap.size, 2, none⟩ = some (.int .i64 a2) := (blk_cell BK.out 2).trans rfl
      have hc_3 : W.cell? ⟨w.heap.size, 3, none⟩ = some (.int .i64 a3) := (blk_cell BK.out 3).trans rfl
      have hc_4 : W.cell? ⟨w.heap.size, 4, none⟩ = some (.int .i64 a4) := (blk_cell BK.out 4).trans rfl
      have hc_5 : W.cell? ⟨w.heap.size, 5, none⟩ = some (.int .i64 a5) := (blk_cell BK.out 5).trans rfl
      have hc_6 : W.cell? ⟨w.heap.size, 6, none⟩ = some (.bool a6) := (blk_cell BK.out 6).trans rfl
      have hc_7 : W.cell? ⟨w.heap.size, 7, none⟩ = some (.int .i64 a7) := (blk_cell BK.out 7).trans rfl
      have hc_8 : W.cell? ⟨w.heap.size, 8, none⟩ = some (.int .i64 a8) := (blk_cell BK.out 8).trans rfl
      have hs := Lib.hid (sign_own (.slice (some ⟨w.heap.size + 1, 0, none⟩) 2 2) [183, 9] a8 I8.out w W HB.out HO.out (by simp))
      have HBD : Hid (body (9, a1, a2, a3, a4, a5, a6, a7, a8) = [183, 9] ++ sgn a8) := Lib.hid (by simp [body, sgns_one])
      go_wp2_with (go_at_call 39; refine hs.out.mono ?_; rintro e w1 ⟨v1, rfl, ho1, hb1⟩)
      go_meet
      exact ⟨⟨by rw [HBD.out]; exact ho1⟩, ⟨hb1⟩⟩
    · have HBD : Hid (body (a0, a1, a2, a3, a4, a5, a6, a7, a8) = [183, a0]) := Lib.hid (by simp only [body]; rw [if_neg (by omega), if_neg (by omega), if_neg (by omega), if_neg (by omega), List.append_nil, Int.emod_eq_of_lt (by omega) (by omega)])
      have n1 : (a0 == 1) = false := by simp; omega
      have n2 : (a0 == 2) = false := by simp; omega
      have n3 : (a0 == 3) = false := by simp; omega
      have n4 : (a0 == 4) = false := by simp; omega
      have n5 : (a0 == 5) = false := by simp; omega
      have n6 : (a0 == 6) = false := by simp; omega
      have n7 : (a0 == 7) = false := by simp; omega
      have n8 : (a0 == 8) = false := by simp; omega
      have n9 : (a0 == 9) = false := by simp; omega
      clear hz
      go_wp2
      go_meet
      exact ⟨⟨by rw [HBD.out]; exact HO.out⟩, ⟨HB.out⟩⟩
  case rest =>
    obtain ⟨HOx, HBx⟩ := hcut
    rename_i v3
    obtain ⟨A3, c3, rfl, hc3, hC3⟩ := Kd.N_reads (Kd.R_N HOx.out)
    have hsm := (sum_law _ HBB.out (by have := HBL.out; omega))
    obtain ⟨B, hBe⟩ : ∃ B, body (a0, a1, a2, a3, a4, a5, a6, a7, a8) = B := ⟨_, rfl⟩
    rw [hBe] at HOx HBB HBL hc3 hC3 hsm ⊢
    have HBE := Lib.hid hBe
    have hpo := Lib.hid (fun (w' : World) (h : Below wc.heap.size wc w') => PReqBytes.berthagelaw10_sum.calls 1000 A3 c3 B (sm B) w' (Kd.C_below hC3 h) hc3 hsm.1)
    have HCV := Lib.hid (fun (w' : World) (h : Below wc.heap.size wc w') => Kd.C_string (P := Try.prog) (c := c3) Try.underlying38 Try.underlying5 Try.underlying9 (Kd.C_below hC3 h))
    clear hBe hC3 hc3 hsm d7
    obtain ⟨s1, hs1⟩ : ∃ s1, sm B = s1 := ⟨_, rfl⟩
    rw [hs1] at hpo
    have HS1 := Lib.hid hs1
    clear hs1
    have hl1 : (strOfNums [s1]).size = 1 := by rw [str_size]; rfl
    have hl2 : (strOfNums B).size ≤ 43 := by rw [str_size]; exact HBL.out
    have hcc : (9223372036854775807 < (strOfNums B).size + (strOfNums [s1]).size) = False := eq_false (by rw [hl1]; omega)
    have HAP := Lib.hid (str_app B [s1])
    obtain ⟨S1, hS1⟩ : ∃ S1, strOfNums [s1] = S1 := ⟨_, rfl⟩
    rw [hS1] at hcc HAP hl1
    have HNB := Lib.hid hS1
    clear hS1
    generalize strOfNums B = SB at hcc HAP HCV hl2
    clear hl1 hl2
    go_wp2_with fail
    have HBw := Lib.hid (below_drew1 (Below.refl wc.heap.size wc))
    refine start_ (n := 8) (S := fun w' => (convert 38 9 (.slice A3 B.length c3)).run Try.prog w' = .ok (.string SB) w') (ds := []) #[false, false, false, false, false, false, false, false] (by kernel_rfl) rfl rfl (HCV.out _ HBw.out) (fun hHeld => ?_)
    generalize wc.drew = w5 at HBw hHeld ⊢
    refine pure_ (i := 0) (N := some 50) (v := ?_) (a' := ?_) #[true, false, false, false, false, false, false, false] rfl rfl (by kernel_rfl) (fun _ _ _ h => h) (Or.inl ⟨by rfl, ?_⟩) ?_ ?_
    rotate_left
    · intro w'
      go_simp
      with_reducible rfl
    rotate_left
    · simp only [Act.put, List.setIfInBounds_toArray, List.set_cons_zero, List.set_cons_succ, i64_w, i32_w]
      rfl
    refine pure_ (i := 2) (N := some 52) (v := ?_) (a' := ?_) #[true, false, true, false, false, false, false, false] rfl rfl (by kernel_rfl) (fun _ _ _ h => h) (Or.inl ⟨by rfl, ?_⟩) ?_ ?_
    rotate_left
    · intro w'
      go_simp
      with_reducible rfl
    rotate_left
    · simp only [Act.put, List.setIfInBounds_toArray, List.set_cons_zero, List.set_cons_succ, i64_w, i32_w]
      rfl
    refine take_ (i := 1) (N := some 51) (v := ?_) (a' := ?_) #[true, true, true, false, false, false, false, false] rfl rfl (by kernel_rfl) (fun _ _ _ h => h) (Or.inl ⟨by rfl, ?_⟩) hHeld ?_ ?_
    rotate_left
    · intro w' s0
      go_simp
      with_reducible rfl
    rotate_left
    · simp only [Act.put, List.setIfInBounds_toArray, List.set_cons_zero, List.set_cons_succ, i64_w, i32_w]
      rfl
    refine one_ (i := 3) (N := some 53) #[true, true, true, true, false, false, false, false] rfl rfl (by kernel_rfl) (by decide) (fun K hK => ?_)
    refine goes_ Try.func109 (by kernel_rfl) rfl #[.slice A3 B.length c3] (by rfl) rfl rfl (by (try simp only [List.map_toArray, List.map_cons, List.map_nil]); first | done | rfl | (simp only [List.length_drop, List.length_take]; rfl)) ?_
    with_reducible refine (hpo.out _ HBw.out).mono ?_
    rintro e w3 ⟨rfl, hd⟩
    refine ⟨_, rfl, ?_⟩
    have hb := hd.below
    have n2_ := Lib.hid (HBw.out.trans (hb.mono HBw.out.size))
    clear HBw hb hd
    have HBw := n2_
    clear n2_
    refine hK.out _ _ (HCV.out _ HBw.out) (fun hHeld => ?_)
    clear hK K
    refine norm_ (a' := ?_) ?_ ?_
    rotate_left
    · show Act.put _ (some 53) _ = _
      simp only [Act.put, List.setIfInBounds_toArray, List.set_cons_zero, List.set_cons_succ, i64_w, i32_w]
      rfl
    refine one_ (i := 4) (N := some 54) #[true, true, true, true, true, false, false, false] rfl rfl (by kernel_rfl) (by decide) (fun K hK => ?_)
    refine Kd.R_lit_step (Kd.int .u8) _ 5 ?hg (N := 54) ?hd (xs := ([s1] : List Int)) (inner := [.int .u8 s1]) (ok := fun _ => True) (okp := fun _ => True) ?hr ?hp (fun _ hk => hk) trivial (Below.refl _ _) (Nat.le_refl _) (by simp) ?_; (case hd => rfl); (case hg => rfl); (case hr => first | (go_simp; done) | (go_simp; rfl)); (case hp => exact (Reps.one (show Kd.M (Kd.int .u8) _ _ _ s1 [.int .u8 s1] from rfl) (Reps.none _ _)))
    intro v4 w4 ho4 hb4 hg_ hnew_
    clear hg_ hnew_
    have hcv5 := own_string (P := Try.prog) Try.underlying38 Try.underlying5 Try.underlying9 (Kd.own_of_R ho4)
    rw [HNB.out] at hcv5
    have n2_ := Lib.hid (HBw.out.trans (hb4.mono HBw.out.size))
    clear HBw hb4
    have HBw := n2_
    clear n2_
    refine hK.out _ _ (HCV.out _ HBw.out) (fun hHeld => ?_)
    clear hK K
    refine norm_ (a' := ?_) ?_ ?_
    rotate_left
    · show Act.put _ (some 54) _ = _
      simp only [Act.put, List.setIfInBounds_toArray, List.set_cons_zero, List.set_cons_succ, i64_w, i32_w]
      rfl
    refine one_ (i := 5) (N := some 55) #[true, true, true, true, true, true, false, false] rfl rfl (by kernel_rfl) (by decide) (fun K hK => ?_)
    refine value_ (w1 := ?_) (v := ?_) (by rfl) rfl ?_ ?_
    rotate_left 2
    · go_simp
      constructor
      · rfl
      · rfl
    refine hK.out _ _ (HCV.out _ HBw.out) (fun hHeld => ?_)
    clear hK K
    refine norm_ (a' := ?_) ?_ ?_
    rotate_left
    · show Act.put _ (some 55) _ = _
      simp only [Act.put, List.setIfInBounds_toArray, List.set_cons_zero, List.set_cons_succ, i64_w, i32_w]
      rfl
    refine pure_ (i := 6) (N := some 56) (v := ?_) (a' := ?_) #[true, true, true, true, true, true, true, false] rfl rfl (by kernel_rfl) (fun _ _ _ h => h) (Or.inl ⟨by rfl, ?_⟩) ?_ ?_
    rotate_left
    · intro w'
      go_simp
      with_reducible rfl
    rotate_left
    · simp only [Act.put, List.setIfInBounds_toArray, List.set_cons_zero, List.set_cons_succ, i64_w, i32_w]
      rfl
    refine pure_ (i := 7) (N := some 2) (v := ?_) (a' := ?_) #[true, true, true, true, true, true, true, true] rfl rfl (by kernel_rfl) (fun _ _ _ h => h) (Or.inl ⟨by rfl, ?_⟩) ?_ ?_
    rotate_left
    · intro w'
      go_simp
      with_reducible rfl
    rotate_left
    · simp only [Act.put, List.setIfInBounds_toArray, List.set_cons_zero, List.set_cons_succ, i64_w, i32_w]
      rfl
    refine done_ (by kernel_rfl) ?_
    go_wp2
    go_ret
    exact ⟨(congrArg (fun s : ByteArray => Ending.returned (Value.string s)) (show strOfNums (body (a0, a1, a2, a3, a4, a5, a6, a7, a8) ++ [sm (body (a0, a1, a2, a3, a4, a5, a6, a7, a8))]) = _ by rw [HBE.out, HS1.out, HAP.out])).symm, HBx.out.trans (HBw.out.mono HBx.out.size)⟩

theorem eqR64 (d : Nat) (w : World) (x0 x1 x2 x3 x4 x5 : Int) (x6 : Bool) (x7 x8 y0 y1 y2 y3 y4 y5 : Int) (y6 : Bool) (y7 y8 : Int) :
    (Op.equalIn (d + 2) 64 (.agg #[.int .i64 x0, .int .i64 x1, .int .i64 x2, .int .i64 x3, .int .i64 x4, .int .i64 x5, .bool x6, .int .i64 x7, .int .i64 x8]) (.agg #[.int .i64 y0, .int .i64 y1, .int .i64 y2, .int .i64 y3, .int .i64 y4, .int .i64 y5, .bool y6, .int .i64 y7, .int .i64 y8])).run Try.prog w = .ok (x0 == y0 && (x1 == y1 && (x2 == y2 && (x3 == y3 && (x4 == y4 && (x5 == y5 && (x6 == y6 && (x7 == y7 && (x8 == y8))))))))) w := by
  refine eqA_of Try.underlying64 (by kernel_rfl) ?_
  refine eqf_cons (by rfl) (by go_simp; rfl) (by go_simp; rfl) (by go_simp) ?_
  refine eqf_cons (by rfl) (by go_simp; rfl) (by go_simp; rfl) (by go_simp) ?_
  refine eqf_cons (by rfl) (by go_simp; rfl) (by go_simp; rfl) (by go_simp) ?_
  refine eqf_cons (by rfl) (by go_simp; rfl) (by go_simp; rfl) (by go_simp) ?_
  refine eqf_cons (by rfl) (by go_simp; rfl) (by go_simp; rfl) (by go_simp) ?_
  refine eqf_cons (by rfl) (by go_simp; rfl) (by go_simp; rfl) (by go_simp) ?_
  refine eqf_cons (by rfl) (by go_simp; rfl) (by go_simp; rfl) (by go_simp) ?_
  refine eqf_cons (by rfl) (by go_simp; rfl) (by go_simp; rfl) (by go_simp) ?_
  exact eqf_last (by rfl) (by go_simp; rfl) (by go_simp; rfl) (by go_simp)
theorem reflR64 (x0 x1 x2 x3 x4 x5 : Int) (x6 : Bool) (x7 x8 : Int) (w : World) : (Op.equalIn 10000 64 (.agg #[.int .i64 x0, .int .i64 x1, .int .i64 x2, .int .i64 x3, .int .i64 x4, .int .i64 x5, .bool x6, .int .i64 x7, .int .i64 x8]) (.agg #[.int .i64 x0, .int .i64 x1, .int .i64 x2, .int .i64 x3, .int .i64 x4, .int .i64 x5, .bool x6, .int .i64 x7, .int .i64 x8])).run Try.prog w = .ok true w := by
  have := eqR64 9998 w x0 x1 x2 x3 x4 x5 x6 x7 x8 x0 x1 x2 x3 x4 x5 x6 x7 x8
  simpa using this
theorem rng_of {a0 a1 a2 a3 a4 a5 : Int} {a6 : Bool} {a7 a8 : Int} (w0 : (Lit.int .i64 a0).wf = true) (w1 : (Lit.int .i64 a1).wf = true) (w2 : (Lit.int .i64 a2).wf = true) (w3 : (Lit.int .i64 a3).wf = true) (w4 : (Lit.int .i64 a4).wf = true) (w5 : (Lit.int .i64 a5).wf = true) (w7 : (Lit.int .i64 a7).wf = true) (w8 : (Lit.int .i64 a8).wf = true) : rng (a0, a1, a2, a3, a4, a5, a6, a7, a8) :=
  ⟨bounds_i64 w0, bounds_i64 w1, bounds_i64 w2, bounds_i64 w3, bounds_i64 w4, bounds_i64 w5, bounds_i64 w7, bounds_i64 w8⟩
theorem all_bytes (q : Q) (h : rng q) : ∀ c ∈ body q ++ [sm (body q)], 0 ≤ c ∧ c < 256 := by
  intro c hc
  rw [List.mem_append] at hc
  rcases hc with hc | hc
  · exact body_bytes q c hc
  · obtain rfl := List.mem_singleton.mp hc
    exact (sum_law _ (body_bytes q) (by have := body_len q h; omega)).2
end Go.Proofs.Ytplajmcjkddikaa.ReqLaw
