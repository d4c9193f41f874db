/- ReplyBytes and ReplyReads: the law's walks. -/
import Derived.Test.YtplajmcjkddikaaReplyPlain
import Derived.Test.YtplajmcjkddikaaReplyTells
import Derived.Test.YtplajmcjkddikaaOpen
import Derived.Test.YtplajmcjkddikaaWire2
namespace Go.Proofs.Ytplajmcjkddikaa.ReplyLaw
open Go.RowKit Go.Proofs.YtplajmcjkddikaaW.PrintWords Go.Proofs.YtplajmcjkddikaaW.PrintLast Go.Proofs.YtplajmcjkddikaaW.PrintMore Go.Proofs.Ytplajmcjkddikaa.Leb Go.Proofs.Ytplajmcjkddikaa.Wire Go.Proofs.Ytplajmcjkddikaa.Reader Go.Proofs.Ytplajmcjkddikaa.Lock Go.Proofs.Ytplajmcjkddikaa.Reply Go.Proofs.Ytplajmcjkddikaa.ReplyRead Go.Proofs.Ytplajmcjkddikaa.ReplyPlain Go.Proofs.Ytplajmcjkddikaa.Open
set_option linter.unusedVariables false
set_option linter.unusedSimpArgs false

set_option maxRecDepth 100000 in
set_option maxHeartbeats 1000000 in
theorem list_law (x0 x1 x2 x3 x4 x5 x6 x7 x8 : Int) (w : World) :
    Calls Try.prog 107 #[.agg #[.int .i64 x0, .int .i64 x1, .int .i64 x2, .int .i64 x3, .int .i64 x4, .int .i64 x5, .int .i64 x6, .int .i64 x7, .int .i64 x8]] w fun e w' => ∃ v : Value, e = .returned v ∧ Kd.R (Kd.int .i64) 2 w' w.heap.size (fun _ => True) v (nine x0 x1 x2 x3 x4 x5 x6 x7 x8) ∧ Below w.heap.size w w' := by
  have hu1 := Try.underlying85
  have HB := Lib.hid (Below.refl w.heap.size w)
  go_enter Try.func107, Try.ntmps107
  go_wp2
  go_ret
  have h := own_lit (w.alloc (.cells #[.int .i64 x0, .int .i64 x1, .int .i64 x2, .int .i64 x3, .int .i64 x4, .int .i64 x5, .int .i64 x6, .int .i64 x7, .int .i64 x8] 85)) w.heap.size 2 .i64 (nine x0 x1 x2 x3 x4 x5 x6 x7 x8) (by simp) (by simp [nine])
  rw [World.size_alloc] at h
  exact ⟨_, rfl, Kd.R_of_own h (fun _ _ => trivial), by go_grown⟩

theorem rs_take (x : List Int) (h : x.length = 9) (n : Nat) (hn : n < 9) : rs (x.take (n + 1)) = rs (x.take n) ++ fv (x.getD n 0) := by
  have ht : x.take (n + 1) = x.take n ++ [x.getD n 0] := by
    rw [List.take_succ_eq_append_getElem (by omega), List.getD_eq_getElem?_getD, List.getElem?_eq_getElem (by omega)]; rfl
  rw [ht, rs_snoc]
theorem fv_len (v : Int) (h : In64 v) : (fv v).length ≤ 10 := by
  unfold fv; split
  · simp
  · exact enc_len10 _ (zig_lt v h)
theorem rs_len (x : List Int) (h : x.length = 9) (hx : ∀ n, In64 (x.getD n 0)) : ∀ n, n ≤ 9 → (rs (x.take n)).length ≤ 10 * n
  | 0, _ => by simp [rs]
  | n + 1, hn => by
    have h1 := rs_len x h hx n (by omega)
    have h2 := fv_len _ (hx n)
    rw [rs_take x h n (by omega), List.length_append]; omega
theorem str_three (E R : List Int) : strOfNums (184 :: (E ++ R)) = (⟨#[184]⟩ : ByteArray) ++ strOfNums E ++ strOfNums R := by
  apply ByteArray.ext
  apply Array.toList_inj.1
  rw [str_data]
  simp only [ByteArray.data_append, Array.toList_append, str_data, List.map_cons, List.map_append, List.cons_append, List.append_assoc]
  rfl
set_option maxRecDepth 100000 in
set_option maxHeartbeats 2000000 in
theorem bytes_law (x0 x1 x2 x3 x4 x5 x6 x7 x8 : Int) (hx : ∀ n, In64 ((nine x0 x1 x2 x3 x4 x5 x6 x7 x8).getD n 0)) (w : World) :
    Calls Try.prog 81 #[.agg #[.int .i64 x0, .int .i64 x1, .int .i64 x2, .int .i64 x3, .int .i64 x4, .int .i64 x5, .int .i64 x6, .int .i64 x7, .int .i64 x8]] w fun e w' => e = .returned (.string (strOfNums (out (nine x0 x1 x2 x3 x4 x5 x6 x7 x8) 9))) ∧ Below w.heap.size w w' := by
  have hu1 := Try.underlying85
  go_enter Try.func81, Try.ntmps81
  go_wp2_with (go_at_call 107; refine (list_law _ _ _ _ _ _ _ _ _ _).mono ?_; rintro e w1 ⟨v1, rfl, ho1, hb1⟩; obtain ⟨A, c, rfl, hc, hC⟩ := Kd.N_reads (Kd.R_N ho1))
  have hlen : (nine x0 x1 x2 x3 x4 x5 x6 x7 x8).length = 9 := rfl
  have HB1 : Aside0 (Below w.heap.size w w1) := ⟨below_step (by go_grown) hb1⟩
  have HC : Aside0 (Kd.C (Kd.int .i64) w1 A (nine x0 x1 x2 x3 x4 x5 x6 x7 x8).length (nine x0 x1 x2 x3 x4 x5 x6 x7 x8)) := ⟨hC⟩
  clear ho1 hb1 hC
  have HX := Lib.hid hx
  clear hx
  generalize hnx : nine x0 x1 x2 x3 x4 x5 x6 x7 x8 = x at hlen HC HX hc ⊢
  have HNX := Lib.hid hnx
  clear hnx
  rw [hlen]
  go_wp2
  go_loopw [4, 5, 6, 7] (fun m u v i wr => ∃ n : Nat, n ≤ 9 ∧ i = .int .i64 n ∧ m = .int .i64 (mk x n) ∧ u = .int .i64 ((2 ^ n : Nat) : Int) ∧ Aside0 (Kd.R (Kd.int .u8) 5 wr w1.heap.size (fun _ => True) v (rs (x.take n))) ∧ Aside0 (Below w1.heap.size w1 wr)) (fun _ _ _ i _ => 9 - (intOf i).toNat)
  case atStart => exact ⟨0, by omega, rfl, rfl, rfl, ⟨by simpa [rs] using Kd.R_nil _ _ _ _ _⟩, ⟨Below.refl _ _⟩⟩
  case round =>
    obtain ⟨n, hn, rfl, rfl, rfl, HO, HB⟩ := hrel
    have hp : 2 ^ n ≤ 512 := by
      have : 2 ^ n ≤ 2 ^ 9 := Nat.pow_le_pow_right (by omega) hn
      simpa using this
    have hm := mk_lt x n
    have hmm : mk x n < 512 := by omega
    by_cases hlt : n < 9
    · have HWY := Lib.hid (fun (w' : World) (hb' : Below w1.heap.size w1 w') => show ∃ ad, A = some ad ∧ w'.cell? (ad.add n) = some (.int .i64 (x.getD n 0)) from (by
        obtain ⟨ad, e, hx⟩ := Kd.at_int (Kd.C_below HC.out hb') (n : Int) (by omega) (by omega)
        rw [Int.toNat_natCast] at hx
        have er : rd x (n : Int) = x.getD n 0 := by unfold rd; rw [Int.toNat_natCast]
        rw [er] at hx
        exact ⟨ad, e, hx⟩))
      obtain ⟨ad, rfl, hx0⟩ := HWY.out wr HB.out
      have HM2 := Lib.hid (show mk x (n + 1) = mk x n + (if x.getD n 0 = 0 then 0 else 2 ^ n) from rfl)
      have HR2 := Lib.hid (rs_take x hlen n hlt)
      have HV := Lib.hid (HX.out n)
      have hrl := rs_len x hlen HX.out n hn
      have HP := Lib.hid (show (2 : Nat) ^ (n + 1) = 2 * 2 ^ n by rw [Nat.pow_succ]; omega)
      generalize x.getD n 0 = v at hx0 HM2 HR2 HV HWY
      generalize mk x n = m at hm hmm HM2 ⊢
      generalize (2 : Nat) ^ n = p at hp hm HM2 HP ⊢
      clear hm
      by_cases hv : v = 0
      · have b1 : (v != 0) = false := by simpa using hv
        have h1 := HM2.out
        have h2 := HR2.out
        rw [if_pos hv, Nat.add_zero] at h1
        rw [fv, if_pos hv, List.append_nil] at h2
        have H1 := Lib.hid h1
        have H2 := Lib.hid h2
        clear h1 h2 hv
        go_wp2
        go_roundw
        case rel => exact ⟨n + 1, by omega, by go_num, (congrArg (fun q : Nat => Value.int .i64 (q : Int)) H1.out).symm, (congrArg (Value.int .i64) (show 2 * (p : Int) = ((2 * p : Nat) : Int) by omega)).trans (congrArg (fun q : Nat => Value.int .i64 (q : Int)) HP.out).symm, ⟨by rw [H2.out]; exact HO.out⟩, HB⟩
        case measure => simp [intOf]; omega
      · have b1 : (v != 0) = true := by simpa using hv
        have h1 := HM2.out
        have h2 := HR2.out
        rw [if_neg hv] at h1
        rw [fv, if_neg hv] at h2
        have H1 := Lib.hid h1
        have H2 := Lib.hid h2
        clear h1 h2 hv
        go_wp2_with fail
        have hsg := sign_own _ _ v HV.out w1 _ HB.out HO.out (by omega)
        refine hsg.mono ?_
        rintro e w2 ⟨v2, rfl, ho2, hb2⟩
        clear hsg
        go_wp2
        go_roundw
        case rel => exact ⟨n + 1, by omega, by go_num, (congrArg (Value.int .i64) (show (m : Int) + (p : Int) = ((m + p : Nat) : Int) by omega)).trans (congrArg (fun q : Nat => Value.int .i64 (q : Int)) H1.out).symm, (congrArg (Value.int .i64) (show 2 * (p : Int) = ((2 * p : Nat) : Int) by omega)).trans (congrArg (fun q : Nat => Value.int .i64 (q : Int)) HP.out).symm, ⟨by rw [H2.out]; exact ho2⟩, ⟨hb2⟩⟩
        case measure => simp [intOf]; omega
    · obtain rfl : n = 9 := by omega
      rw [List.take_of_length_le (by omega)] at HO
      have hlen2 : (rs x).length ≤ 90 := by have := rs_len x hlen HX.out 9 (by omega); rwa [List.take_of_length_le (by omega)] at this
      obtain ⟨A2, c2, rfl⟩ := Kd.R_slice HO.out
      have HCV := Lib.hid (fun (w' : World) (h : Kd.R (Kd.int .u8) 5 w' w1.heap.size (fun _ => True) (.slice A2 (rs x).length c2) (rs x)) => own_string (P := Try.prog) Try.underlying38 Try.underlying5 Try.underlying9 (Kd.own_of_R h))
      have hcv0 := HCV.out wr.drew (Kd.R_drew HO.out)
      clear hn hlt hp hm
      have HSZ := Lib.hid hlen2
      have HMM := Lib.hid hmm
      clear hlen2 hmm
      have HOUT := Lib.hid (out9 x hlen)
      generalize mk x 9 = m at HMM HOUT ⊢
      generalize rs x = R at HO HCV hcv0 HSZ HOUT ⊢
      have hpf := put_own (.slice none 0 0) [] (m : Int) (by have := HMM.out; unfold I64; omega) wr.drew wr.drew (Below.refl _ _) (Kd.R_nil _ _ _ _ _) (by simp)
      have hpb : putB (m : Int) = enc m := by unfold putB; rw [if_neg (by omega), Int.toNat_natCast]
      rw [hpb, List.nil_append] at hpf
      have hel := enc_len10 m (by have := HMM.out; omega)
      have HEL := Lib.hid hel
      generalize enc m = E at hpf HOUT HEL
      clear hel hpb
      have HPF := Lib.hid hpf
      clear hpf
      go_wp2_with fail
      have hz1 : (strOfNums E).size = E.length := str_size E
      have hz2 : (strOfNums R).size = R.length := str_size R
      have hz3 : ((⟨#[184]⟩ : ByteArray) ++ strOfNums E).size = 1 + E.length := by rw [ByteArray.size_append, hz1]; rfl
      have c1 : decide (1 + (strOfNums E).size ≤ 9223372036854775807) = true := by have := HEL.out; rw [hz1]; exact decide_eq_true (by omega)
      have c2_ : (9223372036854775807 < 1 + (strOfNums E).size) = False := eq_false (by have := HEL.out; rw [hz1]; omega)
      have c3 : (9223372036854775807 < 1 + (strOfNums E).size + (strOfNums R).size) = False := eq_false (by have := HEL.out; have := HSZ.out; rw [hz1, hz2]; omega)
      have hw0 : strOfNums (184 :: (E ++ R)) = (⟨#[184]⟩ : ByteArray) ++ strOfNums E ++ strOfNums R := str_three E R
      have HW0 := Lib.hid hw0
      clear hz1 hz2 hz3 hw0
      refine start_ (n := 8) (S := fun w' => (convert 38 9 (.slice A2 R.length c2)).run Try.prog w' = .ok (.string (strOfNums R)) w') (ds := []) #[false, false, false, false, false, false, false, false] (by kernel_rfl) rfl rfl (hcv0) (fun hHeld => ?_)
      refine pure_ (i := 0) (N := some 32) (v := ?_) (a' := ?_) #[true, false, false, false, false, false, false, false] rfl rfl (by kernel_rfl) (fun _ _ _ h => h) (Or.inl ⟨by rfl, ?_⟩) ?_ ?_
      rotate_left
      · intro w'
        go_simp
        with_reducible rfl
      rotate_left
      · simp only [Act.put, List.setIfInBounds_toArray, List.set_cons_zero, List.set_cons_succ, i64_w, i32_w]
        rfl
      refine pure_ (i := 4) (N := some 36) (v := ?_) (a' := ?_) #[true, false, false, false, true, false, false, false] rfl rfl (by kernel_rfl) (fun _ _ _ h => h) (Or.inl ⟨by rfl, ?_⟩) ?_ ?_
      rotate_left
      · intro w'
        go_simp
        with_reducible rfl
      rotate_left
      · simp only [Act.put, List.setIfInBounds_toArray, List.set_cons_zero, List.set_cons_succ, i64_w, i32_w]
        rfl
      refine take_ (i := 5) (N := some 37) (v := ?_) (a' := ?_) #[true, false, false, false, true, true, false, false] rfl rfl (by kernel_rfl) (fun _ _ _ h => h) (Or.inl ⟨by rfl, ?_⟩) hHeld ?_ ?_
      rotate_left
      · intro w' s0
        go_simp
        with_reducible rfl
      rotate_left
      · simp only [Act.put, List.setIfInBounds_toArray, List.set_cons_zero, List.set_cons_succ, i64_w, i32_w]
        rfl
      refine one_ (i := 1) (N := some 33) #[true, true, false, false, true, true, false, false] rfl rfl (by kernel_rfl) (by decide) (fun K hK => ?_)
      refine goes_ Try.func43 (by kernel_rfl) rfl #[.slice none 0 0, .int .i64 (m : Int)] (by rfl) rfl rfl (by (try simp only [List.map_toArray, List.map_cons, List.map_nil]); first | done | rfl | (simp only [List.length_drop, List.length_take]; rfl)) ?_
      with_reducible refine (HPF.out).mono ?_
      rintro e w2 ⟨v2, rfl, ho2, hb2⟩
      refine ⟨_, rfl, ?_⟩
      have hcv2 := own_string (P := Try.prog) Try.underlying38 Try.underlying5 Try.underlying9 (Kd.own_of_R ho2)
      have hcv3 := HCV.out w2 (Kd.R_below (Kd.R_drew HO.out) hb2)
      refine hK.out _ _ (hcv3) (fun hHeld => ?_)
      clear hK K
      refine norm_ (a' := ?_) ?_ ?_
      rotate_left
      · show Act.put _ (some 33) _ = _
        simp only [Act.put, List.setIfInBounds_toArray, List.set_cons_zero, List.set_cons_succ, i64_w, i32_w]
        rfl
      refine one_ (i := 2) (N := some 34) #[true, true, true, false, true, true, false, false] rfl rfl (by kernel_rfl) (by decide) (fun K hK => ?_)
      refine value_ (w1 := ?_) (v := ?_) (by rfl) rfl ?_ ?_
      rotate_left 2
      · go_simp
        constructor
        · rfl
        · rfl
      refine hK.out _ _ (hcv3) (fun hHeld => ?_)
      clear hK K
      refine norm_ (a' := ?_) ?_ ?_
      rotate_left
      · show Act.put _ (some 34) _ = _
        simp only [Act.put, List.setIfInBounds_toArray, List.set_cons_zero, List.set_cons_succ, i64_w, i32_w]
        rfl
      refine pure_ (i := 3) (N := some 35) (v := ?_) (a' := ?_) #[true, true, true, true, true, true, false, false] rfl rfl (by kernel_rfl) (fun _ _ _ h => h) (Or.inl ⟨by rfl, ?_⟩) ?_ ?_
      rotate_left
      · intro w'
        go_simp
        with_reducible rfl
      rotate_left
      · simp only [Act.put, List.setIfInBounds_toArray, List.set_cons_zero, List.set_cons_succ, i64_w, i32_w]
        rfl
      refine pure_ (i := 6) (N := some 38) (v := ?_) (a' := ?_) #[true, true, true, true, true, true, true, false] rfl rfl (by kernel_rfl) (fun _ _ _ h => h) (Or.inl ⟨by rfl, ?_⟩) ?_ ?_
      rotate_left
      · intro w'
        go_simp
        with_reducible rfl
      rotate_left
      · simp only [Act.put, List.setIfInBounds_toArray, List.set_cons_zero, List.set_cons_succ, i64_w, i32_w]
        rfl
      refine pure_ (i := 7) (N := some 2) (v := ?_) (a' := ?_) #[true, true, true, true, true, true, true, true] rfl rfl (by kernel_rfl) (fun _ _ _ h => h) (Or.inl ⟨by rfl, ?_⟩) ?_ ?_
      rotate_left
      · intro w'
        go_simp
        with_reducible rfl
      rotate_left
      · simp only [Act.put, List.setIfInBounds_toArray, List.set_cons_zero, List.set_cons_succ, i64_w, i32_w]
        rfl
      refine done_ (by kernel_rfl) ?_
      go_wp2
      go_ret
      exact ⟨(congrArg (fun s : ByteArray => Ending.returned (Value.string s)) (show strOfNums (out (nine x0 x1 x2 x3 x4 x5 x6 x7 x8) 9) = _ by rw [HNX.out, HOUT.out, HW0.out])).symm, HB1.out.trans ((HB.out.trans ((below_drew (Below.refl _ _)).trans (hb2.mono (Nat.le_refl _)) |>.mono HB.out.size)).mono HB1.out.size)⟩
end Go.Proofs.Ytplajmcjkddikaa.ReplyLaw
