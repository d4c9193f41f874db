/- PickRows: any set's rows, how many, the longest, and how far its nodes lie from one another: for every set. -/
import Derived.Test.YtmjkgnlmdcmdbaaDoorRowsW
import Derived.Test.YtmjkgnlmdcmdbaaDoorHoles
import Derived.RegionTactic
import Derived.Deep.RegionWith
namespace Go.Proofs.YtmjkgnlmdcmdbaaDoor.Pick
open Go.RowKit Go.Proofs.YtmjkgnlmdcmdbaaDoorW.PrintWords Go.Proofs.YtmjkgnlmdcmdbaaDoorW.PrintLast Go.Proofs.YtmjkgnlmdcmdbaaDoorW.PrintMore Go.Proofs.YtmjkgnlmdcmdbaaDoor.Row Go.Proofs.YtmjkgnlmdcmdbaaDoor.Sets
set_option linter.unusedVariables false
set_option linter.unusedSimpArgs false
/-- the list that came back: its nodes, in a world behind -/
theorem wrap_cast (a k : Nat) (h : a + k ≤ 64) : wrap64 ((a : Int) + (k : Int)) = ((a + k : Nat) : Int) ∧ IntKind.i64.wrap ((a : Int) + (k : Int)) = ((a + k : Nat) : Int) := wrap_ok (by omega) (by omega) (by omega)
theorem range_zero (a : Nat) : mk (List.range' a 0) = 0 := rfl
set_option maxRecDepth 100000 in
set_option maxHeartbeats 2000000 in
theorem PickRows_any (x : Int) (w : World) (hx : (Lit.int .u64 x).wf = true) (hT : Tab w) :
    Calls Tryd.prog 14 #[.int .u64 x] w fun e w' => e = .returned (.bool true) ∧ Below w.heap.size w w' := by
  obtain ⟨s, rfl, hs⟩ := u64_out x hx
  have HT := Lib.hid hT
  have HW := Lib.hid (fun W (h : Below w.heap.size w W) => awake38_any W (HT.out.below h HT.out.lt))
  have kl := list_any s w hs hT
  unfold ListIs at kl
  have KL := Lib.hid kl
  have hl64 := lenS_le s
  have hlen : (nodes s).length = lenS s := rfl
  have K8 : Hid (∀ (A : Option Addr) (c : Nat) (W : World), Rds (Value.int .i64) W A (Sets.nums (nodes s)) → Calls Tryd.prog 70 #[.slice A (lenS s) c] W fun e w' => ∃ v, e = .returned v ∧ K2.R 101 w' W.heap.size (fun _ => True) v (prs (rowsOn (nodes s))) ∧ Below W.heap.size W w') := Lib.hid (fun A c W hr => rows38_any A (lenS s) c (nodes s) W hr rfl hl64 (nodes_at_lt s))
  have KR0 := fun (W : World) (hW : Tab W) => Rows_any s W hs hW
  have KO0 := fun (W : World) (hW : Tab W) => Holes_any s W hs hW
  unfold RowsPost at KR0
  unfold HolesIs at KO0
  have KR := Lib.hid KR0
  have hat := nodes_at_lt s
  have hends : s = 0 ∨ (s ≠ 0 ∧ lowS s = ((nodes s).getD 0 0 : Nat) ∧ highS s = ((nodes s).getD (lenS s - 1) 0 : Nat) ∧ 0 < lenS s) := by
    by_cases h : s = 0
    · exact .inl h
    · exact .inr ⟨h, ends_of s hs h⟩
  have HEN := Lib.hid hends
  have HAT := Lib.hid hat
  have HSM := Lib.hid (rowsOn_at_small (nodes s))
  have HRL := Lib.hid (rowsOn_len (nodes s))
  clear hx hT kl KR0 hat hends
  obtain ⟨n, hn⟩ : ∃ n, lenS s = n := ⟨_, rfl⟩
  obtain ⟨l, hl⟩ : ∃ l, nodes s = l := ⟨_, rfl⟩
  rw [hn, hl] at KL K8 HEN hlen
  rw [hl] at KR KO0 HAT HSM HRL
  rw [hn] at hl64
  obtain ⟨L, hL⟩ : ∃ L, rowsOn l = L := ⟨_, rfl⟩
  rw [hL] at K8 KO0 HSM HRL
  rw [hlen] at HSM HRL
  have KO := Lib.hid KO0
  have HLL := Lib.hid hL
  have HLN := Lib.hid hlen
  have HLE := Lib.hid hl
  clear KO0 hL hn hl hlen
  obtain ⟨N, hN⟩ : ∃ N, L.length = N := ⟨_, rfl⟩
  rw [hN] at KO HRL
  have HN := Lib.hid hN
  have hN64 : N ≤ 64 := by have := HRL.out; omega
  have nn : ((N : Int) != (N : Int)) = false := by simp
  have nn2 : ((N : Int) == (N : Int)) = true := by simp
  clear hN
  go_enter Tryd.func14, Tryd.ntmps14
  go_upto_region 4 with (first
    | (go_at_call 25; refine KL.out.mono ?_; clear KL; rintro e w2 ⟨A, c, rfl, hc, hr, hb⟩; have HR := Lib.hid hr; have HB := Lib.hid hb; clear hr hb)
    | (go_at_call 70; refine (K8.out A c w2 HR.out).mono ?_; clear K8; rintro e w3 ⟨v8, rfl, hp, hb⟩; have HP := Lib.hid hp; have HBB := Lib.hid hb; have HB1 := Lib.hid (below_step HB.out hb); clear hp hb))
  obtain ⟨A8, c8, hv8⟩ := Kd.R_slice HP.out
  rw [prs_len, HN.out] at hv8
  subst hv8
  have HR3 := Lib.hid (HR.out.below HBB.out)
  clear HR HB HBB
  go_upto_region 5 with (go_at_call 71; refine (KR.out _ (HT.out.below HB1.out HT.out.lt)).mono ?_; clear KR; rintro e w4 ⟨A4, c4, L4, rfl, hc4, hr4, hro4, hle4, hb⟩; have HR4 := Lib.hid hr4; have HRO4 := Lib.hid hro4; have HP4 := Lib.hid (Kd.R_below HP.out hb); have HB4 := Lib.hid (below_step HB1.out hb); have HR5 := Lib.hid (HR3.out.below hb); have HLE4 := Lib.hid hle4; clear hr4 hro4 hle4 hb HP HB1 HR3)
  have h4 := rows_settled L4 _ HRO4.out
  rw [HLL.out] at h4
  subst h4
  rw [HN.out] at hc4 ⊢
  clear HRO4
  have HXL : Hid ((L.map rowSet).length = N) := Lib.hid (by rw [List.length_map]; exact HN.out)
  have HXA : Hid (∀ k, k < N → (L.map rowSet).getD k 0 = mk (List.range' (L.getD k (0, 0)).1 (L.getD k (0, 0)).2) ∧ (L.getD k (0, 0)).1 + (L.getD k (0, 0)).2 ≤ 64) := Lib.hid (fun k hk => by
    have hp := List.getElem?_eq_getElem (show k < L.length by rw [HN.out]; exact hk)
    have hm := HLE4.out _ (List.mem_of_getElem? hp)
    rw [List.getD_eq_getElem?_getD, List.getElem?_map, List.getD_eq_getElem?_getD, hp]
    exact ⟨rfl, hm⟩)
  clear HLE4
  obtain ⟨base, hbase⟩ : ∃ b, w2.heap.size = b := ⟨_, rfl⟩
  rw [hbase] at HP4
  go_wp2
  go_loopg [7, 8] (N + 1) (fun kq v7 v8 w' => ∃ (i m : Nat), v7 = .int .i64 (m : Int) ∧ v8 = .int .i64 i ∧ Aside0 (i + kq = N + 1 ∧ 1 ≤ kq) ∧ Aside0 (m = mostS L i) ∧ w4 = w')
  case atStart => exact ⟨0, 0, rfl, rfl, ⟨by omega, by omega⟩, ⟨rfl⟩, rfl⟩
  case round =>
    obtain ⟨i, m, rfl, rfl, HI, HO, rfl⟩ := hrel
    obtain ⟨k1, rfl⟩ : ∃ k1, gk = k1 + 1 := ⟨gk - 1, by have := HI.out; omega⟩
    by_cases c1 : i < N
    · have d1 : decide (i < N) = true := decide_eq_true c1
      have d2 : decide ((i : Int) < (N : Int)) = true := decide_eq_true (by omega)
      have HC1 := Lib.hid c1
      obtain ⟨g, cg, hvg, -, -, -⟩ := Kd.R_form HP4.out (by rw [prs_len, HN.out]; omega)
      rw [prs_len, HN.out] at hvg
      injection hvg with e1 e2 e3
      subst e1 e3
      clear e2
      obtain ⟨p0, p1, -, -⟩ := pair_at HP4.out i (by rw [HN.out]; exact c1)
      have hst : mostS L (i + 1) = if m < (L.getD i (0, 0)).2 then (L.getD i (0, 0)).2 else m := by rw [HO.out]; rfl
      obtain ⟨hxa, hx64⟩ := HXA.out i c1
      obtain ⟨ad, rfl, q0⟩ := rdsU_at HR4.out i (by rw [HXL.out]; exact c1)
      rw [hxa] at q0
      obtain ⟨a, ha⟩ : ∃ a, (L.getD i (0, 0)).1 = a := ⟨_, rfl⟩
      obtain ⟨q, hq⟩ : ∃ a, (L.getD i (0, 0)).2 = a := ⟨_, rfl⟩
      rw [ha] at p0 q0 hx64
      rw [hq] at p1 q0 hx64 hst
      have HST := Lib.hid hst
      have HX64 := Lib.hid hx64
      have x0 : (0 ≤ (i : Int) ∧ (i : Int) < (N : Int)) = True := eq_true ⟨by omega, by omega⟩
      have y0 : ((i : Int) < (N : Int)) = True := eq_true (by omega)
      have xt : ((i : Int)).toNat = i := by omega
      clear hst hxa ha hq
      go_upto_block 2 with fail
      go_cut [9] (fun v9 wx => v9 = .int .u64 (mk (List.range' a q) : Nat) ∧ w4 = wx)
      case first =>
        go_wp2
        go_loopg [9, 10] 66 (fun kq v9 v10 w' => ∃ (k : Nat), v9 = .int .u64 (mk (List.range' a k) : Nat) ∧ v10 = .int .i64 k ∧ Aside0 (k + kq = 66 ∧ k ≤ q) ∧ w4 = w')
        case atStart => exact ⟨0, by rw [range_zero]; rfl, rfl, ⟨by omega, by omega⟩, rfl⟩
        case round =>
          obtain ⟨k, rfl, rfl, HK, rfl⟩ := hrel
          obtain ⟨k2, rfl⟩ : ∃ k2, gk = k2 + 1 := ⟨gk - 1, by have := HK.out; have := HX64.out; omega⟩
          by_cases c2 : k < q
          · have f1 : decide (k < q) = true := decide_eq_true c2
            have f2 : decide ((k : Int) < (q : Int)) = true := decide_eq_true (by omega)
            have KW0 := fun W => with_any (mk (List.range' a k)) ((a + k : Nat) : Int) W (rowSet_lt a k (by have := HX64.out; omega))
            rw [rowSet_step a k (by have := HX64.out; omega)] at KW0
            have KW := Lib.hid KW0
            have hk64 : k ≤ 64 := by have := HX64.out; omega
            have W1 := wrap_cast a k (by have := HX64.out; omega)
            have HC2 := Lib.hid c2
            have w1 := W1.1
            have w2_ := W1.2
            clear KW0 W1
            go_wp2_with (go_at_call 30; refine (KW.out _).mono ?_; rintro e w5 ⟨rfl, rfl⟩)
            clear w1 w2_
            go_roundg k2
            case measure => have := HK.out; omega
            case rel => exact ⟨k + 1, rfl, by go_num, ⟨by have := HK.out; omega, by have := HC2.out; omega⟩, rfl⟩
          · have f1 : decide (k < q) = false := decide_eq_false c2
            have f2 : decide ((k : Int) < (q : Int)) = false := decide_eq_false (by omega)
            obtain rfl : k = q := by have := HK.out; omega
            go_wp2
            go_meet
            exact ⟨rfl, rfl⟩
      case rest =>
        obtain ⟨rfl, rfl⟩ := hcut
        have g1 : (((mk (List.range' a q) : Nat) : Int) != ((mk (List.range' a q) : Nat) : Int)) = false := by simp
        by_cases c3 : m < q
        · have f1 : decide (m < q) = true := decide_eq_true c3
          have f2 : decide ((m : Int) < (q : Int)) = true := decide_eq_true (by omega)
          go_wp2
          go_roundg k1
          case measure => have := HI.out; omega
          case rel => exact ⟨i + 1, q, by go_num, by go_num, ⟨by have := HI.out; omega, by have := HI.out; have := HC1.out; omega⟩, ⟨by rw [HST.out, if_pos c3]⟩, rfl⟩
        · have f1 : decide (m < q) = false := decide_eq_false c3
          have f2 : decide ((m : Int) < (q : Int)) = false := decide_eq_false (by omega)
          go_wp2
          go_roundg k1
          case measure => have := HI.out; omega
          case rel => exact ⟨i + 1, m, by go_num, by go_num, ⟨by have := HI.out; omega, by have := HI.out; have := HC1.out; omega⟩, ⟨by rw [HST.out, if_neg (by omega)]⟩, rfl⟩
    · have d1 : decide (i < N) = false := decide_eq_false c1
      have d2 : decide ((i : Int) < (N : Int)) = false := decide_eq_false (by omega)
      obtain rfl : i = N := by have := HI.out; omega
      rw [HLN.out.symm] at hl64
      have mm : ((m : Int) == (m : Int)) = true := by simp
      have KO1 := KO.out
      rw [← HO.out] at KO1
      have KO2 := Lib.hid KO1
      clear KO1
      rcases HEN.out with h0 | ⟨h0, hlo, hhi, hn0⟩
      · have hn : n = 0 := by
          have h1 := HLE.out
          rw [h0, nodes_zero] at h1
          rw [← HLN.out, ← h1]; rfl
        have f1 : decide (0 < (n : Int)) = false := decide_eq_false (by omega)
        have f2 : decide (0 < n) = false := decide_eq_false (by omega)
        have KS : Hid (∀ W, Calls Tryd.prog 73 #[.int .u64 (s : Int)] W fun e w' => e = .returned (.int .i64 0) ∧ W = w') := Lib.hid (fun W => by rw [h0]; exact Spread_zero W)
        have HTB := Lib.hid (HT.out.below HB4.out HT.out.lt)
        clear h0 hn hl64
        go_wp2_with (first
          | (go_at_call 72; refine (KO2.out _ HTB.out).mono ?_; rintro e w5 ⟨rfl, hb⟩; have HB5 := Lib.hid (below_step HB4.out hb); clear hb)
          | (go_at_call 73; refine (KS.out _).mono ?_; rintro e w6 ⟨rfl, rfl⟩)
          | (go_at_call 65; refine (HW.out _ HB5.out).mono ?_; rintro e w7 ⟨rfl, hb⟩; have HB6 := Lib.hid (below_step HB5.out hb); clear hb))
        go_ret
        exact ⟨rfl, HB6.out⟩
      · have f1 : decide (0 < (n : Int)) = true := decide_eq_true (by omega)
        have f2 : decide (0 < n) = true := decide_eq_true hn0
        obtain ⟨ad, rfl, -⟩ := rdsI_at HR5.out 0 (by rw [HLN.out]; exact hn0)
        obtain ⟨j, hj⟩ : ∃ j, n - 1 = j := ⟨_, rfl⟩
        rw [hj] at hhi
        obtain ⟨x, hx⟩ : ∃ x, l.getD 0 0 = x := ⟨_, rfl⟩
        obtain ⟨y, hy⟩ : ∃ y, l.getD j 0 = y := ⟨_, rfl⟩
        rw [hx] at hlo
        rw [hy] at hhi
        have hx64 := HAT.out 0
        have hy64 := HAT.out j
        rw [hx] at hx64
        rw [hy] at hy64
        have hn64 : n ≤ 64 := by rw [← HLN.out]; exact hl64
        have HX : Hid (0 < l.length ∧ l.getD 0 0 = x) := Lib.hid ⟨by rw [HLN.out]; exact hn0, hx⟩
        have HY : Hid (j < l.length ∧ l.getD j 0 = y) := Lib.hid ⟨by rw [HLN.out]; omega, hy⟩
        have KS : Hid (∀ W, Tab W → Calls Tryd.prog 73 #[.int .u64 (s : Int)] W fun e w' => e = .returned (.int .i64 ((y : Int) - (x : Int))) ∧ W = w') := Lib.hid (fun W hW => Spread_any s W hs h0 hW _ (by rw [hhi, hlo]) (by omega) (by omega))
        have HTB := Lib.hid (HT.out.below HB4.out HT.out.lt)
        have yy : ((y : Int) - (x : Int) == (y : Int) - (x : Int)) = true := by simp
        have x0 : (0 ≤ (j : Int) ∧ (j : Int) < (n : Int)) = True := eq_true ⟨by omega, by omega⟩
        have y0 : ((j : Int) < (n : Int)) = True := eq_true (by omega)
        have xt : ((j : Int)).toNat = j := by omega
        have x1 : (0 ≤ (0 : Int) ∧ (0 : Int) < (n : Int)) = True := eq_true ⟨by omega, by omega⟩
        have y1 : ((0 : Int) < (n : Int)) = True := eq_true (by omega)
        have y2 : (0 < n) = True := eq_true hn0
        have WA := Lib.hid (wrap_ok (show (n : Int) - 1 = (j : Int) by omega) (by omega) (by omega))
        have WB := Lib.hid (wrap_ok (show (y : Int) - (x : Int) = (y : Int) - (x : Int) from rfl) (by omega) (by omega))
        clear h0 hlo hhi hx hy hj hl64
        have wa1 := WA.out.1
        have wa2 := WA.out.2
        have wb1 := WB.out.1
        have wb2 := WB.out.2
        go_upto_region 22 with fail
        refine start_ (n := 11) (S := fun w' => w'.cell? (ad.add j) = some (.int .i64 (y : Int)) ∧ w'.cell? (ad.add 0) = some (.int .i64 (x : Int)) ∧ w'.cell? ad = some (.int .i64 (x : Int))) (ds := []) #[false, false, false, false, false, false, false, false, false, false, false] (by kernel_rfl) rfl rfl ⟨(rdsI_val HR5.out j y HY.out), (rdsI_val HR5.out 0 x HX.out), (rdsI_val HR5.out 0 x HX.out)⟩ (fun hHeld => ?_)
        have n_ := Lib.hid (HR5.out.below (below_drew (Below.refl _ _)))
        have n2_ := Lib.hid (below_drew1 HB4.out)
        have n3_ := Lib.hid (HTB.out.below (below_drew (Below.refl w4.heap.size w4)) HTB.out.lt)
        clear HR5 HB4 HTB HP4 HR4
        have HR5 := n_
        have HB4 := n2_
        have HTB := n3_
        clear n_ n2_ n3_
        generalize w4.drew = w12 at HR5 HB4 HTB hHeld ⊢
        refine pure_ (i := 0) (N := some 71) (v := ?_) (a' := ?_) #[true, false, false, false, false, false, false, false, false, false, false] rfl rfl (by kernel_rfl) (fun _ _ _ h => h) (Or.inl ⟨by rfl, ?_⟩) ?_ ?_
        rotate_left
        · intro w'
          go_simp
          with_reducible rfl
        rotate_left
        · simp only [Act.put, List.setIfInBounds_toArray, List.set_cons_zero, List.set_cons_succ, i64_w, i32_w]
          rfl
        refine pure_ (i := 1) (N := some 72) (v := ?_) (a' := ?_) #[true, true, false, false, false, false, false, false, false, false, false] rfl rfl (by kernel_rfl) (fun _ _ _ h => h) (Or.inl ⟨by rfl, ?_⟩) ?_ ?_
        rotate_left
        · intro w'
          go_simp
          with_reducible rfl
        rotate_left
        · simp only [Act.put, List.setIfInBounds_toArray, List.set_cons_zero, List.set_cons_succ, i64_w, i32_w]
          rfl
        refine pure_ (i := 2) (N := some 73) (v := ?_) (a' := ?_) #[true, true, true, false, false, false, false, false, false, false, false] rfl rfl (by kernel_rfl) (fun _ _ _ h => h) (Or.inl ⟨by rfl, ?_⟩) ?_ ?_
        rotate_left
        · intro w'
          go_simp
          with_reducible rfl
        rotate_left
        · simp only [Act.put, List.setIfInBounds_toArray, List.set_cons_zero, List.set_cons_succ, i64_w, i32_w]
          rfl
        refine pure_ (i := 3) (N := some 74) (v := ?_) (a' := ?_) #[true, true, true, true, false, false, false, false, false, false, false] rfl rfl (by kernel_rfl) (fun _ _ _ h => h) (Or.inl ⟨by rfl, ?_⟩) ?_ ?_
        rotate_left
        · intro w'
          go_simp
          with_reducible rfl
        rotate_left
        · simp only [Act.put, List.setIfInBounds_toArray, List.set_cons_zero, List.set_cons_succ, i64_w, i32_w]
          rfl
        refine pure_ (i := 4) (N := some 75) (v := ?_) (a' := ?_) #[true, true, true, true, true, false, false, false, false, false, false] rfl rfl (by kernel_rfl) (fun _ _ _ h => h) (Or.inl ⟨by rfl, ?_⟩) ?_ ?_
        rotate_left
        · intro w'
          go_simp
          with_reducible rfl
        rotate_left
        · simp only [Act.put, List.setIfInBounds_toArray, List.set_cons_zero, List.set_cons_succ, i64_w, i32_w]
          rfl
        refine pure_ (i := 6) (N := some 77) (v := ?_) (a' := ?_) #[true, true, true, true, true, false, true, false, false, false, false] rfl rfl (by kernel_rfl) (fun _ _ _ h => h) (Or.inl ⟨by rfl, ?_⟩) ?_ ?_
        rotate_left
        · intro w'
          go_simp
          with_reducible rfl
        rotate_left
        · simp only [Act.put, List.setIfInBounds_toArray, List.set_cons_zero, List.set_cons_succ, i64_w, i32_w]
          rfl
        refine pure_ (i := 7) (N := some 78) (v := ?_) (a' := ?_) #[true, true, true, true, true, false, true, true, false, false, false] rfl rfl (by kernel_rfl) (fun _ _ _ h => h) (Or.inl ⟨by rfl, ?_⟩) ?_ ?_
        rotate_left
        · intro w'
          go_simp
          with_reducible rfl
        rotate_left
        · simp only [Act.put, List.setIfInBounds_toArray, List.set_cons_zero, List.set_cons_succ, i64_w, i32_w]
          rfl
        refine take_ (i := 5) (N := some 76) (v := ?_) (a' := ?_) #[true, true, true, true, true, true, true, true, false, false, false] rfl rfl (by kernel_rfl) (fun _ _ _ h => h) (Or.inl ⟨by rfl, ?_⟩) hHeld ?_ ?_
        rotate_left
        · rintro w' ⟨s0, s1, s2⟩
          go_simp
          with_reducible rfl
        rotate_left
        · simp only [Act.put, List.setIfInBounds_toArray, List.set_cons_zero, List.set_cons_succ, i64_w, i32_w]
          rfl
        refine take_ (i := 8) (N := some 79) (v := ?_) (a' := ?_) #[true, true, true, true, true, true, true, true, true, false, false] rfl rfl (by kernel_rfl) (fun _ _ _ h => h) (Or.inl ⟨by rfl, ?_⟩) hHeld ?_ ?_
        rotate_left
        · rintro w' ⟨s0, s1, s2⟩
          go_simp
          with_reducible rfl
        rotate_left
        · simp only [Act.put, List.setIfInBounds_toArray, List.set_cons_zero, List.set_cons_succ, i64_w, i32_w]
          rfl
        refine pure_ (i := 9) (N := some 80) (v := ?_) (a' := ?_) #[true, true, true, true, true, true, true, true, true, true, false] rfl rfl (by kernel_rfl) (fun _ _ _ h => h) (Or.inl ⟨by rfl, ?_⟩) ?_ ?_
        rotate_left
        · intro w'
          go_simp
          with_reducible rfl
        rotate_left
        · simp only [Act.put, List.setIfInBounds_toArray, List.set_cons_zero, List.set_cons_succ, i64_w, i32_w]
          rfl
        refine pure_ (i := 10) (N := some 11) (v := ?_) (a' := ?_) #[true, true, true, true, true, true, true, true, true, true, true] rfl rfl (by kernel_rfl) (fun _ _ _ h => h) (Or.inl ⟨by rfl, ?_⟩) ?_ ?_
        rotate_left
        · intro w'
          go_simp
          with_reducible rfl
        rotate_left
        · simp only [Act.put, List.setIfInBounds_toArray, List.set_cons_zero, List.set_cons_succ, i64_w, i32_w]
          rfl
        refine done_ (by kernel_rfl) ?_
        clear hHeld wa1 wa2
        go_wp2_with (first
          | (go_at_call 72; refine (KO2.out _ HTB.out).mono ?_; rintro e w5 ⟨rfl, hb⟩; have HB5 := Lib.hid (below_step HB4.out hb); have HTC := Lib.hid (HTB.out.below hb HTB.out.lt); clear hb)
          | (go_at_call 73; refine (KS.out _ HTC.out).mono ?_; rintro e w6 ⟨rfl, rfl⟩)
          | (go_at_call 65; refine (HW.out _ HB5.out).mono ?_; rintro e w7 ⟨rfl, hb⟩; have HB6 := Lib.hid (below_step HB5.out hb); clear hb))
        go_ret
        exact ⟨rfl, HB6.out⟩
end Go.Proofs.YtmjkgnlmdcmdbaaDoor.Pick
