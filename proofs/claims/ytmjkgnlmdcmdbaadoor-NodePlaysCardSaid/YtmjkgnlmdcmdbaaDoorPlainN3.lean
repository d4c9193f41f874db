/- Law 6's plain table: nodes taken. -/
import Derived.Test.YtmjkgnlmdcmdbaaDoorPlainN2
namespace Go.Proofs.YtmjkgnlmdcmdbaaDoor.Node
open Go.RowKit Go.Proofs.YtmjkgnlmdcmdbaaDoorW.PrintWords Go.Proofs.YtmjkgnlmdcmdbaaDoorW.PrintLast Go.Proofs.YtmjkgnlmdcmdbaaDoorW.PrintMore Go.Proofs.YtmjkgnlmdcmdbaaDoor.Row Go.Proofs.YtmjkgnlmdcmdbaaDoor.Sets
set_option linter.unusedVariables false
set_option linter.unusedSimpArgs false
set_option maxRecDepth 100000
theorem nums_mem (l : List Nat) (j : Nat) : ((j : Int) ∈ Sets.nums l) ↔ j ∈ l := by
  unfold Sets.nums
  rw [List.mem_map]
  constructor
  · rintro ⟨a, ha, he⟩
    have : a = j := Int.ofNat.inj he
    rwa [← this]
  · intro h
    exact ⟨j, h, rfl⟩
theorem ofS_nums (l : List Nat) (h : ∀ i ∈ l, i < 64) : ofS (Sets.nums l) = mk l :=
  eq_of_bits _ _ (ofS_lt _) (mk_lt l h) fun i hi => by
    rw [ofS_bit _ i hi, mk_bit]
    congr 1
    rw [eq_iff_iff]
    exact nums_mem l i
theorem filter_pre (p : Nat → Bool) (k : Nat) (hk : k ≤ 64) : (List.range k).filter p = ((List.range 64).filter p).take (rank p k) := by
  have e : List.range 64 = List.range k ++ (List.range (64 - k)).map (k + ·) := by
    rw [← List.range_add]
    congr 1
    omega
  rw [e, List.filter_append, List.take_left']
  rfl
theorem nodes_get_lt (s i : Nat) (hi : i < (nodes s).length) : (nodes s)[i] < 64 ∧ s.testBit (nodes s)[i] = true := (mem_nodes s _).1 (List.getElem_mem hi)
theorem take06_any (N bp g cap : Nat) (l : List Int) (u d : Nat) (n : Int) (w : World) (h : PL w bp g cap l) (hp : PI N u d l) (hN : N ≤ 64) (hu : u < 18446744073709551616) (hd : d < 18446744073709551616) :
    Calls Tryd.prog 90 #[.pointer (some ⟨bp, 0, none⟩), .int .i64 n] w (After N (u ||| takeT (allS N) u d n) d bp g cap (.tuple #[.int .u64 (takeT (allS N) u d n : Nat), .int .i64 (takeE (allS N) u d n)]) w) := by
  have H := Lib.hid h
  have HP := Lib.hid hp
  have hlen := hp.len
  by_cases hn : n < 1
  · have b1 : decide (n < 1) = true := decide_eq_true hn
    have e1 : takeT (allS N) u d n = 0 := by unfold takeT; rw [if_pos hn]
    have e2 : takeE (allS N) u d n = 1 := by unfold takeE; rw [if_pos hn]
    rw [e1, e2, Nat.or_zero]
    clear e1 e2 h hp hlen
    go_enter Tryd.func90, Tryd.ntmps90
    go_wp2
    go_ret2
    exact ⟨rfl, l, H.out, HP.out, Upd.refl _ _⟩
  · have b1 : decide (n < 1) = false := decide_eq_false hn
    have hib := fun j hj => idle_st N u d l hp hN hu hd j hj
    have e1 : takeT (allS N) u d n = firstS (idleS (allS N) u d) n := by unfold takeT; rw [if_neg hn]
    have e2 : takeE (allS N) u d n = if (lenS (idleS (allS N) u d) : Int) < n then 6 else 0 := by unfold takeE; rw [if_neg hn]
    have hIl := idleS_lt (allS N) u d (allS_lt _)
    obtain ⟨t, htd⟩ : ∃ t, takeT (allS N) u d n = t := ⟨_, rfl⟩
    obtain ⟨E, hE⟩ : ∃ E, takeE (allS N) u d n = E := ⟨_, rfl⟩
    rw [htd, hE]
    rw [htd] at e1
    rw [hE] at e2
    clear htd hE
    generalize idleS (allS N) u d = I at hib hIl e1 e2
    have HIB := Lib.hid hib
    have HTT := Lib.hid e1
    have HEE := Lib.hid e2
    have HB0 := Lib.hid (Below.refl w.heap.size w)
    have hl64 := lenS_le I
    clear e1 e2 hib hp
    go_enter Tryd.func90, Tryd.ntmps90
    go_upto_block 0 with fail
    go_cut [6] (fun v6 wx => Aside0 (Kd.R (Kd.int .i64) 3 wx w.heap.size (fun _ => True) v6 (Sets.nums ((nodes I).take n.toNat))) ∧ Aside0 (Below w.heap.size w wx))
    case first =>
      go_wp2
      go_loopg [6, 7] (N + 1) (fun kq v6 v7 w' => ∃ (k : Nat), v7 = .int .i64 k ∧ Aside0 (k + kq = N + 1 ∧ 1 ≤ kq ∧ (rank (fun j => I.testBit j) k : Int) ≤ n) ∧ Aside0 (Kd.R (Kd.int .i64) 3 w' w.heap.size (fun _ => True) v6 (Sets.nums ((List.range k).filter fun j => I.testBit j))) ∧ Aside0 (Below w.heap.size w w'))
      case atStart => exact ⟨0, rfl, ⟨by omega, by omega, by simp [rank]; omega⟩, ⟨Kd.R_nil _ _ _ _ _⟩, ⟨HB0.out⟩⟩
      case round =>
        clear HB0
        obtain ⟨k, rfl, HI, HO, HB⟩ := hrel
        obtain ⟨k1, rfl⟩ : ∃ k1, gk = k1 + 1 := ⟨gk - 1, by have := HI.out; omega⟩
        obtain ⟨A, c, hv⟩ := Kd.R_slice HO.out
        have hm : (Sets.nums ((List.range k).filter fun j => I.testBit j)).length = rank (fun j => I.testBit j) k := by simp [Sets.nums, rank]
        rw [hm] at hv
        have hrk := rank_succ (fun j => I.testBit j) k
        have hrl : rank (fun j => I.testBit j) k ≤ 64 := by
          have := rank_mono (fun j => I.testBit j) k 64 (by have := HI.out; omega)
          have e : rank (fun j => I.testBit j) 64 = lenS I := rfl
          omega
        obtain ⟨m, hmd⟩ : ∃ m, rank (fun j => I.testBit j) k = m := ⟨_, rfl⟩
        rw [hmd] at hv hrk hrl
        have HMD := Lib.hid hmd
        subst hv
        have HL := Lib.hid (H.out.below HB.out)
        have cc := HL.out.c
        rw [hlen] at cc
        clear hm hmd
        by_cases c1 : k < N
        · have b2 : decide (k < N) = true := decide_eq_true c1
          by_cases c2 : (m : Int) < n
          · have b3 : decide ((m : Int) < n) = true := decide_eq_true c2
            have qa := HL.out.at_ k (by rw [hlen]; exact c1)
            have hbit := HIB.out k (by omega)
            obtain ⟨v, hv⟩ : ∃ v, l.getD k 0 = v := ⟨_, rfl⟩
            rw [hv] at qa hbit
            have LM : Hid ((Sets.nums ((List.range k).filter fun j => I.testBit j)).length ≤ 64) := Lib.hid (by
              have e : (Sets.nums ((List.range k).filter fun j => I.testBit j)).length = rank (fun j => I.testBit j) k := by simp [Sets.nums, rank]
              rw [e, HMD.out]; exact hrl)
            clear hv
            by_cases e1 : v = 1
            · have b4 : (v == 1) = true := by simpa using e1
              have hI1 : I.testBit k = true := by rw [hbit, decide_eq_true c1, decide_eq_true e1]; rfl
              have HN : Hid (Sets.nums ((List.range (k + 1)).filter fun j => I.testBit j) = Sets.nums ((List.range k).filter fun j => I.testBit j) ++ [(k : Int)]) := Lib.hid (by
                rw [List.range_succ, List.filter_append]
                simp [Sets.nums, hI1])
              have HRK : Hid ((rank (fun j => I.testBit j) (k + 1) : Int) ≤ n) := Lib.hid (by rw [hrk, hI1]; simp; omega)
              clear e1 hbit hI1 hrk
              go_wp2_with ((with_reducible refine gate_builtin (b := .append) (xs := #[.tmp 34, .tmp 36]) rfl ?_); at_builtin; refine Kd.R_append (Kd.int .i64) (w0 := w) w.heap.size rfl (.tmp 34) (.tmp 36) 30 3 (.int .i64 0) 8 rfl Tryd.underlying30 info_int rfl (by decide) (by omega) _ (Sets.nums ((List.range k).filter fun j => I.testBit j)) (k : Int) [.int .i64 (k : Int)] (fun _ => True) (fun _ => False) rfl rfl ?aP (fun _ hk => hk.elim) ?aF ?aO ?aB ?aS ?aL ?_; (case aP => exact rfl); (case aB => exact HB.out); (case aF => exact (fun _ _ => trivial)); (case aO => exact HO.out); (case aS => exact below_size HB.out); (case aL => have := LM.out; omega); intro v113 w5 ho hb hg hat; have HB1 := Lib.hid hb; have HO1 := Lib.hid ho; clear hb ho hg hat)
              go_roundg k1
              case measure => have := HI.out; omega
              case rel => exact ⟨k + 1, by go_num, ⟨by have := HI.out; omega, by have := HI.out; omega, HRK.out⟩, ⟨by rw [HN.out]; exact HO1.out⟩, ⟨HB1.out⟩⟩
            · have b4 : (v == 1) = false := by simpa using e1
              have hI1 : I.testBit k = false := by rw [hbit, decide_eq_false e1, Bool.and_false]
              have HN : Hid (Sets.nums ((List.range (k + 1)).filter fun j => I.testBit j) = Sets.nums ((List.range k).filter fun j => I.testBit j)) := Lib.hid (by
                rw [List.range_succ, List.filter_append]
                simp [Sets.nums, hI1])
              have HRK : Hid ((rank (fun j => I.testBit j) (k + 1) : Int) ≤ n) := Lib.hid (by rw [hrk, hI1]; simp; omega)
              clear e1 hbit hI1 hrk
              go_wp2
              go_roundg k1
              case measure => have := HI.out; omega
              case rel => exact ⟨k + 1, by go_num, ⟨by have := HI.out; omega, by have := HI.out; omega, HRK.out⟩, ⟨by rw [HN.out]; exact HO.out⟩, ⟨HB.out⟩⟩
          · have b3 : decide ((m : Int) < n) = false := decide_eq_false c2
            have hmn : n.toNat = rank (fun j => I.testBit j) k := by have := HI.out.2.2; rw [HMD.out] at this ⊢; omega
            have HE : Hid (Sets.nums ((nodes I).take n.toNat) = Sets.nums ((List.range k).filter fun j => I.testBit j)) := Lib.hid (by rw [hmn, filter_pre _ k (by omega)]; rfl)
            clear hmn hrk
            go_wp2
            go_meet
            exact ⟨⟨by rw [HE.out]; exact HO.out⟩, ⟨HB.out⟩⟩
        · have b2 : decide (k < N) = false := decide_eq_false c1
          obtain rfl : k = N := by have := HI.out; omega
          have h64 : rank (fun j => I.testBit j) 64 = rank (fun j => I.testBit j) k := rank_out (fun j => I.testBit j) k 64 hN (fun j h1 h2 => by rw [HIB.out j h2, decide_eq_false (by omega)]; rfl)
          have HE : Hid (Sets.nums ((nodes I).take n.toNat) = Sets.nums ((List.range k).filter fun j => I.testBit j)) := Lib.hid (by
            rw [filter_pre _ k hN]
            congr 1
            have e : (nodes I).length = rank (fun j => I.testBit j) k := h64
            show (nodes I).take n.toNat = (nodes I).take (rank (fun j => I.testBit j) k)
            rw [List.take_of_length_le (by have := HI.out.2.2; omega), List.take_of_length_le (by omega)])
          clear h64 hrk
          go_wp2
          go_meet
          exact ⟨⟨by rw [HE.out]; exact HO.out⟩, ⟨HB.out⟩⟩
    case rest =>
      obtain ⟨HO, HB⟩ := hcut
      obtain ⟨wd, rfl⟩ : ∃ wd : World, wd = wc := ⟨_, rfl⟩
      clear HB0
      have hlt : (Sets.nums ((nodes I).take n.toNat)).length = min n.toNat (lenS I) := by simp [Sets.nums, lenS]
      by_cases hm : (lenS I : Int) < n
      · have e3 : t = 0 := by rw [HTT.out]; unfold firstS; rw [if_pos (.inr hm)]
        have e4 : E = 6 := by rw [HEE.out, if_pos hm]
        subst e3 e4
        obtain ⟨A, c, hv⟩ := Kd.R_slice HO.out
        rw [hlt, show min n.toNat (lenS I) = lenS I by omega] at hv
        subst hv
        have b2 : decide ((lenS I : Int) < n) = true := decide_eq_true hm
        have HL := Lib.hid (H.out.below HB.out)
        clear hm hlt HO HTT HEE
        go_wp2
        go_ret2
        exact ⟨rfl, l, HL.out, HP.out, Upd.of_below HB.out (Nat.le_of_lt H.out.r.lt)⟩
      · have e4 : E = 0 := by rw [HEE.out, if_neg hm]
        subst e4
        obtain ⟨T, hTd⟩ : ∃ T, n.toNat = T := ⟨_, rfl⟩
        have hnT : n = (T : Int) := by omega
        have hT1 : 1 ≤ T := by omega
        have hTl : T ≤ (nodes I).length := by unfold lenS at hm; omega
        have hT64 : T ≤ 64 := by unfold lenS at hl64; omega
        have hO := HO.out
        rw [hTd] at hO hlt
        rw [show min T (lenS I) = T by unfold lenS; omega] at hlt
        obtain ⟨g2, c2, hv, hnc, hg2, hn2, hrow⟩ := GRow.of_own (enc := Value.int .i64) (xs := Sets.nums ((nodes I).take T)) (Kd.own_of_R hO) (by rw [hlt]; omega)
        have e3 : t = mk ((nodes I).take T) := by rw [HTT.out]; unfold firstS; rw [if_neg (by omega), hTd]
        rw [hlt] at hn2 hv
        subst hv
        have HR2 := Lib.hid hrow
        have HG2 : Hid (g ≠ g2 ∧ bp ≠ g2) := Lib.hid ⟨by have := H.out.r.lt; omega, by have := H.out.lt; omega⟩
        have HL := Lib.hid (H.out.below HB.out)
        have HU := Lib.hid (Upd.of_below HB.out (Nat.le_of_lt H.out.r.lt))
        have hTk : ∀ i ∈ (nodes I).take T, i < 64 := take_lt I T
        have eO := ofS_nums _ hTk
        have htb : ∀ j, t.testBit j = decide (j ∈ (nodes I).take T) := fun j => by rw [e3]; exact mk_bit _ j
        rw [← e3] at eO
        have HTB := Lib.hid htb
        have HEO := Lib.hid eO
        have HHL := Lib.hid hlt
        subst hnT
        clear hO hrow hg2 hn2 hnc HO e3 htb eO hlt hm hTd hTk HB HTT HEE
        go_wp2
        go_loopg [8] (T + 1) (fun kq v8 w' => ∃ (i : Nat) (l' : List Int), v8 = .int .i64 i ∧ Aside0 (i + kq = T + 1 ∧ 1 ≤ kq) ∧ Aside0 (PL w' bp g cap l') ∧ Aside0 (GRow (Value.int .i64) 3 w' g2 (Sets.nums ((nodes I).take T))) ∧ Aside0 (l'.length = l.length ∧ ∀ j, j < l.length → l'.getD j 0 = if j ∈ (nodes I).take i then 2 else l.getD j 0) ∧ Aside0 (Upd g w w'))
        case atStart => exact ⟨0, l, rfl, ⟨by omega, by omega⟩, ⟨HL.out⟩, ⟨HR2.out⟩, ⟨rfl, fun j hj => by simp⟩, ⟨HU.out⟩⟩
        case round =>
          clear HL HR2 HU
          obtain ⟨i, l', rfl, HI, HL, HR2, HG, HU⟩ := hrel
          obtain ⟨k1, rfl⟩ : ∃ k1, gk = k1 + 1 := ⟨gk - 1, by have := HI.out; omega⟩
          by_cases c1 : i < T
          · have b2 : decide (i < T) = true := decide_eq_true c1
            have hil : i < (nodes I).length := by omega
            obtain ⟨hx64, hxb⟩ := nodes_get_lt I i hil
            obtain ⟨x, hx⟩ : ∃ x, (nodes I)[i] = x := ⟨_, rfl⟩
            rw [hx] at hx64 hxb
            have hxN : x < N := by
              rw [HIB.out x hx64, Bool.and_eq_true, decide_eq_true_eq] at hxb
              exact hxb.1
            have q2 := HR2.out.cell i (by rw [HHL.out]; exact c1)
            have hget : (Sets.nums ((nodes I).take T))[i]'(by rw [HHL.out]; exact c1) = (x : Int) := by simp [Sets.nums, hx]
            rw [hget] at q2
            have stp : (nodes I).take (i + 1) = (nodes I).take i ++ [x] := by rw [List.take_succ_eq_append_getElem hil, hx]
            have HST := Lib.hid stp
            have x0 : (0 ≤ (x : Int) ∧ (x : Int) < (N : Int)) = True := eq_true ⟨by omega, by omega⟩
            have x1 : (0 ≤ (i : Int) ∧ (i : Int) < (T : Int)) = True := eq_true ⟨by omega, by omega⟩
            have xt : ((x : Int)).toNat = x := by omega
            have it : ((i : Int)).toNat = i := by omega
            have qx := HL.out.drew.at_ x (by rw [HG.out.1, hlen]; exact hxN)
            have fx := HL.out.drew.r.soft x
            have cc := HL.out.drew.c
            rw [HG.out.1, hlen] at cc
            clear hget hx hxb stp
            go_upto_region 14 with fail
            refine start_ (n := 10) (S := fun w' => w'.cell? ⟨bp, 0, none⟩ = some (.slice (some ⟨g, 0, none⟩) N cap) ∧ w'.cell? ⟨g2, i, none⟩ = some (.int .i64 (x : Int))) (ds := [9]) #[false, false, false, false, false, false, false, false, false, false] (by kernel_rfl) rfl rfl ⟨cc, q2⟩ (fun hHeld => ?_)
            refine pure_ (i := 0) (N := some 48) (v := ?_) (a' := ?_) #[true, false, false, false, false, false, false, false, false, false] rfl rfl (by kernel_rfl) (fun _ _ _ h => h) (Or.inl ⟨by rfl, ?_⟩) ?_ ?_
            rotate_left
            · intro w'
              go_simp
              with_reducible rfl
            rotate_left
            · simp only [Act.put, List.setIfInBounds_toArray, List.set_cons_zero, List.set_cons_succ, i64_w, i32_w]
              rfl
            refine pure_ (i := 1) (N := some 49) (v := ?_) (a' := ?_) #[true, true, false, false, false, false, false, false, false, false] rfl rfl (by kernel_rfl) (fun _ _ _ h => h) (Or.inl ⟨by rfl, ?_⟩) ?_ ?_
            rotate_left
            · intro w'
              go_simp
              with_reducible rfl
            rotate_left
            · simp only [Act.put, List.setIfInBounds_toArray, List.set_cons_zero, List.set_cons_succ, i64_w, i32_w]
              rfl
            refine pure_ (i := 2) (N := some 50) (v := ?_) (a' := ?_) #[true, true, true, false, false, false, false, false, false, false] rfl rfl (by kernel_rfl) (fun _ _ _ h => h) (Or.inl ⟨by rfl, ?_⟩) ?_ ?_
            rotate_left
            · intro w'
              go_simp
              with_reducible rfl
            rotate_left
            · simp only [Act.put, List.setIfInBounds_toArray, List.set_cons_zero, List.set_cons_succ, i64_w, i32_w]
              rfl
            refine pure_ (i := 4) (N := some 52) (v := ?_) (a' := ?_) #[true, true, true, false, true, false, false, false, false, false] rfl rfl (by kernel_rfl) (fun _ _ _ h => h) (Or.inl ⟨by rfl, ?_⟩) ?_ ?_
            rotate_left
            · intro w'
              go_simp
              with_reducible rfl
            rotate_left
            · simp only [Act.put, List.setIfInBounds_toArray, List.set_cons_zero, List.set_cons_succ, i64_w, i32_w]
              rfl
            refine pure_ (i := 5) (N := some 53) (v := ?_) (a' := ?_) #[true, true, true, false, true, true, false, false, false, false] rfl rfl (by kernel_rfl) (fun _ _ _ h => h) (Or.inl ⟨by rfl, ?_⟩) ?_ ?_
            rotate_left
            · intro w'
              go_simp
              with_reducible rfl
            rotate_left
            · simp only [Act.put, List.setIfInBounds_toArray, List.set_cons_zero, List.set_cons_succ, i64_w, i32_w]
              rfl
            refine pure_ (i := 6) (N := some 54) (v := ?_) (a' := ?_) #[true, true, true, false, true, true, true, false, false, false] rfl rfl (by kernel_rfl) (fun _ _ _ h => h) (Or.inl ⟨by rfl, ?_⟩) ?_ ?_
            rotate_left
            · intro w'
              go_simp
              with_reducible rfl
            rotate_left
            · simp only [Act.put, List.setIfInBounds_toArray, List.set_cons_zero, List.set_cons_succ, i64_w, i32_w]
              rfl
            refine take_ (i := 3) (N := some 51) (v := ?_) (a' := ?_) #[true, true, true, true, true, true, true, false, false, false] rfl rfl (by kernel_rfl) (fun _ _ _ h => h) (Or.inl ⟨by rfl, ?_⟩) hHeld ?_ ?_
            rotate_left
            · rintro w' ⟨s0, s1⟩
              go_simp
              with_reducible rfl
            rotate_left
            · simp only [Act.put, List.setIfInBounds_toArray, List.set_cons_zero, List.set_cons_succ, i64_w, i32_w]
              rfl
            refine take_ (i := 7) (N := some 55) (v := ?_) (a' := ?_) #[true, true, true, true, true, true, true, true, false, false] rfl rfl (by kernel_rfl) (fun _ _ _ h => h) (Or.inl ⟨by rfl, ?_⟩) hHeld ?_ ?_
            rotate_left
            · rintro w' ⟨s0, s1⟩
              go_simp
              with_reducible rfl
            rotate_left
            · simp only [Act.put, List.setIfInBounds_toArray, List.set_cons_zero, List.set_cons_succ, i64_w, i32_w]
              rfl
            refine pure_ (i := 8) (N := some 56) (v := ?_) (a' := ?_) #[true, true, true, true, true, true, true, true, true, false] rfl rfl (by kernel_rfl) (fun _ _ _ h => h) (Or.inl ⟨by rfl, ?_⟩) ?_ ?_
            rotate_left
            · intro w'
              go_simp
              with_reducible rfl
            rotate_left
            · simp only [Act.put, List.setIfInBounds_toArray, List.set_cons_zero, List.set_cons_succ, i64_w, i32_w]
              rfl
            refine last_ (i := 9) (N := none) #[true, true, true, true, true, true, true, true, true, true] rfl rfl (by kernel_rfl) (by decide) (fun K hK => ?_)
            refine skip_ (w1 := ?_) (by rfl) rfl ?_ ?_
            rotate_left
            · go_simp
              rfl
            refine hK.out _ _ ?_
            clear hK K
            refine done_ (by kernel_rfl) ?_
            go_wp2
            go_roundg k1
            case measure => have := HI.out; omega
            case rel =>
              refine ⟨i + 1, l'.set x 2, by go_num, ⟨by have := HI.out; omega, by have := HI.out; omega⟩, ⟨HL.out.drew.put x 2⟩, ⟨HR2.out.drew.far ⟨g, x, none⟩ (fun e => HG2.out.1 e.symm) _⟩, ⟨by rw [List.length_set]; exact HG.out.1, fun j hj => ?_⟩, ⟨(HU.out.drew (by have h1 := HL.out.r.lt; omega)).setCell x _⟩⟩
              rw [HST.out, List.getD_eq_getElem?_getD, List.getElem?_set]
              by_cases hxj : x = j
              · subst hxj
                rw [if_pos rfl, if_pos (by rw [HG.out.1]; exact hj), if_pos (by simp)]
                rfl
              · rw [if_neg hxj, ← List.getD_eq_getElem?_getD, HG.out.2 j hj]
                by_cases hmem : j ∈ (nodes I).take i
                · rw [if_pos hmem, if_pos (List.mem_append_left _ hmem)]
                · rw [if_neg hmem, if_neg (fun h => by
                    rcases List.mem_append.1 h with h | h
                    · exact hmem h
                    · exact hxj (List.mem_singleton.1 h).symm)]
          · have b2 : decide (i < T) = false := decide_eq_false c1
            obtain rfl : i = T := by have := HI.out; omega
            have KO := Lib.hid (of_any (some ⟨g2, 0, none⟩) c2 (Sets.nums ((nodes I).take i)) wr HR2.out.rds (by rw [HHL.out]; omega))
            rw [HEO.out, HHL.out] at KO
            go_wp2_with (go_at_call 24; refine KO.out.mono ?_; rintro e w2 ⟨rfl, rfl⟩)
            go_ret2
            refine ⟨rfl, l', HL.out, ⟨HG.out.1.trans hlen, fun j hj => ?_, fun j h1 h2 => ?_⟩, HU.out⟩
            · rw [HG.out.2 j (by rw [hlen]; exact hj), Nat.testBit_or, HTB.out j]
              by_cases hmem : j ∈ (nodes I).take i
              · rw [if_pos hmem, decide_eq_true hmem]
                have hb := ((mem_nodes I j).1 (List.mem_of_mem_take hmem)).2
                rw [HIB.out j (by omega), Bool.and_eq_true, decide_eq_true_eq, decide_eq_true_eq, HP.out.st j hj] at hb
                have h3 := hb.2
                cases hub : u.testBit j <;> cases hdb : d.testBit j <;> rw [hub, hdb] at h3 <;> simp [st2] at h3 ⊢
              · rw [if_neg hmem, decide_eq_false hmem, HP.out.st j hj]; simp
            · rw [Nat.testBit_or, HTB.out j]
              have h3 := HP.out.out j h1 h2
              have hmem : ¬ j ∈ (nodes I).take i := fun hmem => by
                have hb := ((mem_nodes I j).1 (List.mem_of_mem_take hmem)).2
                rw [HIB.out j h2, decide_eq_false (by omega)] at hb
                cases hb
              rw [h3.1, h3.2, decide_eq_false hmem]
              exact ⟨rfl, rfl⟩
end Go.Proofs.YtmjkgnlmdcmdbaaDoor.Node
