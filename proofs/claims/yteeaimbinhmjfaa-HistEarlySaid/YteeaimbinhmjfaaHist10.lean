/- HistEarly: for every list of events (the law reads the first 60) and every two requests. -/
import Derived.Test.YteeaimbinhmjfaaHist9
import Derived.Deep.DeepCutAuto
namespace Go.Proofs.Yteeaimbinhmjfaa.Hist
open Go.RowKit Go.Proofs.Yteeaimbinhmjfaa.Flat Go.Proofs.YteeaimbinhmjfaaW.PrintWords Go.Proofs.YteeaimbinhmjfaaW.PrintLast Go.Proofs.YteeaimbinhmjfaaW.PrintMore
set_option linter.unusedVariables false
set_option linter.unusedSimpArgs false
set_option maxRecDepth 100000
theorem Order_nil (W : World) : Calls Try.prog 13 #[.pointer none] W fun e w' => ∃ v', e = .returned v' ∧ E24.R 31 w' W.heap.size (fun _ => True) v' [] ∧ Below W.heap.size W w' :=
  (Order_any (.pointer none) W [] (fun W' _ => Events_nil W') (by decide)).mono fun e w' h => h
theorem nil_slice {w : World} {B : Nat} {v : Value} (h : E24.R 31 w B (fun _ => True) v []) : ∃ A c, v = .slice A 0 c := by
  obtain ⟨A, c, hv⟩ := Kd.R_slice h
  exact ⟨A, c, hv⟩
theorem Find_nil (W : World) (a b : Int) : Calls Try.prog 15 #[.pointer none, .int .i64 a, .int .i64 b] W fun e w' => ∃ e0, e = .returned (.tuple #[.agg e0.toArray, .bool false]) ∧ Flat.Leaves EL e0 ∧ Below W.heap.size W w' :=
  (Find_any (.pointer none) W a b [] (fun W' _ => Events_nil W') (by decide)).mono fun e w' h => ⟨zev, h.1, zev_ok, h.2⟩
theorem Events_nil2 (W : World) : Calls Try.prog 11 #[.pointer none] W fun e w' => ∃ A c, e = .returned (.slice A 0 c) ∧ Below W.heap.size W w' := (Events_nil W).mono fun e w' ⟨v, h1, h2, h3⟩ => by
  obtain ⟨A, c, rfl⟩ := nil_slice h2
  exact ⟨A, c, h1, h3⟩
theorem Order_nil2 (W : World) : Calls Try.prog 13 #[.pointer none] W fun e w' => ∃ A c, e = .returned (.slice A 0 c) ∧ Below W.heap.size W w' := (Order_nil W).mono fun e w' ⟨v, h1, h2, h3⟩ => by
  obtain ⟨A, c, rfl⟩ := nil_slice h2
  exact ⟨A, c, h1, h3⟩
set_option maxHeartbeats 4000000 in
theorem HistEarly_any (A : Option Addr) (len cap : Nat) (z : List (List Value)) (a b : Int) (w : World) (hlc : len ≤ cap) (hcm : cap ≤ maxLen) (hr : FlatRow w A len EL z) (ha : (Lit.int .i64 a).wf = true) (hb : (Lit.int .i64 b).wf = true) :
    Calls Try.prog 5 #[.slice A len cap, .int .i64 a, .int .i64 b] w fun e w' => e = .returned (.bool true) ∧ Below w.heap.size w w' := by
  have hC := ev_of_flat hr (by unfold maxLen at hcm; omega)
  have hzl : z.length = len := hr.1
  subst hzl
  have hm : z.length ≤ 9223372036854775807 := by unfold maxLen at hcm; omega
  clear hr ha hb
  go_enter Try.func5, Try.ntmps5
  go_upto_if 15 with fail
  go_cut [0] (fun v wx => ∃ (A : Option Addr) (xs : List (List Value)) (c : Nat), v = .slice A xs.length c ∧ xs.length ≤ 60 ∧ xs.length ≤ c ∧ Aside0 (E24.C w A xs.length xs) ∧ Aside0 (w = wx))
  case first =>
    by_cases h : 60 < z.length
    · obtain ⟨ad, rfl, -⟩ := ev_at hC 0 (by omega)
      go_wp2
      go_meet
      exact ⟨_, z.take 60, cap, by rw [List.length_take, Nat.min_eq_left (by omega)], by rw [List.length_take]; omega, by rw [List.length_take]; omega, ⟨Kd.C_take hC (by omega)⟩, ⟨rfl⟩⟩
    · go_wp2
      go_meet
      exact ⟨_, z, cap, rfl, by omega, hlc, ⟨hC⟩, ⟨rfl⟩⟩
  case rest =>
    obtain ⟨A, xs, c, rfl, h60, hxc, HC, HW⟩ := hcut
    have hww := HW.out
    subst hww
    obtain ⟨n, hn⟩ : ∃ n, xs.length = n := ⟨_, rfl⟩
    have HEA : Hid (∀ W, Below w.heap.size w W → Calls Try.prog 16 #[.slice A n c, .int .i64 a, .int .i64 b] W fun e w' => e = .returned (.bool (early xs a b)) ∧ Below W.heap.size W w') := Lib.hid (fun W hW => by rw [← hn]; exact Early_any A c xs a b W (Kd.C_below HC.out hW) (by omega))
    have HEY : Hid (early xs a b = (decide (0 ≤ tl xs 3 a n) && decide (0 ≤ tl xs 1 b n) && decide (tl xs 3 a n < tl xs 1 b n))) := Lib.hid (by rw [← hn]; rfl)
    rw [hn] at HC h60 hxc ⊢
    clear hC hm hlc hcm HW hn
    go_wp2
    go_loopg [7, 8, 9] (n + 1) (fun kq v7 v8 v9 w' => ∃ i : Nat, v7 = .int .i64 (tl xs 3 a i) ∧ v8 = .int .i64 (tl xs 1 b i) ∧ v9 = .int .i64 i ∧ Aside0 (i + kq = n + 1 ∧ 1 ≤ kq) ∧ Aside0 (w = w'))
    case atStart => exact ⟨0, rfl, rfl, rfl, ⟨by omega, by omega⟩, ⟨rfl⟩⟩
    case round =>
      obtain ⟨i, rfl, rfl, rfl, HI, HW⟩ := hrel
      obtain ⟨k1, rfl⟩ : ∃ k1, gk = k1 + 1 := ⟨gk - 1, by have := HI.out; omega⟩
      have hww := HW.out
      subst hww
      by_cases ci : i < n
      · have d1 : decide ((i : Int) < (n : Int)) = true := decide_eq_true (by omega)
        have d2 : decide (i < n) = true := decide_eq_true ci
        have x0 : (0 ≤ (i : Int) ∧ (i : Int) < (n : Int)) = True := eq_true ⟨by omega, by omega⟩
        have y0 : ((i : Int) < (n : Int)) = True := eq_true (by omega)
        have xt : ((i : Int)).toNat = i := by omega
        obtain ⟨ad, hAd, hL, hc0⟩ := ev_at HC.out i ci
        subst hAd
        have f1 : w.cell? ⟨(ad.add (i * 24)).block, (ad.add (i * 24)).off + 1, none⟩ = some (.int .i64 (knd xs i)) := by
          rw [← add_field _ _ 1 (by omega)]; exact hc0 1 _ (iv_is hL 1 (by omega)).1
        have f2 : w.cell? ⟨(ad.add (i * 24)).block, (ad.add (i * 24)).off + 2, none⟩ = some (.int .i64 (tsk xs i)) := by
          rw [← add_field _ _ 2 (by omega)]; exact hc0 2 _ (iv_is hL 2 (by omega)).1
        have HT3 : Hid (tl xs 3 a (i + 1) = if knd xs i = 3 ∧ tsk xs i = a then (i : Int) else tl xs 3 a i) := Lib.hid rfl
        have HT1 : Hid (tl xs 1 b (i + 1) = if knd xs i = 1 ∧ tsk xs i = b then (i : Int) else tl xs 1 b i) := Lib.hid rfl
        clear hL hc0
        generalize knd xs i = x at f1 HT3 HT1
        generalize tsk xs i = y at f2 HT3 HT1
        by_cases x3 : x = 3
        · subst x3
          by_cases ya : y = a
          · subst ya
            go_wp2
            go_roundg k1
            case measure => have := HI.out; omega
            case rel => exact ⟨i + 1, by rw [HT3.out, if_pos ⟨by trivial, by trivial⟩], by rw [HT1.out, if_neg (fun h => absurd h.1 (by decide))], by go_num, ⟨by have := HI.out; omega, by have := HI.out; omega⟩, ⟨rfl⟩⟩
          · have z1 : (y == a) = false := by simpa using ya
            go_wp2
            go_roundg k1
            case measure => have := HI.out; omega
            case rel => exact ⟨i + 1, by rw [HT3.out, if_neg (fun h => ya h.2)], by rw [HT1.out, if_neg (fun h => absurd h.1 (by decide))], by go_num, ⟨by have := HI.out; omega, by have := HI.out; omega⟩, ⟨rfl⟩⟩
        by_cases x1 : x = 1
        · subst x1
          by_cases yb : y = b
          · subst yb
            go_wp2
            go_roundg k1
            case measure => have := HI.out; omega
            case rel => exact ⟨i + 1, by rw [HT3.out, if_neg (fun h => absurd h.1 (by decide))], by rw [HT1.out, if_pos ⟨by trivial, by trivial⟩], by go_num, ⟨by have := HI.out; omega, by have := HI.out; omega⟩, ⟨rfl⟩⟩
          · have z1 : (y == b) = false := by simpa using yb
            go_wp2
            go_roundg k1
            case measure => have := HI.out; omega
            case rel => exact ⟨i + 1, by rw [HT3.out, if_neg (fun h => absurd h.1 (by decide))], by rw [HT1.out, if_neg (fun h => yb h.2)], by go_num, ⟨by have := HI.out; omega, by have := HI.out; omega⟩, ⟨rfl⟩⟩
        have z3 : (x == 3) = false := by simpa using x3
        have z1 : (x == 1) = false := by simpa using x1
        go_wp2
        go_roundg k1
        case measure => have := HI.out; omega
        case rel => exact ⟨i + 1, by rw [HT3.out, if_neg (fun h => x3 h.1)], by rw [HT1.out, if_neg (fun h => x1 h.1)], by go_num, ⟨by have := HI.out; omega, by have := HI.out; omega⟩, ⟨rfl⟩⟩
      · obtain rfl : i = n := by have := HI.out; omega
        have d1 : decide ((i : Int) < (i : Int)) = false := decide_eq_false (by omega)
        have d2 : decide (i < i) = false := decide_eq_false ci
        have HB := Lib.hid (Below.refl w.heap.size w)
        clear ci HC h60 hxc HI
        generalize tl xs 3 a i = T at HEY ⊢
        generalize tl xs 1 b i = C at HEY ⊢
        obtain ⟨ey, hey⟩ : ∃ q, early xs a b = q := ⟨_, rfl⟩
        rw [hey] at HEA HEY
        clear hey
        obtain ⟨p, hp⟩ : ∃ p, decide (0 ≤ T) = p := ⟨_, rfl⟩
        obtain ⟨q, hq⟩ : ∃ q, decide (0 ≤ C) = q := ⟨_, rfl⟩
        obtain ⟨r, hr⟩ : ∃ r, decide (T < C) = r := ⟨_, rfl⟩
        rw [hp, hq, hr] at HEY
        cases p with
        | false =>
          obtain rfl : ey = false := by have h := HEY.out; exact h
          clear HEY
          go_wp2_with (first
            | (go_at_call 8; refine (Tick_nil _).mono ?_; rintro e w2 ⟨rfl, rfl⟩)
            | (go_at_call 9; refine (Note_nil _ _).mono ?_; rintro e w2 ⟨rfl, rfl⟩)
            | (go_at_call 15; refine (Find_nil _ a b).mono ?_; rintro e w2 ⟨e0, rfl, hle, hb⟩; have HLV := Lib.hid hle; clear hle; have n_ := Lib.hid (below_step HB.out hb); clear HB hb; have HB := n_; clear n_)
            | ((with_reducible refine gate_ (.alloc 31) rfl ?_); refine ev_alloc rfl (N := 11) rfl rfl ?_; intro ge W1 hg hb1 hbb; have BK := Lib.hid hb1; have HB2 := Lib.hid (below_step HB.out hbb); have HG : Hid (w.heap.size ≤ ge) := Lib.hid (by rw [hg]; exact HB.out.size); clear hg hb1 hbb HB)
            | ((with_reducible refine gate_ (.store 31 (.tmp 11) (.tmp 66)) rfl ?_); refine ev_store rfl rfl _ _ rfl e0 HLV.out BK.out rfl rfl rfl ?_; intro W2 hb2 hbb; have HB := Lib.hid (HB2.out.grown hbb HB2.out.size (fun j hj => by cases hj; exact HG.out)); clear hb2 hbb HB2 BK HG HLV)
            | (go_at_call 16; refine (HEA.out _ HB.out).mono ?_; rintro e w3 ⟨rfl, hb⟩; have n_ := Lib.hid (below_step HB.out hb); clear HB hb; have HB := n_; clear n_)
            | (go_at_call 14; refine (Step_nil _).mono ?_; rintro e w2 ⟨rfl, rfl⟩)
            | (go_at_call 11; refine (Events_nil2 _).mono ?_; rintro e w4 ⟨A2, c2, rfl, hb⟩; have n_ := Lib.hid (below_step HB.out hb); clear HB hb; have HB := n_; clear n_)
            | (go_at_call 13; refine (Order_nil2 _).mono ?_; rintro e w5 ⟨A3, c3, rfl, hb⟩; have n_ := Lib.hid (below_step HB.out hb); clear HB hb; have HB := n_; clear n_)
            | (go_at_call 7; refine (awake19_any _).mono ?_; rintro e w6 ⟨rfl, hb⟩; have n_ := Lib.hid (below_step HB.out hb); clear HB hb; have HB := n_; clear n_))
          go_ret
          exact ⟨rfl, HB.out⟩
        | true =>
          cases q with
          | false =>
            obtain rfl : ey = false := by have h := HEY.out; exact h
            clear HEY
            go_wp2_with (first
              | (go_at_call 8; refine (Tick_nil _).mono ?_; rintro e w2 ⟨rfl, rfl⟩)
              | (go_at_call 9; refine (Note_nil _ _).mono ?_; rintro e w2 ⟨rfl, rfl⟩)
              | (go_at_call 15; refine (Find_nil _ a b).mono ?_; rintro e w2 ⟨e0, rfl, hle, hb⟩; have HLV := Lib.hid hle; clear hle; have n_ := Lib.hid (below_step HB.out hb); clear HB hb; have HB := n_; clear n_)
              | ((with_reducible refine gate_ (.alloc 31) rfl ?_); refine ev_alloc rfl (N := 11) rfl rfl ?_; intro ge W1 hg hb1 hbb; have BK := Lib.hid hb1; have HB2 := Lib.hid (below_step HB.out hbb); have HG : Hid (w.heap.size ≤ ge) := Lib.hid (by rw [hg]; exact HB.out.size); clear hg hb1 hbb HB)
              | ((with_reducible refine gate_ (.store 31 (.tmp 11) (.tmp 66)) rfl ?_); refine ev_store rfl rfl _ _ rfl e0 HLV.out BK.out rfl rfl rfl ?_; intro W2 hb2 hbb; have HB := Lib.hid (HB2.out.grown hbb HB2.out.size (fun j hj => by cases hj; exact HG.out)); clear hb2 hbb HB2 BK HG HLV)
              | (go_at_call 16; refine (HEA.out _ HB.out).mono ?_; rintro e w3 ⟨rfl, hb⟩; have n_ := Lib.hid (below_step HB.out hb); clear HB hb; have HB := n_; clear n_)
              | (go_at_call 14; refine (Step_nil _).mono ?_; rintro e w2 ⟨rfl, rfl⟩)
              | (go_at_call 11; refine (Events_nil2 _).mono ?_; rintro e w4 ⟨A2, c2, rfl, hb⟩; have n_ := Lib.hid (below_step HB.out hb); clear HB hb; have HB := n_; clear n_)
              | (go_at_call 13; refine (Order_nil2 _).mono ?_; rintro e w5 ⟨A3, c3, rfl, hb⟩; have n_ := Lib.hid (below_step HB.out hb); clear HB hb; have HB := n_; clear n_)
              | (go_at_call 7; refine (awake19_any _).mono ?_; rintro e w6 ⟨rfl, hb⟩; have n_ := Lib.hid (below_step HB.out hb); clear HB hb; have HB := n_; clear n_))
            go_ret
            exact ⟨rfl, HB.out⟩
          | true =>
            cases r with
            | false =>
              obtain rfl : ey = false := by have h := HEY.out; exact h
              clear HEY
              go_wp2_with (first
                | (go_at_call 8; refine (Tick_nil _).mono ?_; rintro e w2 ⟨rfl, rfl⟩)
                | (go_at_call 9; refine (Note_nil _ _).mono ?_; rintro e w2 ⟨rfl, rfl⟩)
                | (go_at_call 15; refine (Find_nil _ a b).mono ?_; rintro e w2 ⟨e0, rfl, hle, hb⟩; have HLV := Lib.hid hle; clear hle; have n_ := Lib.hid (below_step HB.out hb); clear HB hb; have HB := n_; clear n_)
                | ((with_reducible refine gate_ (.alloc 31) rfl ?_); refine ev_alloc rfl (N := 11) rfl rfl ?_; intro ge W1 hg hb1 hbb; have BK := Lib.hid hb1; have HB2 := Lib.hid (below_step HB.out hbb); have HG : Hid (w.heap.size ≤ ge) := Lib.hid (by rw [hg]; exact HB.out.size); clear hg hb1 hbb HB)
                | ((with_reducible refine gate_ (.store 31 (.tmp 11) (.tmp 66)) rfl ?_); refine ev_store rfl rfl _ _ rfl e0 HLV.out BK.out rfl rfl rfl ?_; intro W2 hb2 hbb; have HB := Lib.hid (HB2.out.grown hbb HB2.out.size (fun j hj => by cases hj; exact HG.out)); clear hb2 hbb HB2 BK HG HLV)
                | (go_at_call 16; refine (HEA.out _ HB.out).mono ?_; rintro e w3 ⟨rfl, hb⟩; have n_ := Lib.hid (below_step HB.out hb); clear HB hb; have HB := n_; clear n_)
                | (go_at_call 14; refine (Step_nil _).mono ?_; rintro e w2 ⟨rfl, rfl⟩)
                | (go_at_call 11; refine (Events_nil2 _).mono ?_; rintro e w4 ⟨A2, c2, rfl, hb⟩; have n_ := Lib.hid (below_step HB.out hb); clear HB hb; have HB := n_; clear n_)
                | (go_at_call 13; refine (Order_nil2 _).mono ?_; rintro e w5 ⟨A3, c3, rfl, hb⟩; have n_ := Lib.hid (below_step HB.out hb); clear HB hb; have HB := n_; clear n_)
                | (go_at_call 7; refine (awake19_any _).mono ?_; rintro e w6 ⟨rfl, hb⟩; have n_ := Lib.hid (below_step HB.out hb); clear HB hb; have HB := n_; clear n_))
              go_ret
              exact ⟨rfl, HB.out⟩
            | true =>
              obtain rfl : ey = true := by have h := HEY.out; exact h
              clear HEY
              go_wp2_with (first
                | (go_at_call 8; refine (Tick_nil _).mono ?_; rintro e w2 ⟨rfl, rfl⟩)
                | (go_at_call 9; refine (Note_nil _ _).mono ?_; rintro e w2 ⟨rfl, rfl⟩)
                | (go_at_call 15; refine (Find_nil _ a b).mono ?_; rintro e w2 ⟨e0, rfl, hle, hb⟩; have HLV := Lib.hid hle; clear hle; have n_ := Lib.hid (below_step HB.out hb); clear HB hb; have HB := n_; clear n_)
                | ((with_reducible refine gate_ (.alloc 31) rfl ?_); refine ev_alloc rfl (N := 11) rfl rfl ?_; intro ge W1 hg hb1 hbb; have BK := Lib.hid hb1; have HB2 := Lib.hid (below_step HB.out hbb); have HG : Hid (w.heap.size ≤ ge) := Lib.hid (by rw [hg]; exact HB.out.size); clear hg hb1 hbb HB)
                | ((with_reducible refine gate_ (.store 31 (.tmp 11) (.tmp 66)) rfl ?_); refine ev_store rfl rfl _ _ rfl e0 HLV.out BK.out rfl rfl rfl ?_; intro W2 hb2 hbb; have HB := Lib.hid (HB2.out.grown hbb HB2.out.size (fun j hj => by cases hj; exact HG.out)); clear hb2 hbb HB2 BK HG HLV)
                | (go_at_call 16; refine (HEA.out _ HB.out).mono ?_; rintro e w3 ⟨rfl, hb⟩; have n_ := Lib.hid (below_step HB.out hb); clear HB hb; have HB := n_; clear n_)
                | (go_at_call 14; refine (Step_nil _).mono ?_; rintro e w2 ⟨rfl, rfl⟩)
                | (go_at_call 11; refine (Events_nil2 _).mono ?_; rintro e w4 ⟨A2, c2, rfl, hb⟩; have n_ := Lib.hid (below_step HB.out hb); clear HB hb; have HB := n_; clear n_)
                | (go_at_call 13; refine (Order_nil2 _).mono ?_; rintro e w5 ⟨A3, c3, rfl, hb⟩; have n_ := Lib.hid (below_step HB.out hb); clear HB hb; have HB := n_; clear n_)
                | (go_at_call 7; refine (awake19_any _).mono ?_; rintro e w6 ⟨rfl, hb⟩; have n_ := Lib.hid (below_step HB.out hb); clear HB hb; have HB := n_; clear n_))
              go_ret
              exact ⟨rfl, HB.out⟩
end Go.Proofs.Yteeaimbinhmjfaa.Hist
