/- LockGoes: the law's walk (under way). -/
import Derived.Test.YtplajmcjkddikaaGoesPlain
import Derived.Test.YtplajmcjkddikaaFlat
import Derived.Test.YtplajmcjkddikaaOpen
import Derived.Test.YtplajmcjkddikaaPlaysLaw
import Derived.Test.YtplajmcjkddikaaGoesRow
namespace Go.Proofs.Ytplajmcjkddikaa.Lock
open Go.RowKit Go.Proofs.YtplajmcjkddikaaW.PrintWords Go.Proofs.YtplajmcjkddikaaW.PrintLast Go.Proofs.YtplajmcjkddikaaW.PrintMore Go.Proofs.Ytplajmcjkddikaa.Rule Go.Proofs.Ytplajmcjkddikaa.Flat Go.Proofs.Ytplajmcjkddikaa.Open
set_option linter.unusedVariables false
set_option linter.unusedSimpArgs false
theorem flatB3 {w : World} {A : Option Addr} {n : Nat} {z : List (List Value)} (h : FlatRow w A n [.bool, .bool, .bool] z) (i : Nat) (hi : i < n) :
    ∃ ad a b c, A = some ad ∧ w.cell? (ad.add (i * 3 + 0)) = some (.bool a) ∧ w.cell? (ad.add (i * 3 + 1)) = some (.bool b) ∧ w.cell? (ad.add (i * 3 + 2)) = some (.bool c) := by
  obtain ⟨h1, h2, h3⟩ := h
  obtain ⟨ad, rfl, h4⟩ := h3 (by omega)
  have hz : z[i]? = some z[i] := List.getElem?_eq_getElem (by omega)
  obtain ⟨c0, d0, e0, l0, m0⟩ := (h2 i _ hz).cons
  obtain ⟨c1, d1, e1, l1, m1⟩ := m0.cons
  obtain ⟨c2, d2, e2, l2, m2⟩ := m1.cons
  obtain rfl := m2.nil
  obtain ⟨a, rfl⟩ := l0
  obtain ⟨b, rfl⟩ := l1
  obtain ⟨c, rfl⟩ := l2
  subst e2 e1
  rw [e0] at hz
  exact ⟨ad, a, b, c, rfl, h4 i _ hz 0 _ rfl, h4 i _ hz 1 _ rfl, h4 i _ hz 2 _ rfl⟩
theorem lane_far {w w' : World} {ad : Addr} {n : Nat} {v : Value} (hv : w.cell? (ad.add n) = some v) (h : Below w.heap.size w w') : w'.cell? (ad.add n) = some v := by
  have hlt := World.block_lt_of_cell? w _ hv
  exact (h.cell hlt).trans hv
/-- what every lane of a row is: its three cells -/
def Lanes (w : World) (A : Option Addr) (n : Nat) : Prop := ∀ i, i < n → ∃ ad a b c, A = some ad ∧ w.cell? (ad.add (i * 3 + 0)) = some (.bool a) ∧ w.cell? (ad.add (i * 3 + 1)) = some (.bool b) ∧ w.cell? (ad.add (i * 3 + 2)) = some (.bool c)
/-- how it stands behind a try: the set's block, the row, who owns what -/
def Took (wa w : World) (nx : List Int) (v t : Int) (k : Nat) (b : Bool) : Prop :=
  ∃ X Y Z T, LS w wa.heap.size X Y Z T ∧ NX w (wa.heap.size + 1) nx ∧ Below wa.heap.size wa w ∧ (0 ≤ T ∧ T ≤ t + 1) ∧
    ((b = false ∧ GInv nx X Y Z) ∨ (b = true ∧ v < 3 ∧ ∀ u, v < u → u ≤ 3 → GInv (nx.set k u) X Y Z))
def Stand (wa w : World) (n : Nat) (t : Int) : Prop :=
  ∃ X Y Z T nx, LS w wa.heap.size X Y Z T ∧ NX w (wa.heap.size + 1) nx ∧ nx.length = n ∧ Below wa.heap.size wa w ∧ GInv nx X Y Z ∧ (0 ≤ T ∧ T ≤ t + 1)
def Goes (nx : List Int) (x y z : Int) (m : Nat) : Prop := 3 ≤ nx.getD m 0 ∨ at3 x y z (nx.getD m 0) = 0
set_option maxRecDepth 100000 in
set_option maxHeartbeats 4000000 in
theorem LockGoes_any (A : Option Addr) (len cap : Nat) (z : List (List Value)) (B : Option Addr) (len1 cap1 : Nat) (z1 : List Int) (w : World) (hc : len ≤ cap) (hm : cap ≤ maxLen) (hr : FlatRow w A len [.bool, .bool, .bool] z) (hr1 : IsRow .i64 w B len1 cap1 z1) (y1 : len1 * 8 ≤ 140737488351232) :
    Calls Try.prog 13 #[.slice A len cap, .slice B len1 cap1] w fun e w' => e = .returned (.bool true) ∧ Below w.heap.size w w' := by
  have HLn : Hid (Lanes w A len) := Lib.hid (flatB3 hr)
  clear hr
  have hlen : len ≤ 9223372036854775807 := by unfold maxLen at hm; omega
  go_enter Try.func13, Try.ntmps13
  go_upto_if 14 with fail
  go_cut [0] (fun v wx => ∃ (n c : Nat), v = .slice A n c ∧ n ≤ 8 ∧ n ≤ len ∧ Aside0 (Lanes w A n) ∧ wx = w)
  case first =>
    by_cases h : 8 < len
    · obtain ⟨ad, a, b, c, rfl, _⟩ := HLn.out 0 (by omega)
      go_wp2
      go_meet
      exact ⟨8, cap, rfl, by omega, by omega, ⟨fun i hi => HLn.out i (by omega)⟩, rfl⟩
    · go_wp2
      go_meet
      exact ⟨len, cap, rfl, by omega, by omega, ⟨HLn.out⟩, rfl⟩
  case rest =>
    obtain ⟨n, c, rfl, h8, hn, HN, rfl⟩ := hcut
    obtain ⟨wa, rfl⟩ : ∃ wa : World, wa = wc := ⟨_, rfl⟩
    clear HLn hc hm hlen
    go_upto_region 4 with fail
    have MK := fun w => run_next w n h8
    go_wp2
    have l1 := (LS.new wa 72).alloc (.cells ((List.replicate n (0 : Int)).map (Value.int .i64)).toArray 3)
    have hx : NX ((wa.alloc (.cells #[.int .i64 0, .int .i64 0, .int .i64 0, .int .i64 0] 72)).alloc (.cells ((List.replicate n (0 : Int)).map (Value.int .i64)).toArray 3)) (wa.heap.size + 1) (List.replicate n 0) := by
      have := blk_new (wa.alloc (.cells #[.int .i64 0, .int .i64 0, .int .i64 0, .int .i64 0] 72)) (.cells ((List.replicate n (0 : Int)).map (Value.int .i64)).toArray 3)
      rwa [World.size_alloc] at this
    have hb := below_alloc (below_alloc (Below.refl wa.heap.size wa) (.cells #[.int .i64 0, .int .i64 0, .int .i64 0, .int .i64 0] 72)) (.cells ((List.replicate n (0 : Int)).map (Value.int .i64)).toArray 3)
    have er : ((List.replicate n (0 : Int)).map (Value.int .i64)).toArray = Array.replicate n (Value.int .i64 0) := by simp
    rw [er] at l1 hx hb
    clear MK er
    generalize (wa.alloc (.cells #[.int .i64 0, .int .i64 0, .int .i64 0, .int .i64 0] 72)).alloc (.cells (Array.replicate n (Value.int .i64 0)) 3) = W at l1 hx hb ⊢
    have L1 := Lib.hid l1
    have HX := Lib.hid hx
    have HB := Lib.hid hb
    clear l1 hx hb
    go_loopg [7] (n + 1) (fun kq v7 w' => ∃ (i : Int) (nx : List Int), v7 = .int .i64 i ∧ Aside0 (0 ≤ i ∧ i + (kq : Int) = n + 1 ∧ 1 ≤ kq ∧ kq ≤ n + 1) ∧ Aside0 (LS w' wa.heap.size 0 0 0 0) ∧ Aside0 (NX w' (wa.heap.size + 1) nx ∧ nx.length = n ∧ ∀ j, j < nx.length → 0 ≤ nx.getD j 0 ∧ nx.getD j 0 ≤ 3) ∧ Aside0 (Below wa.heap.size wa w'))
    case atStart => exact ⟨0, List.replicate n 0, rfl, ⟨by omega⟩, ⟨L1.out⟩, ⟨HX.out, by simp, fun j hj => by rw [List.getD_eq_getElem?_getD, List.getElem?_replicate]; split <;> simp⟩, ⟨HB.out⟩⟩
    case round =>
      clear L1 HX HB
      obtain ⟨i, nx, rfl, HI, L1, HX, HB⟩ := hrel
      by_cases c1 : i < (n : Int)
      · have b1 : decide (i < (n : Int)) = true := decide_eq_true c1
        obtain ⟨ad, a, b, c', rfl, s0, s1, s2⟩ := HN.out i.toNat (by have := HI.out; omega)
        have i0 : (0 ≤ i ∧ i < (n : Int)) = True := eq_true ⟨HI.out.1, c1⟩
        have i1 : 0 ≤ i := HI.out.1
        have s0' := lane_far s0 HB.out
        have s1' := lane_far s1 HB.out
        have s2' := lane_far s2 HB.out
        rw [Nat.add_zero] at s0'
        rw [add_one] at s1'
        rw [add_two] at s2'
        go_wp2_with (go_at_call 61; refine (next_any a b c' 0 _).mono ?_; rintro e w2 ⟨rfl, hb2⟩; have hx2 := HX.out.1.below hb2; have q1 := hx2.cell i.toNat (by have := HX.out.2.1; omega); have q2 := hx2.soft i.toNat)
        obtain ⟨k1, rfl⟩ : ∃ k1, gk = k1 + 1 := ⟨gk - 1, by have := HI.out; omega⟩
        go_roundg k1
        case measure => have := HI.out; omega
        case rel =>
          refine ⟨i + 1, nx.set i.toNat (nextS a b c' 0), rfl, ⟨by have := HI.out; omega⟩, ⟨(L1.out.below hb2 L1.out.lt).off _ _ _ (by omega)⟩, ⟨hx2.set _ _, by rw [List.length_set]; exact HX.out.2.1, fun j hj => ?_⟩, ⟨(below_step HB.out hb2).setCell (by show wa.heap.size ≤ wa.heap.size + 1; omega) _⟩⟩
          rw [List.length_set] at hj
          have h3 := HX.out.2.2 j hj
          have h4 := nextS_ge a b c' 0 (by omega) (by omega)
          rw [List.getD_eq_getElem?_getD, List.getElem?_set]
          rw [List.getD_eq_getElem?_getD] at h3
          split
          · rw [if_pos (by omega)]; exact h4
          · exact h3
      · have b1 : decide (i < (n : Int)) = false := decide_eq_false c1
        clear c1
        go_wp2
        obtain ⟨l1, rfl, hC1, hm1, hw1, hc1⟩ := hr1.list
        have C1 := Lib.hid hC1
        have HW := Lib.hid (fun (x : Int) (hx : x ∈ l1) => bounds_i64 (hw1 x hx))
        clear hr1 hC1 hm1 hw1 hc1 HI
        have g0 := Lib.hid (ginv_new nx HX.out.2.2)
        go_loopg [8] 41 (fun kq v8 w' => ∃ (i x y z t : Int) (nx : List Int), v8 = .int .i64 i ∧ Aside0 (0 ≤ i ∧ i + (kq : Int) = 41 ∧ 1 ≤ kq ∧ kq ≤ 41) ∧ Aside0 (LS w' wa.heap.size x y z t) ∧ Aside0 (0 ≤ t ∧ t ≤ i) ∧ Aside0 (NX w' (wa.heap.size + 1) nx ∧ nx.length = n) ∧ Aside0 (GInv nx x y z) ∧ Aside0 (Below wa.heap.size wa w'))
        case atStart => exact ⟨0, 0, 0, 0, 0, nx, rfl, ⟨by omega⟩, ⟨L1.out⟩, ⟨by omega⟩, ⟨HX.out.1, HX.out.2.1⟩, ⟨g0.out⟩, ⟨HB.out⟩⟩
        case round =>
          clear L1 HX HB g0 b1
          obtain ⟨i, x, y, z, t, nx, rfl, HI, L1, HT, HX, HG, HB⟩ := hrel
          by_cases c1 : i < (l1.length : Int)
          · have b1 : decide (i < (l1.length : Int)) = true := decide_eq_true c1
            by_cases c2 : i < 40
            · have b2 : decide (i < 40) = true := decide_eq_true c2
              by_cases c0 : 0 < (n : Int)
              · have b0 : decide (0 < (n : Int)) = true := decide_eq_true c0
                obtain ⟨ad, rfl, t0⟩ := Kd.at_int C1.out i HI.out.1 c1
                have i0 : (0 ≤ i ∧ i < (l1.length : Int)) = True := eq_true ⟨HI.out.1, c1⟩
                have t0' := lane_far t0 HB.out
                generalize Go.Proofs.YtplajmcjkddikaaW.PrintWords.rd l1 i = u at t0 t0'
                have i1 : 0 ≤ i := HI.out.1
                obtain ⟨r, hr⟩ : ∃ r, Int.tmod u (n : Int) = r := ⟨_, rfl⟩
                have r1 : -(n : Int) < r ∧ r < n := by rw [← hr]; exact ⟨Int.lt_tmod_of_pos u (by omega), Int.tmod_lt_of_pos u (by omega)⟩
                have n0 : ((n : Int) = 0) = False := eq_false (by omega)
                go_upto_if 59 with fail
                go_cut [9] (fun v wx => ∃ kk : Int, v = .int .i64 kk ∧ 0 ≤ kk ∧ kk < (n : Int) ∧ wr = wx)
                case first =>
                  by_cases hr0 : r < 0
                  · have q0 : decide (r < 0) = true := decide_eq_true hr0
                    go_wp2
                    go_meet
                    exact ⟨r + n, rfl, by omega, by omega, rfl⟩
                  · have q0 : decide (r < 0) = false := decide_eq_false hr0
                    go_wp2
                    go_meet
                    exact ⟨r, rfl, by omega, by omega, rfl⟩
                case rest =>
                  obtain ⟨kk, rfl, hk0, hk1, rfl⟩ := hcut
                  clear r1 hr n0 t0 t0' i0 i1
                  obtain ⟨v, hv⟩ : ∃ v, nx.getD kk.toNat 0 = v := ⟨_, rfl⟩
                  have hkn : kk.toNat < nx.length := by have := HX.out.2; omega
                  have q1 := HX.out.1.cell kk.toNat hkn
                  have vb := HG.out.1 kk.toNat hkn
                  rw [hv] at q1 vb
                  obtain ⟨v0, v3⟩ := vb
                  have HV := Lib.hid hv
                  clear hv
                  have j0 : (0 ≤ kk ∧ kk < (n : Int)) = True := eq_true ⟨hk0, hk1⟩
                  go_upto_region 15 with fail
                  go_cut [79] (fun s79 wx => ∃ b, s79 = .bool b ∧ Aside0 (Took wa wx nx v t kk.toNat b))
                  case first =>
                    by_cases hv3 : v < 3
                    · have q2 : decide (v < 3) = true := decide_eq_true hv3
                      obtain ⟨E, hE⟩ : ∃ E, tryE x y z v (kk + 1) = E := ⟨_, rfl⟩
                      have KT := Lib.hid (fun W (h : LS W wa.heap.size x y z t) => try_any wa.heap.size x y z t v (kk + 1) W h (by have := HT.out; have := HI.out; omega))
                      rw [hE] at KT
                      clear hE
                      by_cases hE0 : E = 0
                      · have q3 : (E == 0) = true := by simpa using hE0
                        have q4 := Lib.hid hE0
                        clear hE0
                        go_wp2_with (go_at_call 66; refine (KT.out _ L1.out).mono ?_; rintro e w2 ⟨rfl, hs1, hs2, hu⟩; have HS1 := Lib.hid hs1; have HU := Lib.hid hu; clear hs1 hs2 hu)
                        go_meet
                        refine ⟨true, rfl, ⟨_, _, _, _, HS1.out q4.out, HX.out.1.upd HU.out (by omega), HB.out.trans HU.out.2, by have := HT.out; omega, .inr ⟨rfl, hv3, fun u hu hu3 => ?_⟩⟩⟩
                        have := ginv_step nx x y z HG.out kk.toNat hkn (by rw [HV.out]; exact hv3) u (by rw [HV.out]; exact ⟨hu, hu3⟩)
                        rw [HV.out, show (kk.toNat : Int) = kk by omega] at this
                        exact this
                      · have q3 : (E == 0) = false := by simpa using hE0
                        have q4 := Lib.hid hE0
                        clear hE0
                        go_wp2_with (go_at_call 66; refine (KT.out _ L1.out).mono ?_; rintro e w2 ⟨rfl, hs1, hs2, hu⟩; have HS1 := Lib.hid hs2; have HU := Lib.hid hu; clear hs1 hs2 hu)
                        go_meet
                        exact ⟨false, rfl, ⟨_, _, _, _, HS1.out q4.out, HX.out.1.upd HU.out (by omega), HB.out.trans HU.out.2, by have := HT.out; omega, .inl ⟨rfl, HG.out⟩⟩⟩
                    · have q2 : decide (v < 3) = false := decide_eq_false hv3
                      go_wp2
                      go_meet
                      exact ⟨false, rfl, ⟨_, _, _, _, L1.out, HX.out.1, HB.out, by have := HT.out; omega, .inl ⟨rfl, HG.out⟩⟩⟩
                  case rest =>
                    obtain ⟨b, rfl, HK⟩ := hcut
                    obtain ⟨wb, rfl⟩ : ∃ wb : World, wb = wc := ⟨_, rfl⟩
                    clear L1 HB q1
                    go_upto_if 79 with fail
                    go_cut [] (fun wx => Aside0 (Stand wa wx n t))
                    case first =>
                      cases b with
                      | false =>
                        obtain ⟨X, Y, Z, T, l1, hx, hb, hT, hq⟩ := HK.out
                        have hg : GInv nx X Y Z := by
                          rcases hq with ⟨_, h⟩ | ⟨h, _⟩
                          · exact h
                          · cases h
                        go_wp2
                        go_meet
                        exact ⟨X, Y, Z, T, nx, l1, hx, HX.out.2, hb, hg, hT⟩
                      | true =>
                        obtain ⟨X, Y, Z, T, l1, hx, hb, hT, hq⟩ := HK.out
                        have hg : v < 3 ∧ ∀ u, v < u → u ≤ 3 → GInv (nx.set kk.toNat u) X Y Z := by
                          rcases hq with ⟨h, _⟩ | ⟨_, h⟩
                          · cases h
                          · exact h
                        obtain ⟨ad, a, b, c', rfl, s0, s1, s2⟩ := HN.out kk.toNat (by omega)
                        have L1 := Lib.hid (l1.below (below_drew (Below.refl _ _)) l1.lt)
                        have HB := Lib.hid (below_drew1 hb)
                        have HX1 : Hid (NX wb.drew (wa.heap.size + 1) nx) := Lib.hid hx
                        have HG1 := Lib.hid hg.2
                        have v33 := hg.1
                        clear l1 hx hb hq hg
                        go_upto_region 16 with fail
                        have s0' := lane_far s0 HB.out
                        have s1' := lane_far s1 HB.out
                        have s2' := lane_far s2 HB.out
                        rw [Nat.add_zero] at s0'
                        rw [add_one] at s1'
                        rw [add_two] at s2'
                        have q1 := HX1.out.cell kk.toNat hkn
                        rw [HV.out] at q1
                        have e1 : IntKind.i64.wrap (v + 1) = v + 1 := by rw [IntKind.wrap_i64]; omega
                        have e2 := nextS_ge a b c' (v + 1) (by omega) (by omega)
                        have HE := Lib.hid e2
                        clear e2
                        refine start_ (n := 14) (S := fun w' => w'.cell? (ad.add (kk.toNat * 3)) = some (.bool a) ∧ w'.cell? ⟨(ad.add (kk.toNat * 3)).block, (ad.add (kk.toNat * 3)).off + 1, none⟩ = some (.bool b) ∧ w'.cell? ⟨(ad.add (kk.toNat * 3)).block, (ad.add (kk.toNat * 3)).off + 2, none⟩ = some (.bool c') ∧ w'.cell? ⟨wa.heap.size + 1, kk.toNat, none⟩ = some (.int .i64 v)) (ds := [13]) #[false, false, false, false, false, false, false, false, false, false, false, false, false, false] (by kernel_rfl) rfl rfl ⟨s0', s1', s2', q1⟩ (fun hHeld => ?_)
                        refine pure_ (i := 0) (N := some 80) (v := ?_) (a' := ?_) #[true, false, false, false, false, false, false, false, false, false, false, false, false, false] rfl rfl (by kernel_rfl) (fun _ _ _ h => h) (Or.inl ⟨by rfl, ?_⟩) ?_ ?_
                        rotate_left
                        · intro w'
                          go_simp
                          with_reducible rfl
                        rotate_left
                        · simp only [Act.put, List.setIfInBounds_toArray, List.set_cons_zero, List.set_cons_succ, i64_w, i32_w]
                          rfl
                        refine pure_ (i := 1) (N := some 81) (v := ?_) (a' := ?_) #[true, true, false, false, false, false, false, false, false, false, false, false, false, false] rfl rfl (by kernel_rfl) (fun _ _ _ h => h) (Or.inl ⟨by rfl, ?_⟩) ?_ ?_
                        rotate_left
                        · intro w'
                          go_simp
                          with_reducible rfl
                        rotate_left
                        · simp only [Act.put, List.setIfInBounds_toArray, List.set_cons_zero, List.set_cons_succ, i64_w, i32_w]
                          rfl
                        refine pure_ (i := 2) (N := some 82) (v := ?_) (a' := ?_) #[true, true, true, false, false, false, false, false, false, false, false, false, false, false] rfl rfl (by kernel_rfl) (fun _ _ _ h => h) (Or.inl ⟨by rfl, ?_⟩) ?_ ?_
                        rotate_left
                        · intro w'
                          go_simp
                          with_reducible rfl
                        rotate_left
                        · simp only [Act.put, List.setIfInBounds_toArray, List.set_cons_zero, List.set_cons_succ, i64_w, i32_w]
                          rfl
                        refine pure_ (i := 3) (N := some 83) (v := ?_) (a' := ?_) #[true, true, true, true, false, false, false, false, false, false, false, false, false, false] rfl rfl (by kernel_rfl) (fun _ _ _ h => h) (Or.inl ⟨by rfl, ?_⟩) ?_ ?_
                        rotate_left
                        · intro w'
                          go_simp
                          with_reducible rfl
                        rotate_left
                        · simp only [Act.put, List.setIfInBounds_toArray, List.set_cons_zero, List.set_cons_succ, i64_w, i32_w]
                          rfl
                        refine pure_ (i := 4) (N := some 84) (v := ?_) (a' := ?_) #[true, true, true, true, true, false, false, false, false, false, false, false, false, false] rfl rfl (by kernel_rfl) (fun _ _ _ h => h) (Or.inl ⟨by rfl, ?_⟩) ?_ ?_
                        rotate_left
                        · intro w'
                          go_simp
                          with_reducible rfl
                        rotate_left
                        · simp only [Act.put, List.setIfInBounds_toArray, List.set_cons_zero, List.set_cons_succ, i64_w, i32_w]
                          rfl
                        refine pure_ (i := 6) (N := some 86) (v := ?_) (a' := ?_) #[true, true, true, true, true, false, true, false, false, false, false, false, false, false] rfl rfl (by kernel_rfl) (fun _ _ _ h => h) (Or.inl ⟨by rfl, ?_⟩) ?_ ?_
                        rotate_left
                        · intro w'
                          go_simp
                          with_reducible rfl
                        rotate_left
                        · simp only [Act.put, List.setIfInBounds_toArray, List.set_cons_zero, List.set_cons_succ, i64_w, i32_w]
                          rfl
                        refine pure_ (i := 7) (N := some 87) (v := ?_) (a' := ?_) #[true, true, true, true, true, false, true, true, false, false, false, false, false, false] rfl rfl (by kernel_rfl) (fun _ _ _ h => h) (Or.inl ⟨by rfl, ?_⟩) ?_ ?_
                        rotate_left
                        · intro w'
                          go_simp
                          with_reducible rfl
                        rotate_left
                        · simp only [Act.put, List.setIfInBounds_toArray, List.set_cons_zero, List.set_cons_succ, i64_w, i32_w]
                          rfl
                        refine pure_ (i := 8) (N := some 88) (v := ?_) (a' := ?_) #[true, true, true, true, true, false, true, true, true, false, false, false, false, false] rfl rfl (by kernel_rfl) (fun _ _ _ h => h) (Or.inl ⟨by rfl, ?_⟩) ?_ ?_
                        rotate_left
                        · intro w'
                          go_simp
                          with_reducible rfl
                        rotate_left
                        · simp only [Act.put, List.setIfInBounds_toArray, List.set_cons_zero, List.set_cons_succ, i64_w, i32_w]
                          rfl
                        refine take_ (i := 5) (N := some 85) (v := ?_) (a' := ?_) #[true, true, true, true, true, true, true, true, true, false, false, false, false, false] rfl rfl (by kernel_rfl) (fun _ _ _ h => h) (Or.inl ⟨by rfl, ?_⟩) hHeld ?_ ?_
                        rotate_left
                        · rintro w' ⟨s0, s1, s2, s3⟩
                          go_simp
                          with_reducible rfl
                        rotate_left
                        · simp only [Act.put, List.setIfInBounds_toArray, List.set_cons_zero, List.set_cons_succ, i64_w, i32_w]
                          rfl
                        refine take_ (i := 9) (N := some 89) (v := ?_) (a' := ?_) #[true, true, true, true, true, true, true, true, true, true, false, false, false, false] rfl rfl (by kernel_rfl) (fun _ _ _ h => h) (Or.inl ⟨by rfl, ?_⟩) hHeld ?_ ?_
                        rotate_left
                        · rintro w' ⟨s0, s1, s2, s3⟩
                          go_simp
                          with_reducible rfl
                        rotate_left
                        · simp only [Act.put, List.setIfInBounds_toArray, List.set_cons_zero, List.set_cons_succ, i64_w, i32_w]
                          rfl
                        refine pure_ (i := 10) (N := some 90) (v := ?_) (a' := ?_) #[true, true, true, true, true, true, true, true, true, true, true, false, false, false] rfl rfl (by kernel_rfl) (fun _ _ _ h => h) (Or.inl ⟨by rfl, ?_⟩) ?_ ?_
                        rotate_left
                        · intro w'
                          go_simp
                          with_reducible rfl
                        rotate_left
                        · simp only [Act.put, List.setIfInBounds_toArray, List.set_cons_zero, List.set_cons_succ, i64_w, i32_w]
                          rfl
                        refine one_ (i := 11) (N := some 91) #[true, true, true, true, true, true, true, true, true, true, true, true, false, false] rfl rfl (by kernel_rfl) (by decide) (fun K hK => ?_)
                        refine goes_ Try.func61 (by kernel_rfl) rfl #[.agg #[.bool a, .bool b, .bool c'], .int .i64 (v + 1)] (by rfl) rfl rfl (by (try simp only [List.map_toArray, List.map_cons, List.map_nil]); first | done | rfl | (simp only [List.length_drop, List.length_take]; rfl)) ?_
                        with_reducible refine (next_any a b c' (v + 1) _).mono ?_
                        rintro e w3 ⟨rfl, hb3⟩
                        refine ⟨_, rfl, ?_⟩
                        have n1_ := Lib.hid (L1.out.below hb3 L1.out.lt)
                        have n2_ := Lib.hid (below_step HB.out hb3)
                        have n3_ := Lib.hid (HX1.out.below hb3)
                        clear L1 HB HX1 s0' s1' s2' q1
                        have L1 := n1_
                        have HB := n2_
                        have HX1 := n3_
                        clear n1_ n2_ n3_
                        have s0' := lane_far s0 HB.out
                        have s1' := lane_far s1 HB.out
                        have s2' := lane_far s2 HB.out
                        rw [Nat.add_zero] at s0'
                        rw [add_one] at s1'
                        rw [add_two] at s2'
                        have q1 := HX1.out.cell kk.toNat hkn
                        rw [HV.out] at q1
                        have q2 := HX1.out.soft kk.toNat
                        refine hK.out _ _ ⟨s0', s1', s2', q1⟩ (fun hHeld => ?_)
                        clear hK K
                        refine norm_ (a' := ?_) ?_ ?_
                        rotate_left
                        · show Act.put _ (some 91) _ = _
                          simp only [Act.put, List.setIfInBounds_toArray, List.set_cons_zero, List.set_cons_succ, i64_w, i32_w]
                          rfl
                        refine pure_ (i := 12) (N := some 92) (v := ?_) (a' := ?_) #[true, true, true, true, true, true, true, true, true, true, true, true, true, false] rfl rfl (by kernel_rfl) (fun _ _ _ h => h) (Or.inl ⟨by rfl, ?_⟩) ?_ ?_
                        rotate_left
                        · intro w'
                          go_simp
                          with_reducible rfl
                        rotate_left
                        · simp only [Act.put, List.setIfInBounds_toArray, List.set_cons_zero, List.set_cons_succ, i64_w, i32_w]
                          rfl
                        refine last_ (i := 13) (N := none) #[true, true, true, true, true, true, true, true, true, true, true, true, true, true] rfl rfl (by kernel_rfl) (by decide) (fun K hK => ?_)
                        refine skip_ (w1 := ?_) (by rfl) rfl ?_ ?_
                        rotate_left
                        · go_simp
                          rfl
                        refine hK.out _ _ ?_
                        clear hK K
                        refine done_ (by kernel_rfl) ?_
                        go_wp2
                        go_meet
                        exact ⟨X, Y, Z, T, _, L1.out.off _ _ _ (by omega), HX1.out.set _ _, by rw [List.length_set]; exact HX.out.2, HB.out.setCell (by show wa.heap.size ≤ wa.heap.size + 1; omega) _, HG1.out _ (by have := HE.out; omega) HE.out.2, hT⟩
                    case rest =>
                      obtain ⟨wd, rfl⟩ : ∃ wd : World, wd = wc := ⟨_, rfl⟩
                      obtain ⟨X, Y, Z, T, ny, hl, hx, hny, hb, hg, hT⟩ := hcut.out
                      clear hcut HK HX HG HV v0 v3 hkn
                      have L1 := Lib.hid hl
                      have HX := Lib.hid hx
                      have HB := Lib.hid hb
                      have HG := Lib.hid hg
                      have HT1 := Lib.hid hT
                      have HN1 := Lib.hid hny
                      clear hl hx hny hb hg hT
                      go_wp2
                      go_loop [10, 11] (fun s10 s11 => ∃ (g : Bool) (j : Int), s10 = .bool g ∧ s11 = .int .i64 j ∧ Aside0 (0 ≤ j ∧ j ≤ (n : Int) ∧ (g = false → ∀ m : Nat, (m : Int) < j → ¬ Goes ny X Y Z m))) (fun _ s11 => n - (intOf s11).toNat)
                      case atStart => exact ⟨false, 0, rfl, rfl, ⟨by omega, by omega, fun _ m hm => by omega⟩⟩
                      case round =>
                        obtain ⟨g, j, rfl, rfl, HJ⟩ := hrel
                        by_cases d1 : j < (n : Int)
                        · have f1 : decide (j < (n : Int)) = true := decide_eq_true d1
                          have f2 : 0 ≤ j := HJ.out.1
                          have f3 : (0 ≤ j ∧ j < (n : Int)) = True := eq_true ⟨f2, d1⟩
                          have hj0 : j.toNat < ny.length := by have := HN1.out; omega
                          cases g with
                          | true =>
                            clear f3
                            go_wp2
                            go_round
                            case rel => exact ⟨true, j + 1, rfl, rfl, ⟨by omega, by omega, fun h => by cases h⟩⟩
                            case measure => simp [intOf]; omega
                          | false =>
                            have q1 := HX.out.cell j.toNat hj0
                            obtain ⟨v, hv⟩ : ∃ v, ny.getD j.toNat 0 = v := ⟨_, rfl⟩
                            rw [hv] at q1
                            have HV := Lib.hid hv
                            clear hv
                            by_cases d2 : 3 ≤ v
                            · have f4 : decide (3 ≤ v) = true := decide_eq_true d2
                              go_wp2
                              go_round
                              case rel => exact ⟨true, j + 1, rfl, rfl, ⟨by omega, by omega, fun h => by cases h⟩⟩
                              case measure => simp [intOf]; omega
                            · have f4 : decide (3 ≤ v) = false := decide_eq_false d2
                              obtain ⟨E, hE⟩ : ∃ E, at3 X Y Z v = E := ⟨_, rfl⟩
                              have KO := Lib.hid (fun W (h : LS W wa.heap.size X Y Z T) => owner_any wa.heap.size X Y Z T v W h)
                              rw [hE] at KO
                              have HE := Lib.hid hE
                              clear hE
                              by_cases d3 : E = 0
                              · have f5 : (E == 0) = true := by simpa using d3
                                clear d3
                                go_wp2_with (go_at_call 67; refine (KO.out _ L1.out).mono ?_; rintro e w2 ⟨rfl, rfl⟩)
                                go_round
                                case rel => exact ⟨true, j + 1, rfl, rfl, ⟨by omega, by omega, fun h => by cases h⟩⟩
                                case measure => simp [intOf]; omega
                              · have f5 : (E == 0) = false := by simpa using d3
                                have D3 := Lib.hid d3
                                clear d3
                                go_wp2_with (go_at_call 67; refine (KO.out _ L1.out).mono ?_; rintro e w2 ⟨rfl, rfl⟩)
                                go_round
                                case rel =>
                                  refine ⟨false, j + 1, rfl, rfl, ⟨by omega, by omega, fun _ m hm => ?_⟩⟩
                                  by_cases hmj : (m : Int) < j
                                  · exact HJ.out.2.2 (by first | rfl | trivial) m hmj
                                  · obtain rfl : m = j.toNat := by omega
                                    rintro (h | h)
                                    · rw [HV.out] at h; omega
                                    · rw [HV.out, HE.out] at h; exact D3.out h
                                case measure => simp [intOf]; omega
                        · have f1 : decide (j < (n : Int)) = false := decide_eq_false d1
                          cases g with
                          | false =>
                            exfalso
                            obtain ⟨m, hm, hgo⟩ := ginv_goes ny X Y Z HG.out (by have := HN1.out; omega)
                            exact HJ.out.2.2 (by first | rfl | trivial) m (by have := HN1.out; omega) hgo
                          | true =>
                            clear HJ
                            have e1 : wrap64 (i + 1) = i + 1 := by have := HI.out; unfold wrap64; omega
                            have e2 : IntKind.i64.wrap (i + 1) = i + 1 := by have := HI.out; rw [IntKind.wrap_i64]; omega
                            go_wp2
                            obtain ⟨k1, rfl⟩ : ∃ k1, gk = k1 + 1 := ⟨gk - 1, by have := HI.out; omega⟩
                            have HR1 : Hid (0 ≤ i + 1 ∧ i + 1 + (k1 : Int) = 41 ∧ 1 ≤ k1 ∧ k1 ≤ 41) := Lib.hid (by have h1 := HI.out; omega)
                            go_roundg k1
                            case measure => have := HI.out; omega
                            case rel => exact ⟨i + 1, X, Y, Z, T, ny, rfl, ⟨HR1.out⟩, ⟨L1.out⟩, ⟨by have := HT.out; have := HT1.out; omega⟩, ⟨HX.out, HN1.out⟩, ⟨HG.out⟩, ⟨HB.out⟩⟩
              · have b0 : decide (0 < n) = false := decide_eq_false (by omega)
                clear c0 c1 c2
                go_wp2_with (go_at_call 68; refine (awake16_any _).mono ?_; rintro e w3 ⟨rfl, hb3⟩)
                go_ret
                exact ⟨rfl, below_step HB.out hb3⟩
            · have b2 : decide (i < 40) = false := decide_eq_false c2
              clear c1 c2
              go_wp2_with (go_at_call 68; refine (awake16_any _).mono ?_; rintro e w3 ⟨rfl, hb3⟩)
              go_ret
              exact ⟨rfl, below_step HB.out hb3⟩
          · have b1 : decide (i < (l1.length : Int)) = false := decide_eq_false c1
            clear c1
            go_wp2_with (go_at_call 68; refine (awake16_any _).mono ?_; rintro e w3 ⟨rfl, hb3⟩)
            go_ret
            exact ⟨rfl, below_step HB.out hb3⟩
end Go.Proofs.Ytplajmcjkddikaa.Lock
