/- Law 39: made: the document's tree of any rows. -/
import Derived.Test.YtmjkgnlmdcmdbaaDoorTopoP
import Derived.Test.YtmjkgnlmdcmdbaaDoorTopo9
namespace Go.Proofs.YtmjkgnlmdcmdbaaDoor.Topo
open Go.RowKit Go.Proofs.YtmjkgnlmdcmdbaaDoorW.PrintWords Go.Proofs.YtmjkgnlmdcmdbaaDoorW.PrintLast Go.Proofs.YtmjkgnlmdcmdbaaDoorW.PrintMore Go.Proofs.YtmjkgnlmdcmdbaaDoor.Row Go.Proofs.YtmjkgnlmdcmdbaaDoor.Sets Go.Proofs.YtmjkgnlmdcmdbaaDoor.Node
set_option linter.unusedVariables false
set_option linter.unusedSimpArgs false
set_option maxRecDepth 100000
def MadePost (w : World) (A : Option Addr) (n c : Nat) (xs : List Int) (qs : List Nat) (e : Ending) (w' : World) : Prop :=
  Below w.heap.size w w' ∧ ((stN xs qs n ≠ 0 ∧ e = .returned (.tuple #[.pointer none, .int .i64 (stN xs qs n)])) ∨ (stN xs qs n = 0 ∧ ∃ b vm vd, w.heap.size ≤ b ∧ e = .returned (.tuple #[.pointer (some ⟨b, 0, none⟩), .int .i64 0]) ∧ PP w' b A n c vm vd (mlN xs qs n) (dlN xs n)))
theorem made_out (A : Option Addr) (n c : Nat) (w : World) (h : n < 1 ∨ 64 < n) : Calls Tryd.prog 76 #[.slice A n c] w fun e w' => e = .returned (.tuple #[.pointer none, .int .i64 1]) ∧ w = w' := by
  rcases (by omega : n = 0 ∨ (1 ≤ n ∧ 64 < n)) with rfl | ⟨h1, h2⟩
  · clear h
    go_enter Tryd.func76, Tryd.ntmps76
    go_wp2; go_ret2; exact ⟨rfl, rfl⟩
  · have b1 : decide ((n : Int) < 1) = false := decide_eq_false (by omega)
    have b2 : decide (64 < (n : Int)) = true := decide_eq_true (by omega)
    clear h
    go_enter Tryd.func76, Tryd.ntmps76
    go_wp2; go_ret2; exact ⟨rfl, rfl⟩
theorem take_at (xs : List Int) (i t : Nat) (h : t < i + 1) : (xs.take (i + 1)).getD t 0 = xs.getD t 0 := by
  rw [List.getD_eq_getElem?_getD, List.getElem?_take, if_pos h, ← List.getD_eq_getElem?_getD]
theorem zero_more (M : List Nat) (h : ∀ i, M.getD i 0 < 18446744073709551616) (i : Nat) : (M ++ [0]).getD i 0 < 18446744073709551616 := by
  rw [List.getD_eq_getElem?_getD, List.getElem?_append]
  by_cases hik : i < M.length
  · rw [if_pos hik, ← List.getD_eq_getElem?_getD]; exact h i
  · rw [if_neg hik]
    cases hx : i - M.length with
    | zero => exact (by decide : (0 : Nat) < 18446744073709551616)
    | succ x => exact (by decide : (0 : Nat) < 18446744073709551616)
theorem set_lt (M : List Nat) (t x : Nat) (hx : x < 18446744073709551616) (h : ∀ i, M.getD i 0 < 18446744073709551616) (i : Nat) : (M.set t x).getD i 0 < 18446744073709551616 := by
  rw [List.getD_eq_getElem?_getD, List.getElem?_set]
  by_cases hti : t = i
  · rw [if_pos hti]
    split
    · exact hx
    · exact (by decide : (0 : Nat) < 18446744073709551616)
  · rw [if_neg hti, ← List.getD_eq_getElem?_getD]
    exact h i
theorem below_app {w W W1 : World} {b : Nat} (h : Below w.heap.size w W) (e : w.heap.size = b) (hb : Below (b + 1) W W1) (v : Value) (o : Nat) : Below w.heap.size w (W1.setCell ⟨b, o, none⟩ v) :=
  (h.trans (hb.mono (by omega))).setCell (p := ⟨b, o, none⟩) (by show w.heap.size ≤ b; omega) v
theorem below_set1 {w W : World} {b g : Nat} (h : Below w.heap.size w W) (hg : b + 1 ≤ g) (e : w.heap.size = b) (t : Nat) (v : Value) : Below w.heap.size w (W.setCell ⟨g, t, none⟩ v) :=
  h.setCell (p := ⟨g, t, none⟩) (by show w.heap.size ≤ g; omega) v
set_option maxHeartbeats 4000000 in
theorem made_any (A : Option Addr) (n c : Nat) (xs : List Int) (qs : List Nat) (w : World) (hr : SwRow w A n xs qs) (hx : xs.length = n) (h1 : 1 ≤ n) (h2 : n ≤ 64) (hq : ∀ i, qs.getD i 0 < 18446744073709551616) : Calls Tryd.prog 76 #[.slice A n c] w (MadePost w A n c xs qs) := by
  have HR := Lib.hid hr
  have HX := Lib.hid hx
  have HQ := Lib.hid hq
  have b1 : decide ((n : Int) < 1) = false := decide_eq_false (by omega)
  have b2 : decide (64 < (n : Int)) = false := decide_eq_false (by omega)
  have b3 : decide (64 < n) = false := decide_eq_false (by omega)
  clear hr hx hq
  go_enter Tryd.func76, Tryd.ntmps76
  go_wp2
  have HT := Lib.hid (PP.new w A n c)
  have HB := Lib.hid (below_alloc (Below.refl w.heap.size w) (.cells #[.slice A n c, .slice none 0 0, .slice none 0 0] 116))
  obtain ⟨b, hbb⟩ : ∃ b, w.heap.size = b := ⟨_, rfl⟩
  have HBE := Lib.hid hbb
  rw [hbb] at HT ⊢
  clear hbb
  go_loopg [5] (n + 1) (fun kq v5 w' => ∃ (i : Nat) (vm vd : Value), v5 = .int .i64 i ∧ Aside0 (i + kq = n + 1 ∧ 1 ≤ kq) ∧ Aside0 (stN xs qs i = 0) ∧ Aside0 (PP w' b A n c vm vd (mlN xs qs i) (dlN xs i)) ∧ Aside0 (Below w.heap.size w w'))
  case atStart => exact ⟨0, _, _, rfl, ⟨by omega, by omega⟩, ⟨rfl⟩, ⟨HT.out⟩, ⟨HB.out⟩⟩
  case round =>
    clear HT HB
    obtain ⟨i, vm, vd, rfl, HI, HS, HT, HB⟩ := hrel
    obtain ⟨k1, rfl⟩ : ∃ k1, gk = k1 + 1 := ⟨gk - 1, by have := HI.out; omega⟩
    by_cases c1 : i < n
    · have d1 : decide ((i : Int) < (n : Int)) = true := decide_eq_true (by omega)
      have d2 : decide (i < n) = true := decide_eq_true c1
      obtain ⟨ad, rfl, s0, s1⟩ := (HR.out.below HB.out) i c1
      have HC1 := Lib.hid c1
      have hsucc := stN_succ xs qs i
      rw [if_neg (by simp [HS.out])] at hsucc
      have HSC := Lib.hid hsucc
      have HQL := Lib.hid (HQ.out i)
      have HOK : Hid (okAt xs i ↔ ((i = 0 ∧ xs.getD i 0 = -1) ∨ (0 < i ∧ 0 ≤ xs.getD i 0 ∧ xs.getD i 0 < (i : Int)))) := Lib.hid (by
        unfold okAt
        constructor
        · rintro (⟨rfl, h⟩ | h)
          · exact .inl ⟨rfl, h⟩
          · exact .inr h
        · rintro (⟨rfl, h⟩ | h)
          · exact .inl ⟨rfl, h⟩
          · exact .inr h)
      obtain ⟨x, hxx⟩ : ∃ x, xs.getD i 0 = x := ⟨_, rfl⟩
      obtain ⟨q, hqq⟩ : ∃ q, qs.getD i 0 = q := ⟨_, rfl⟩
      rw [hxx] at s0 HOK
      rw [hqq] at s1 HSC HQL
      have HXX := Lib.hid hxx
      have HQQ := Lib.hid hqq
      have x0 : (0 ≤ (i : Int) ∧ (i : Int) < (n : Int)) = True := eq_true ⟨by omega, by omega⟩
      have y0 : ((i : Int) < (n : Int)) = True := eq_true (by omega)
      have xt : ((i : Int)).toNat = i := by omega
      clear hsucc hxx hqq
      by_cases cok : okAt xs i
      · have hcase := HOK.out.1 cok
        rcases hcase with ⟨hi, hx0⟩ | ⟨hi0, hx0, hxi⟩
        · have e0 : ((i : Int) == 0) = true := by simp; omega
          have e2 : decide (0 < (i : Int)) = false := decide_eq_false (by omega)
          have e3 : decide (0 < i) = false := decide_eq_false (by omega)
          have e1 : (x != -1) = false := by simp [hx0]
          have HD1 : Hid (dlN xs (i + 1) = dlN xs i ++ [0]) := Lib.hid (by show dlN xs i ++ [if 0 ≤ xs.getD i 0 then _ else (0 : Int)] = _; rw [HXX.out, if_neg (by omega)])
          clear hi hx0
          go_wp2
          go_loopg [7] (n + 1) (fun kq v7 w' => ∃ (j : Nat), v7 = .int .i64 j ∧ Aside0 (j + kq = n + 1 ∧ j ≤ i) ∧ Aside0 (∀ u, u < j → qs.getD u 0 &&& q = 0) ∧ Aside0 (PP w' b (some ad) n c vm vd (mlN xs qs i) (dlN xs i)) ∧ Aside0 (Below w.heap.size w w'))
          case atStart => exact ⟨0, rfl, ⟨by have := HI.out; omega, by omega⟩, ⟨fun u hu => absurd hu (by omega)⟩, ⟨HT.out⟩, ⟨HB.out⟩⟩
          case round =>
            clear HT HB
            obtain ⟨j, rfl, HJ, HZ, HT, HB⟩ := hrel
            obtain ⟨k2, rfl⟩ : ∃ k2, gk = k2 + 1 := ⟨gk - 1, by have := HJ.out; have := HC1.out; omega⟩
            by_cases cj : j < i
            · have j1 : decide ((j : Int) < (i : Int)) = true := decide_eq_true (by omega)
              have j2 : decide (j < i) = true := decide_eq_true cj
              have HCJ := Lib.hid cj
              obtain ⟨ad2, hae, -, t1⟩ := (HR.out.below HB.out) j (by have := HC1.out; omega)
              injection hae with hae
              subst hae
              obtain ⟨ad3, hae, -, t2⟩ := (HR.out.below HB.out) i HC1.out
              injection hae with hae
              subst hae
              rw [HQQ.out] at t2
              obtain ⟨p, hp⟩ : ∃ p, qs.getD j 0 = p := ⟨_, rfl⟩
              rw [hp] at t1
              have HP := Lib.hid hp
              have hpl := HQ.out j
              rw [hp] at hpl
              have band := bits_and_u64_nat p q hpl HQL.out
              have T1 := Lib.hid t1
              have T2 := Lib.hid t2
              clear t1 t2 hp hpl
              have j3 : (0 ≤ (j : Int) ∧ (j : Int) < (n : Int)) = True := eq_true ⟨by omega, by have := HC1.out; omega⟩
              have j4 : ((j : Int) < (n : Int)) = True := eq_true (by have := HC1.out; omega)
              have j5 : ((j : Int)).toNat = j := by omega
              by_cases cz : p &&& q = 0
              · have z2 := (eq_b _ cz).1
                go_upto_region 15 with fail
                refine start_ (n := 12) (S := fun w' => w'.cell? ⟨(ad.add (j * 2)).block, (ad.add (j * 2)).off + 1, none⟩ = some (.int .u64 (p : Int)) ∧ w'.cell? ⟨(ad.add (i * 2)).block, (ad.add (i * 2)).off + 1, none⟩ = some (.int .u64 (q : Int))) (ds := []) #[false, false, false, false, false, false, false, false, false, false, false, false] (by kernel_rfl) rfl rfl ⟨T1.out, T2.out⟩ (fun hHeld => ?_)
                have n_ := Lib.hid HT.out.drew
                have n2_ := Lib.hid (below_drew1 HB.out)
                clear HT HB
                have HT := n_
                have HB := n2_
                clear n_ n2_
                generalize wr.drew = wz at HT HB hHeld ⊢
                refine pure_ (i := 0) (N := some 77) (v := ?_) (a' := ?_) #[true, false, false, false, false, false, false, false, false, false, false, false] rfl rfl (by kernel_rfl) (fun _ _ _ h => h) (Or.inl ⟨by rfl, ?_⟩) ?_ ?_
                rotate_left
                · intro w'
                  go_simp
                  with_reducible rfl
                rotate_left
                · simp only [Act.put, List.setIfInBounds_toArray, List.set_cons_zero, List.set_cons_succ, i64_w, i32_w]
                  rfl
                refine pure_ (i := 1) (N := some 78) (v := ?_) (a' := ?_) #[true, true, false, false, false, false, false, false, false, false, false, false] rfl rfl (by kernel_rfl) (fun _ _ _ h => h) (Or.inl ⟨by rfl, ?_⟩) ?_ ?_
                rotate_left
                · intro w'
                  go_simp
                  with_reducible rfl
                rotate_left
                · simp only [Act.put, List.setIfInBounds_toArray, List.set_cons_zero, List.set_cons_succ, i64_w, i32_w]
                  rfl
                refine pure_ (i := 2) (N := some 79) (v := ?_) (a' := ?_) #[true, true, true, false, false, false, false, false, false, false, false, false] rfl rfl (by kernel_rfl) (fun _ _ _ h => h) (Or.inl ⟨by rfl, ?_⟩) ?_ ?_
                rotate_left
                · intro w'
                  go_simp
                  with_reducible rfl
                rotate_left
                · simp only [Act.put, List.setIfInBounds_toArray, List.set_cons_zero, List.set_cons_succ, i64_w, i32_w]
                  rfl
                refine pure_ (i := 3) (N := some 80) (v := ?_) (a' := ?_) #[true, true, true, true, false, false, false, false, false, false, false, false] rfl rfl (by kernel_rfl) (fun _ _ _ h => h) (Or.inl ⟨by rfl, ?_⟩) ?_ ?_
                rotate_left
                · intro w'
                  go_simp
                  with_reducible rfl
                rotate_left
                · simp only [Act.put, List.setIfInBounds_toArray, List.set_cons_zero, List.set_cons_succ, i64_w, i32_w]
                  rfl
                refine pure_ (i := 5) (N := some 82) (v := ?_) (a' := ?_) #[true, true, true, true, false, true, false, false, false, false, false, false] rfl rfl (by kernel_rfl) (fun _ _ _ h => h) (Or.inl ⟨by rfl, ?_⟩) ?_ ?_
                rotate_left
                · intro w'
                  go_simp
                  with_reducible rfl
                rotate_left
                · simp only [Act.put, List.setIfInBounds_toArray, List.set_cons_zero, List.set_cons_succ, i64_w, i32_w]
                  rfl
                refine pure_ (i := 6) (N := some 83) (v := ?_) (a' := ?_) #[true, true, true, true, false, true, true, false, false, false, false, false] rfl rfl (by kernel_rfl) (fun _ _ _ h => h) (Or.inl ⟨by rfl, ?_⟩) ?_ ?_
                rotate_left
                · intro w'
                  go_simp
                  with_reducible rfl
                rotate_left
                · simp only [Act.put, List.setIfInBounds_toArray, List.set_cons_zero, List.set_cons_succ, i64_w, i32_w]
                  rfl
                refine pure_ (i := 7) (N := some 84) (v := ?_) (a' := ?_) #[true, true, true, true, false, true, true, true, false, false, false, false] rfl rfl (by kernel_rfl) (fun _ _ _ h => h) (Or.inl ⟨by rfl, ?_⟩) ?_ ?_
                rotate_left
                · intro w'
                  go_simp
                  with_reducible rfl
                rotate_left
                · simp only [Act.put, List.setIfInBounds_toArray, List.set_cons_zero, List.set_cons_succ, i64_w, i32_w]
                  rfl
                refine pure_ (i := 8) (N := some 85) (v := ?_) (a' := ?_) #[true, true, true, true, false, true, true, true, true, false, false, false] rfl rfl (by kernel_rfl) (fun _ _ _ h => h) (Or.inl ⟨by rfl, ?_⟩) ?_ ?_
                rotate_left
                · intro w'
                  go_simp
                  with_reducible rfl
                rotate_left
                · simp only [Act.put, List.setIfInBounds_toArray, List.set_cons_zero, List.set_cons_succ, i64_w, i32_w]
                  rfl
                refine take_ (i := 4) (N := some 81) (v := ?_) (a' := ?_) #[true, true, true, true, true, true, true, true, true, false, false, false] rfl rfl (by kernel_rfl) (fun _ _ _ h => h) (Or.inl ⟨by rfl, ?_⟩) hHeld ?_ ?_
                rotate_left
                · rintro w' ⟨s0, s1⟩
                  go_simp
                  with_reducible rfl
                rotate_left
                · simp only [Act.put, List.setIfInBounds_toArray, List.set_cons_zero, List.set_cons_succ, i64_w, i32_w]
                  rfl
                refine take_ (i := 9) (N := some 86) (v := ?_) (a' := ?_) #[true, true, true, true, true, true, true, true, true, true, false, false] rfl rfl (by kernel_rfl) (fun _ _ _ h => h) (Or.inl ⟨by rfl, ?_⟩) hHeld ?_ ?_
                rotate_left
                · rintro w' ⟨s0, s1⟩
                  go_simp
                  with_reducible rfl
                rotate_left
                · simp only [Act.put, List.setIfInBounds_toArray, List.set_cons_zero, List.set_cons_succ, i64_w, i32_w]
                  rfl
                refine pure_ (i := 10) (N := some 87) (v := ?_) (a' := ?_) #[true, true, true, true, true, true, true, true, true, true, true, false] rfl rfl (by kernel_rfl) (fun _ _ _ h => h) (Or.inl ⟨by rfl, ?_⟩) ?_ ?_
                rotate_left
                · intro w'
                  go_simp
                  with_reducible rfl
                rotate_left
                · simp only [Act.put, List.setIfInBounds_toArray, List.set_cons_zero, List.set_cons_succ, i64_w, i32_w]
                  rfl
                refine pure_ (i := 11) (N := some 88) (v := ?_) (a' := ?_) #[true, true, true, true, true, true, true, true, true, true, true, true] rfl rfl (by kernel_rfl) (fun _ _ _ h => h) (Or.inl ⟨by rfl, ?_⟩) ?_ ?_
                rotate_left
                · intro w'
                  go_simp
                  with_reducible rfl
                rotate_left
                · simp only [Act.put, List.setIfInBounds_toArray, List.set_cons_zero, List.set_cons_succ, i64_w, i32_w]
                  rfl
                refine done_ (by kernel_rfl) ?_
                clear hHeld
                go_wp2
                go_roundg k2
                case measure => have := HJ.out; omega
                case rel => exact ⟨j + 1, by go_num, ⟨by have := HJ.out; omega, by have := HCJ.out; omega⟩, ⟨fun u hu => by
                    by_cases euj : u = j
                    · rw [euj, HP.out]; exact cz
                    · exact HZ.out u (by omega)⟩, ⟨HT.out⟩, ⟨HB.out⟩⟩
              · have z2 := (neq_b _ cz).1
                have HSN : Hid (stN xs qs n = 13) := Lib.hid (by
                  have hne : ¬ (q &&& allQ qs i = 0) := fun h0 => cz (by have := (allQ_zero qs q i).1 h0 j HCJ.out; rw [HP.out] at this; exact this)
                  rw [stN_stays xs qs (i + 1) n (by have := HC1.out; omega) (by rw [HSC.out, if_pos cok, if_neg hne]; decide), HSC.out, if_pos cok, if_neg hne])
                go_upto_region 15 with fail
                refine start_ (n := 12) (S := fun w' => w'.cell? ⟨(ad.add (j * 2)).block, (ad.add (j * 2)).off + 1, none⟩ = some (.int .u64 (p : Int)) ∧ w'.cell? ⟨(ad.add (i * 2)).block, (ad.add (i * 2)).off + 1, none⟩ = some (.int .u64 (q : Int))) (ds := []) #[false, false, false, false, false, false, false, false, false, false, false, false] (by kernel_rfl) rfl rfl ⟨T1.out, T2.out⟩ (fun hHeld => ?_)
                have n_ := Lib.hid HT.out.drew
                have n2_ := Lib.hid (below_drew1 HB.out)
                clear HT HB
                have HT := n_
                have HB := n2_
                clear n_ n2_
                generalize wr.drew = wz at HT HB hHeld ⊢
                refine pure_ (i := 0) (N := some 77) (v := ?_) (a' := ?_) #[true, false, false, false, false, false, false, false, false, false, false, false] rfl rfl (by kernel_rfl) (fun _ _ _ h => h) (Or.inl ⟨by rfl, ?_⟩) ?_ ?_
                rotate_left
                · intro w'
                  go_simp
                  with_reducible rfl
                rotate_left
                · simp only [Act.put, List.setIfInBounds_toArray, List.set_cons_zero, List.set_cons_succ, i64_w, i32_w]
                  rfl
                refine pure_ (i := 1) (N := some 78) (v := ?_) (a' := ?_) #[true, true, false, false, false, false, false, false, false, false, false, false] rfl rfl (by kernel_rfl) (fun _ _ _ h => h) (Or.inl ⟨by rfl, ?_⟩) ?_ ?_
                rotate_left
                · intro w'
                  go_simp
                  with_reducible rfl
                rotate_left
                · simp only [Act.put, List.setIfInBounds_toArray, List.set_cons_zero, List.set_cons_succ, i64_w, i32_w]
                  rfl
                refine pure_ (i := 2) (N := some 79) (v := ?_) (a' := ?_) #[true, true, true, false, false, false, false, false, false, false, false, false] rfl rfl (by kernel_rfl) (fun _ _ _ h => h) (Or.inl ⟨by rfl, ?_⟩) ?_ ?_
                rotate_left
                · intro w'
                  go_simp
                  with_reducible rfl
                rotate_left
                · simp only [Act.put, List.setIfInBounds_toArray, List.set_cons_zero, List.set_cons_succ, i64_w, i32_w]
                  rfl
                refine pure_ (i := 3) (N := some 80) (v := ?_) (a' := ?_) #[true, true, true, true, false, false, false, false, false, false, false, false] rfl rfl (by kernel_rfl) (fun _ _ _ h => h) (Or.inl ⟨by rfl, ?_⟩) ?_ ?_
                rotate_left
                · intro w'
                  go_simp
                  with_reducible rfl
                rotate_left
                · simp only [Act.put, List.setIfInBounds_toArray, List.set_cons_zero, List.set_cons_succ, i64_w, i32_w]
                  rfl
                refine pure_ (i := 5) (N := some 82) (v := ?_) (a' := ?_) #[true, true, true, true, false, true, false, false, false, false, false, false] rfl rfl (by kernel_rfl) (fun _ _ _ h => h) (Or.inl ⟨by rfl, ?_⟩) ?_ ?_
                rotate_left
                · intro w'
                  go_simp
                  with_reducible rfl
                rotate_left
                · simp only [Act.put, List.setIfInBounds_toArray, List.set_cons_zero, List.set_cons_succ, i64_w, i32_w]
                  rfl
                refine pure_ (i := 6) (N := some 83) (v := ?_) (a' := ?_) #[true, true, true, true, false, true, true, false, false, false, false, false] rfl rfl (by kernel_rfl) (fun _ _ _ h => h) (Or.inl ⟨by rfl, ?_⟩) ?_ ?_
                rotate_left
                · intro w'
                  go_simp
                  with_reducible rfl
                rotate_left
                · simp only [Act.put, List.setIfInBounds_toArray, List.set_cons_zero, List.set_cons_succ, i64_w, i32_w]
                  rfl
                refine pure_ (i := 7) (N := some 84) (v := ?_) (a' := ?_) #[true, true, true, true, false, true, true, true, false, false, false, false] rfl rfl (by kernel_rfl) (fun _ _ _ h => h) (Or.inl ⟨by rfl, ?_⟩) ?_ ?_
                rotate_left
                · intro w'
                  go_simp
                  with_reducible rfl
                rotate_left
                · simp only [Act.put, List.setIfInBounds_toArray, List.set_cons_zero, List.set_cons_succ, i64_w, i32_w]
                  rfl
                refine pure_ (i := 8) (N := some 85) (v := ?_) (a' := ?_) #[true, true, true, true, false, true, true, true, true, false, false, false] rfl rfl (by kernel_rfl) (fun _ _ _ h => h) (Or.inl ⟨by rfl, ?_⟩) ?_ ?_
                rotate_left
                · intro w'
                  go_simp
                  with_reducible rfl
                rotate_left
                · simp only [Act.put, List.setIfInBounds_toArray, List.set_cons_zero, List.set_cons_succ, i64_w, i32_w]
                  rfl
                refine take_ (i := 4) (N := some 81) (v := ?_) (a' := ?_) #[true, true, true, true, true, true, true, true, true, false, false, false] rfl rfl (by kernel_rfl) (fun _ _ _ h => h) (Or.inl ⟨by rfl, ?_⟩) hHeld ?_ ?_
                rotate_left
                · rintro w' ⟨s0, s1⟩
                  go_simp
                  with_reducible rfl
                rotate_left
                · simp only [Act.put, List.setIfInBounds_toArray, List.set_cons_zero, List.set_cons_succ, i64_w, i32_w]
                  rfl
                refine take_ (i := 9) (N := some 86) (v := ?_) (a' := ?_) #[true, true, true, true, true, true, true, true, true, true, false, false] rfl rfl (by kernel_rfl) (fun _ _ _ h => h) (Or.inl ⟨by rfl, ?_⟩) hHeld ?_ ?_
                rotate_left
                · rintro w' ⟨s0, s1⟩
                  go_simp
                  with_reducible rfl
                rotate_left
                · simp only [Act.put, List.setIfInBounds_toArray, List.set_cons_zero, List.set_cons_succ, i64_w, i32_w]
                  rfl
                refine pure_ (i := 10) (N := some 87) (v := ?_) (a' := ?_) #[true, true, true, true, true, true, true, true, true, true, true, false] rfl rfl (by kernel_rfl) (fun _ _ _ h => h) (Or.inl ⟨by rfl, ?_⟩) ?_ ?_
                rotate_left
                · intro w'
                  go_simp
                  with_reducible rfl
                rotate_left
                · simp only [Act.put, List.setIfInBounds_toArray, List.set_cons_zero, List.set_cons_succ, i64_w, i32_w]
                  rfl
                refine pure_ (i := 11) (N := some 88) (v := ?_) (a' := ?_) #[true, true, true, true, true, true, true, true, true, true, true, true] rfl rfl (by kernel_rfl) (fun _ _ _ h => h) (Or.inl ⟨by rfl, ?_⟩) ?_ ?_
                rotate_left
                · intro w'
                  go_simp
                  with_reducible rfl
                rotate_left
                · simp only [Act.put, List.setIfInBounds_toArray, List.set_cons_zero, List.set_cons_succ, i64_w, i32_w]
                  rfl
                refine done_ (by kernel_rfl) ?_
                clear hHeld
                go_wp2
                go_ret2
                exact ⟨HB.out, .inl ⟨by rw [HSN.out]; decide, by rw [HSN.out] <;> rfl⟩⟩
            · have j1 : decide ((j : Int) < (i : Int)) = false := decide_eq_false (by omega)
              have j2 : decide (j < i) = false := decide_eq_false cj
              obtain rfl : j = i := by have := HJ.out; omega
              have HS2 : Hid (stN xs qs (j + 1) = 0) := Lib.hid (by rw [HSC.out, if_pos cok, if_pos ((allQ_zero qs q j).2 HZ.out)])
              have HMI : Hid (∀ u, (mlN xs qs j).getD u 0 < 18446744073709551616) := Lib.hid (mlN_lt xs qs HQ.out j)
              have HML : Hid ((mlN xs qs j).length = j) := Lib.hid (mlN_len xs qs j)
              have HDL : Hid ((dlN xs j).length = j) := Lib.hid (dlN_len xs j)
              have HM2 : Hid (mlN xs qs (j + 1) = climb (xs.take (j + 1)) q (j + 1) j (mlN xs qs j ++ [0])) := Lib.hid (by rw [← HQQ.out]; rfl)
              obtain ⟨M, hMM⟩ : ∃ M, mlN xs qs j = M := ⟨_, rfl⟩
              obtain ⟨D, hDD⟩ : ∃ D, dlN xs j = D := ⟨_, rfl⟩
              rw [hMM] at HT HMI HML HM2
              rw [hDD] at HT HDL HD1
              clear hMM hDD
              have c2 := HT.out.c2
              have f2 := HT.out.f2
              obtain ⟨A1, q1, hv1⟩ := Kd.R_slice HT.out.r1
              have hl1 : (Sets.nums M).length = j := by simp [Sets.nums, HML.out]
              have HL1 := Lib.hid hl1
              rw [hl1] at hv1
              subst hv1
              clear hl1
              obtain ⟨A2, q2, hv2⟩ := Kd.R_slice HT.out.r2
              rw [HDL.out] at hv2
              subst hv2
              go_upto_region 18 with ((with_reducible refine gate_builtin (b := .append) (xs := #[.tmp 93, .tmp 95]) rfl ?_); at_builtin; go_loud (refine Kd.R_append (Kd.int .i64) (w0 := ?wzxa) (b + 1) rfl (.tmp 93) (.tmp 95) 30 3 (.int .i64 0) 8 rfl Tryd.underlying30 info_int rfl (by decide) (by omega) _ D 0 [.int .i64 0] (fun _ => True) (fun _ => False) rfl rfl ?aPxa (fun _ hk => hk.elim) ?aFxa ?aOxa ?aBxa ?aSxa ?aLxa ?_; (case aPxa => exact rfl); (case aBxa => exact Below.refl _ _); (case aFxa => exact (fun _ _ => trivial)); (case aOxa => exact HT.out.r2); (case aSxa => exact HT.out.lt); (case aLxa => have := HC1.out; have := HDL.out; have := HL1.out; omega); intro v3 w10 ho hb hg hat; obtain ⟨A8, k8, hv9⟩ := Kd.R_slice ho; rw [List.length_append, HDL.out, List.length_singleton] at hv9; subst hv9; have HT4 := Lib.hid (HT.out.app2 ho hb hg); have HB4 := Lib.hid (below_app HB.out HBE.out hb (.slice A8 (j + 1) k8) 2); have c2' := (World.cell?_of_block (a := ⟨b, 2, none⟩) (hb.block b (Nat.lt_succ_self b))).trans c2; have f2' := (World.frozen?_of_block (a := ⟨b, 2, none⟩) (hb.block b (Nat.lt_succ_self b))).trans f2; clear c2 f2 HT HB ho hb hg hat))
              clear c2' f2'
              have HT := HT4
              have HB := HB4
              clear HT4 HB4
              generalize w10.setCell ⟨b, 2, none⟩ (.slice A8 (j + 1) k8) = w11 at HT HB ⊢
              have c1 := HT.out.c1
              have f1 := HT.out.f1
              go_upto_region 19 with ((with_reducible refine gate_builtin (b := .append) (xs := #[.tmp 103, .tmp 104]) rfl ?_); at_builtin; go_loud (refine Kd.R_append (Kd.int .u64) (w0 := ?wzxb) (b + 1) rfl (.tmp 103) (.tmp 104) 36 23 (.int .u64 0) 8 rfl Tryd.underlying36 info_set rfl (by decide) (by omega) _ (Sets.nums M) ((0 : Nat) : Int) [.int .u64 0] (fun _ => True) (fun _ => False) rfl rfl ?aPxb (fun _ hk => hk.elim) ?aFxb ?aOxb ?aBxb ?aSxb ?aLxb ?_; (case aPxb => exact rfl); (case aBxb => exact Below.refl _ _); (case aFxb => exact (fun _ _ => trivial)); (case aOxb => exact HT.out.r1); (case aSxb => exact HT.out.lt); (case aLxb => have := HC1.out; have := HDL.out; have := HL1.out; omega); intro v3 w10 ho hb hg hat; obtain ⟨A9, k9, hv9⟩ := Kd.R_slice ho; rw [List.length_append, HL1.out, List.length_singleton] at hv9; subst hv9; have HT4 := Lib.hid (HT.out.app1 ho hb hg); have HB4 := Lib.hid (below_app HB.out HBE.out hb (.slice A9 (j + 1) k9) 1); have c1' := (World.cell?_of_block (a := ⟨b, 1, none⟩) (hb.block b (Nat.lt_succ_self b))).trans c1; have f1' := (World.frozen?_of_block (a := ⟨b, 1, none⟩) (hb.block b (Nat.lt_succ_self b))).trans f1; clear c1 f1 HT HB ho hb hg hat))
              clear c1' f1'
              have HT := HT4
              have HB := HB4
              clear HT4 HB4
              generalize w10.setCell ⟨b, 1, none⟩ (.slice A9 (j + 1) k9) = w11 at HT HB ⊢
              obtain ⟨gm, km, hvm, _, _, _⟩ := Kd.R_form HT.out.r1 (by simp [Sets.nums])
              injection hvm with u1 u2 u3
              subst u1
              clear u2 u3
              obtain ⟨e, he⟩ : ∃ e, j + 1 = e := ⟨_, rfl⟩
              rw [he] at HT
              have HE := Lib.hid he
              have HMN : Hid ((M ++ [0]).length = e) := Lib.hid (by rw [List.length_append, List.length_singleton, HML.out]; exact he)
              have HMB : Hid (∀ u, (M ++ [0]).getD u 0 < 18446744073709551616) := Lib.hid (zero_more M HMI.out)
              have HOA : Hid (∀ t, t < e → -1 ≤ xs.getD t 0 ∧ xs.getD t 0 < (t : Int)) := Lib.hid (fun t ht => okAt_in xs t (stN_ok xs qs (j + 1) HS2.out t (by omega)))
              clear he HMI HML HDL HL1
              go_wp2
              go_loopg [8, 9] (j + 3) (fun kq v8 v9 w' => ∃ (z : Int) (k f : Nat) (M1 : List Nat), v8 = .int .i64 z ∧ v9 = .int .i64 k ∧ Aside0 (k + kq = j + 3 ∧ z + k ≤ j ∧ -1 ≤ z) ∧ Aside0 (PP w' b (some ad) n c (.slice (some ⟨gm, 0, none⟩) e k9) (.slice A8 e k8) M1 (D ++ [0])) ∧ Aside0 (climb (xs.take (j + 1)) q f z M1 = climb (xs.take (j + 1)) q (j + 1) j (M ++ [0]) ∧ z + 1 ≤ (f : Int)) ∧ Aside0 (M1.length = e ∧ ∀ u, M1.getD u 0 < 18446744073709551616) ∧ Aside0 (Below w.heap.size w w'))
              case atStart => exact ⟨j, 0, j + 1, M ++ [0], rfl, rfl, ⟨by omega, by omega, by omega⟩, ⟨HT.out⟩, ⟨rfl, by omega⟩, ⟨HMN.out, HMB.out⟩, ⟨HB.out⟩⟩
              case round =>
                clear HT HB HMN HMB
                obtain ⟨z, k, f, M1, rfl, rfl, HK, HT, HC, HM1, HB⟩ := hrel
                obtain ⟨k3, rfl⟩ : ∃ k3, gk = k3 + 1 := ⟨gk - 1, by have := HK.out; omega⟩
                by_cases cz : 0 ≤ z
                · have z1 : decide (0 ≤ z) = true := decide_eq_true cz
                  obtain ⟨t, rfl⟩ : ∃ t : Nat, z = (t : Int) := ⟨z.toNat, by omega⟩
                  obtain ⟨f1, rfl⟩ : ∃ f1, f = f1 + 1 := ⟨f - 1, by have := HC.out.2; omega⟩
                  have hte : t < e := by have := HK.out; have := HE.out; omega
                  have HTE := Lib.hid hte
                  have k4 : decide ((k : Int) ≤ (j : Int)) = true := decide_eq_true (by have := HK.out; omega)
                  have k5 : decide (k ≤ j) = true := decide_eq_true (by have := HK.out; omega)
                  obtain ⟨ad2, hae, t0, -⟩ := (HR.out.below HB.out) t (by have := HC1.out; have := HE.out; omega)
                  injection hae with hae
                  subst hae
                  obtain ⟨ad3, hae, -, t2⟩ := (HR.out.below HB.out) j HC1.out
                  injection hae with hae
                  subst hae
                  rw [HQQ.out] at t2
                  obtain ⟨m, hm⟩ : ∃ m, M1.getD t 0 = m := ⟨_, rfl⟩
                  have hmb := HM1.out.2 t
                  rw [hm] at hmb
                  have hor := bits_or_u64_nat m q hmb HQL.out
                  have HMM : Hid (t < M1.length ∧ M1.getD t 0 = m) := Lib.hid ⟨by rw [HM1.out.1]; exact hte, hm⟩
                  have HOL := Lib.hid (or_lt m q hmb HQL.out)
                  have hc := HC.out.1
                  rw [climb_step, hm, take_at xs j t (by have := HE.out; omega)] at hc
                  have HC2 := Lib.hid hc
                  obtain ⟨y, hy⟩ : ∃ y, xs.getD t 0 = y := ⟨_, rfl⟩
                  have hyb := HOA.out t hte
                  rw [hy] at hyb t0
                  have HY := Lib.hid hy
                  have T0 := Lib.hid t0
                  have T2 := Lib.hid t2
                  have v0 : (0 ≤ (t : Int) ∧ (t : Int) < (e : Int)) = True := eq_true ⟨by omega, by omega⟩
                  have v1 : ((t : Int) < (e : Int)) = True := eq_true (by omega)
                  have v2 : ((t : Int)).toNat = t := by omega
                  have v3 : (0 ≤ (t : Int) ∧ (t : Int) < (n : Int)) = True := eq_true ⟨by omega, by have := HC1.out; have := HE.out; omega⟩
                  have v4 : ((t : Int) < (n : Int)) = True := eq_true (by have := HC1.out; have := HE.out; omega)
                  clear hm hc hy hmb t0 t2 hte
                  go_upto_region 23 with fail
                  refine start_ (n := 20) (S := fun w' => w'.cell? ⟨b, 1, none⟩ = some (.slice (some ⟨gm, 0, none⟩) e k9) ∧ w'.cell? ⟨(ad.add (j * 2)).block, (ad.add (j * 2)).off + 1, none⟩ = some (.int .u64 (q : Int)) ∧ w'.cell? ⟨gm, t, none⟩ = some (.int .u64 (m : Int))) (ds := [19]) #[false, false, false, false, false, false, false, false, false, false, false, false, false, false, false, false, false, false, false, false] (by kernel_rfl) rfl rfl ⟨HT.out.c1, T2.out, ((HT.out.at1 t HMM.out.1).1.trans (by rw [HMM.out.2]))⟩ (fun hHeld => ?_)
                  have n_ := Lib.hid HT.out.drew
                  have n2_ := Lib.hid (below_drew1 HB.out)
                  clear HT HB
                  have HT := n_
                  have HB := n2_
                  clear n_ n2_
                  generalize wr.drew = w12 at HT HB hHeld ⊢
                  have g2 := (HT.out.at1 t HMM.out.1).2
                  refine pure_ (i := 0) (N := some 118) (v := ?_) (a' := ?_) #[true, false, false, false, false, false, false, false, false, false, false, false, false, false, false, false, false, false, false, false] rfl rfl (by kernel_rfl) (fun _ _ _ h => h) (Or.inl ⟨by rfl, ?_⟩) ?_ ?_
                  rotate_left
                  · intro w'
                    go_simp
                    with_reducible rfl
                  rotate_left
                  · simp only [Act.put, List.setIfInBounds_toArray, List.set_cons_zero, List.set_cons_succ, i64_w, i32_w]
                    rfl
                  refine pure_ (i := 1) (N := some 119) (v := ?_) (a' := ?_) #[true, true, false, false, false, false, false, false, false, false, false, false, false, false, false, false, false, false, false, false] rfl rfl (by kernel_rfl) (fun _ _ _ h => h) (Or.inl ⟨by rfl, ?_⟩) ?_ ?_
                  rotate_left
                  · intro w'
                    go_simp
                    with_reducible rfl
                  rotate_left
                  · simp only [Act.put, List.setIfInBounds_toArray, List.set_cons_zero, List.set_cons_succ, i64_w, i32_w]
                    rfl
                  refine pure_ (i := 2) (N := some 120) (v := ?_) (a' := ?_) #[true, true, true, false, false, false, false, false, false, false, false, false, false, false, false, false, false, false, false, false] rfl rfl (by kernel_rfl) (fun _ _ _ h => h) (Or.inl ⟨by rfl, ?_⟩) ?_ ?_
                  rotate_left
                  · intro w'
                    go_simp
                    with_reducible rfl
                  rotate_left
                  · simp only [Act.put, List.setIfInBounds_toArray, List.set_cons_zero, List.set_cons_succ, i64_w, i32_w]
                    rfl
                  refine pure_ (i := 4) (N := some 122) (v := ?_) (a' := ?_) #[true, true, true, false, true, false, false, false, false, false, false, false, false, false, false, false, false, false, false, false] rfl rfl (by kernel_rfl) (fun _ _ _ h => h) (Or.inl ⟨by rfl, ?_⟩) ?_ ?_
                  rotate_left
                  · intro w'
                    go_simp
                    with_reducible rfl
                  rotate_left
                  · simp only [Act.put, List.setIfInBounds_toArray, List.set_cons_zero, List.set_cons_succ, i64_w, i32_w]
                    rfl
                  refine pure_ (i := 5) (N := some 123) (v := ?_) (a' := ?_) #[true, true, true, false, true, true, false, false, false, false, false, false, false, false, false, false, false, false, false, false] rfl rfl (by kernel_rfl) (fun _ _ _ h => h) (Or.inl ⟨by rfl, ?_⟩) ?_ ?_
                  rotate_left
                  · intro w'
                    go_simp
                    with_reducible rfl
                  rotate_left
                  · simp only [Act.put, List.setIfInBounds_toArray, List.set_cons_zero, List.set_cons_succ, i64_w, i32_w]
                    rfl
                  refine pure_ (i := 6) (N := some 124) (v := ?_) (a' := ?_) #[true, true, true, false, true, true, true, false, false, false, false, false, false, false, false, false, false, false, false, false] rfl rfl (by kernel_rfl) (fun _ _ _ h => h) (Or.inl ⟨by rfl, ?_⟩) ?_ ?_
                  rotate_left
                  · intro w'
                    go_simp
                    with_reducible rfl
                  rotate_left
                  · simp only [Act.put, List.setIfInBounds_toArray, List.set_cons_zero, List.set_cons_succ, i64_w, i32_w]
                    rfl
                  refine pure_ (i := 7) (N := some 125) (v := ?_) (a' := ?_) #[true, true, true, false, true, true, true, true, false, false, false, false, false, false, false, false, false, false, false, false] rfl rfl (by kernel_rfl) (fun _ _ _ h => h) (Or.inl ⟨by rfl, ?_⟩) ?_ ?_
                  rotate_left
                  · intro w'
                    go_simp
                    with_reducible rfl
                  rotate_left
                  · simp only [Act.put, List.setIfInBounds_toArray, List.set_cons_zero, List.set_cons_succ, i64_w, i32_w]
                    rfl
                  refine pure_ (i := 9) (N := some 127) (v := ?_) (a' := ?_) #[true, true, true, false, true, true, true, true, false, true, false, false, false, false, false, false, false, false, false, false] rfl rfl (by kernel_rfl) (fun _ _ _ h => h) (Or.inl ⟨by rfl, ?_⟩) ?_ ?_
                  rotate_left
                  · intro w'
                    go_simp
                    with_reducible rfl
                  rotate_left
                  · simp only [Act.put, List.setIfInBounds_toArray, List.set_cons_zero, List.set_cons_succ, i64_w, i32_w]
                    rfl
                  refine pure_ (i := 12) (N := some 130) (v := ?_) (a' := ?_) #[true, true, true, false, true, true, true, true, false, true, false, false, true, false, false, false, false, false, false, false] rfl rfl (by kernel_rfl) (fun _ _ _ h => h) (Or.inl ⟨by rfl, ?_⟩) ?_ ?_
                  rotate_left
                  · intro w'
                    go_simp
                    with_reducible rfl
                  rotate_left
                  · simp only [Act.put, List.setIfInBounds_toArray, List.set_cons_zero, List.set_cons_succ, i64_w, i32_w]
                    rfl
                  refine pure_ (i := 13) (N := some 131) (v := ?_) (a' := ?_) #[true, true, true, false, true, true, true, true, false, true, false, false, true, true, false, false, false, false, false, false] rfl rfl (by kernel_rfl) (fun _ _ _ h => h) (Or.inl ⟨by rfl, ?_⟩) ?_ ?_
                  rotate_left
                  · intro w'
                    go_simp
                    with_reducible rfl
                  rotate_left
                  · simp only [Act.put, List.setIfInBounds_toArray, List.set_cons_zero, List.set_cons_succ, i64_w, i32_w]
                    rfl
                  refine pure_ (i := 14) (N := some 132) (v := ?_) (a' := ?_) #[true, true, true, false, true, true, true, true, false, true, false, false, true, true, true, false, false, false, false, false] rfl rfl (by kernel_rfl) (fun _ _ _ h => h) (Or.inl ⟨by rfl, ?_⟩) ?_ ?_
                  rotate_left
                  · intro w'
                    go_simp
                    with_reducible rfl
                  rotate_left
                  · simp only [Act.put, List.setIfInBounds_toArray, List.set_cons_zero, List.set_cons_succ, i64_w, i32_w]
                    rfl
                  refine pure_ (i := 15) (N := some 133) (v := ?_) (a' := ?_) #[true, true, true, false, true, true, true, true, false, true, false, false, true, true, true, true, false, false, false, false] rfl rfl (by kernel_rfl) (fun _ _ _ h => h) (Or.inl ⟨by rfl, ?_⟩) ?_ ?_
                  rotate_left
                  · intro w'
                    go_simp
                    with_reducible rfl
                  rotate_left
                  · simp only [Act.put, List.setIfInBounds_toArray, List.set_cons_zero, List.set_cons_succ, i64_w, i32_w]
                    rfl
                  refine take_ (i := 3) (N := some 121) (v := ?_) (a' := ?_) #[true, true, true, true, true, true, true, true, false, true, false, false, true, true, true, true, false, false, false, false] rfl rfl (by kernel_rfl) (fun _ _ _ h => h) (Or.inl ⟨by rfl, ?_⟩) hHeld ?_ ?_
                  rotate_left
                  · rintro w' ⟨s0, s1, s2⟩
                    go_simp
                    with_reducible rfl
                  rotate_left
                  · simp only [Act.put, List.setIfInBounds_toArray, List.set_cons_zero, List.set_cons_succ, i64_w, i32_w]
                    rfl
                  refine take_ (i := 8) (N := some 126) (v := ?_) (a' := ?_) #[true, true, true, true, true, true, true, true, true, true, false, false, true, true, true, true, false, false, false, false] rfl rfl (by kernel_rfl) (fun _ _ _ h => h) (Or.inl ⟨by rfl, ?_⟩) hHeld ?_ ?_
                  rotate_left
                  · rintro w' ⟨s0, s1, s2⟩
                    go_simp
                    with_reducible rfl
                  rotate_left
                  · simp only [Act.put, List.setIfInBounds_toArray, List.set_cons_zero, List.set_cons_succ, i64_w, i32_w]
                    rfl
                  refine pure_ (i := 10) (N := some 128) (v := ?_) (a' := ?_) #[true, true, true, true, true, true, true, true, true, true, true, false, true, true, true, true, false, false, false, false] rfl rfl (by kernel_rfl) (fun _ _ _ h => h) (Or.inl ⟨by rfl, ?_⟩) ?_ ?_
                  rotate_left
                  · intro w'
                    go_simp
                    with_reducible rfl
                  rotate_left
                  · simp only [Act.put, List.setIfInBounds_toArray, List.set_cons_zero, List.set_cons_succ, i64_w, i32_w]
                    rfl
                  refine take_ (i := 11) (N := some 129) (v := ?_) (a' := ?_) #[true, true, true, true, true, true, true, true, true, true, true, true, true, true, true, true, false, false, false, false] rfl rfl (by kernel_rfl) (fun _ _ _ h => h) (Or.inl ⟨by rfl, ?_⟩) hHeld ?_ ?_
                  rotate_left
                  · rintro w' ⟨s0, s1, s2⟩
                    go_simp
                    with_reducible rfl
                  rotate_left
                  · simp only [Act.put, List.setIfInBounds_toArray, List.set_cons_zero, List.set_cons_succ, i64_w, i32_w]
                    rfl
                  refine take_ (i := 16) (N := some 134) (v := ?_) (a' := ?_) #[true, true, true, true, true, true, true, true, true, true, true, true, true, true, true, true, true, false, false, false] rfl rfl (by kernel_rfl) (fun _ _ _ h => h) (Or.inl ⟨by rfl, ?_⟩) hHeld ?_ ?_
                  rotate_left
                  · rintro w' ⟨s0, s1, s2⟩
                    go_simp
                    with_reducible rfl
                  rotate_left
                  · simp only [Act.put, List.setIfInBounds_toArray, List.set_cons_zero, List.set_cons_succ, i64_w, i32_w]
                    rfl
                  refine pure_ (i := 17) (N := some 135) (v := ?_) (a' := ?_) #[true, true, true, true, true, true, true, true, true, true, true, true, true, true, true, true, true, true, false, false] rfl rfl (by kernel_rfl) (fun _ _ _ h => h) (Or.inl ⟨by rfl, ?_⟩) ?_ ?_
                  rotate_left
                  · intro w'
                    go_simp
                    with_reducible rfl
                  rotate_left
                  · simp only [Act.put, List.setIfInBounds_toArray, List.set_cons_zero, List.set_cons_succ, i64_w, i32_w]
                    rfl
                  refine pure_ (i := 18) (N := some 136) (v := ?_) (a' := ?_) #[true, true, true, true, true, true, true, true, true, true, true, true, true, true, true, true, true, true, true, false] rfl rfl (by kernel_rfl) (fun _ _ _ h => h) (Or.inl ⟨by rfl, ?_⟩) ?_ ?_
                  rotate_left
                  · intro w'
                    go_simp
                    with_reducible rfl
                  rotate_left
                  · simp only [Act.put, List.setIfInBounds_toArray, List.set_cons_zero, List.set_cons_succ, i64_w, i32_w]
                    rfl
                  refine last_ (i := 19) (N := none) #[true, true, true, true, true, true, true, true, true, true, true, true, true, true, true, true, true, true, true, true] rfl rfl (by kernel_rfl) (by decide) (fun K hK => ?_)
                  refine skip_ (w1 := ?_) (by rfl) rfl ?_ ?_
                  rotate_left
                  · go_simp
                    rfl
                  refine hK.out _ _ ?_
                  clear hK K
                  refine done_ (by kernel_rfl) ?_
                  clear hHeld g2
                  have HT1 := Lib.hid (HT.out.set1 t (m ||| q))
                  have HB1 := Lib.hid (below_set1 HB.out (Kd.R_base HT.out.r1 gm (by simp [Value.ownBlock])) HBE.out t (.int .u64 ((m ||| q : Nat) : Int)))
                  clear HT HB
                  generalize w12.setCell ⟨gm, t, none⟩ (.int .u64 ((m ||| q : Nat) : Int)) = w13 at HT1 HB1 ⊢
                  obtain ⟨ad2, hae, q0, -⟩ := (HR.out.below HB1.out) t (by have := HC1.out; have := HE.out; have := HTE.out; omega)
                  injection hae with hae
                  subst hae
                  rw [HY.out] at q0
                  have kb : k ≤ 64 := by have := HK.out; have := HC1.out; omega
                  go_wp2
                  go_roundg k3
                  case measure => have := HK.out; omega
                  case rel => exact ⟨y, k + 1, f1, M1.set t (m ||| q), by go_num, by go_num, ⟨by have := HK.out; omega, by have := HK.out; omega, by omega⟩, ⟨HT1.out⟩, ⟨by rw [← HC2.out, HY.out], by have := HC.out.2; omega⟩, ⟨by rw [List.length_set]; exact HM1.out.1, set_lt M1 t _ HOL.out HM1.out.2⟩, ⟨HB1.out⟩⟩
                · have z1 : decide (0 ≤ z) = false := decide_eq_false cz
                  have hfin : M1 = climb (xs.take (j + 1)) q (j + 1) j (M ++ [0]) := by
                    rw [← HC.out.1]
                    cases f with
                    | zero => rfl
                    | succ f => unfold climb; rw [if_pos (by omega)]
                  have HF := Lib.hid hfin
                  clear hfin
                  by_cases ck : k ≤ j
                  · have k4 : decide ((k : Int) ≤ (j : Int)) = true := decide_eq_true (by omega)
                    have k5 : decide (k ≤ j) = true := decide_eq_true ck
                    go_wp2
                    go_roundg k1
                    case measure => have := HI.out; omega
                    case rel => exact ⟨j + 1, _, _, by go_num, ⟨by have := HI.out; omega, by have := HI.out; have := HC1.out; omega⟩, ⟨HS2.out⟩, ⟨by rw [HM2.out, ← HF.out, HD1.out]; exact HT.out⟩, ⟨HB.out⟩⟩
                  · have k4 : decide ((k : Int) ≤ (j : Int)) = false := decide_eq_false (by omega)
                    have k5 : decide (k ≤ j) = false := decide_eq_false ck
                    go_wp2
                    go_roundg k1
                    case measure => have := HI.out; omega
                    case rel => exact ⟨j + 1, _, _, by go_num, ⟨by have := HI.out; omega, by have := HI.out; have := HC1.out; omega⟩, ⟨HS2.out⟩, ⟨by rw [HM2.out, ← HF.out, HD1.out]; exact HT.out⟩, ⟨HB.out⟩⟩
        · have e0 : ((i : Int) == 0) = false := by simp; omega
          have e2 : decide (0 < (i : Int)) = true := decide_eq_true (by omega)
          have e3 : decide (0 < i) = true := decide_eq_true (by omega)
          have e4 : decide (x < 0) = false := decide_eq_false (by omega)
          have e5 : decide ((i : Int) ≤ x) = false := decide_eq_false (by omega)
          obtain ⟨t, rfl⟩ : ∃ t : Nat, x = (t : Int) := ⟨x.toNat, by omega⟩
          obtain ⟨y, hy⟩ : ∃ y, (dlN xs i).getD t 0 = y := ⟨_, rfl⟩
          have hyb := dlN_in xs qs i (stN_ok xs qs i HS.out) t (by omega)
          rw [hy] at hyb
          have HD1 : Hid (dlN xs (i + 1) = dlN xs i ++ [y + 1]) := Lib.hid (by show dlN xs i ++ [if 0 ≤ xs.getD i 0 then (dlN xs i).getD (xs.getD i 0).toNat 0 + 1 else (0 : Int)] = _; rw [HXX.out, if_pos (by omega), show ((t : Int)).toNat = t by omega, hy])
          have HY : Hid (t < (dlN xs i).length ∧ (dlN xs i).getD t 0 = y) := Lib.hid ⟨by rw [dlN_len]; omega, hy⟩
          obtain ⟨gd, cd, hvd, _, _, _⟩ := Kd.R_form HT.out.r2 (by rw [dlN_len]; omega)
          rw [dlN_len] at hvd
          subst hvd
          have T0 := Lib.hid s0
          have v0 : (0 ≤ (t : Int) ∧ (t : Int) < (i : Int)) = True := eq_true ⟨by omega, by omega⟩
          have v1 : ((t : Int) < (i : Int)) = True := eq_true (by omega)
          have v2 : ((t : Int)).toNat = t := by omega
          have v3 : wrap64 (y + 1) = y + 1 := by unfold wrap64; omega
          have v4 : IntKind.i64.wrap (y + 1) = y + 1 := by rw [IntKind.wrap_i64]; omega
          clear hy
          go_upto_region 11 with fail
          refine start_ (n := 13) (S := fun w' => w'.cell? ⟨b, 2, none⟩ = some (.slice (some ⟨gd, 0, none⟩) i cd) ∧ w'.cell? (ad.add (i * 2)) = some (.int .i64 (t : Int)) ∧ w'.cell? ⟨gd, t, none⟩ = some (.int .i64 y)) (ds := []) #[false, false, false, false, false, false, false, false, false, false, false, false, false] (by kernel_rfl) rfl rfl ⟨HT.out.c2, T0.out, ((HT.out.at2 t HY.out.1).1.trans (by rw [HY.out.2]))⟩ (fun hHeld => ?_)
          have n_ := Lib.hid HT.out.drew
          have n2_ := Lib.hid (below_drew1 HB.out)
          clear HT HB
          have HT := n_
          have HB := n2_
          clear n_ n2_
          generalize wr.drew = wy at HT HB hHeld ⊢
          refine pure_ (i := 0) (N := some 60) (v := ?_) (a' := ?_) #[true, false, false, false, false, false, false, false, false, false, false, false, false] rfl rfl (by kernel_rfl) (fun _ _ _ h => h) (Or.inl ⟨by rfl, ?_⟩) ?_ ?_
          rotate_left
          · intro w'
            go_simp
            with_reducible rfl
          rotate_left
          · simp only [Act.put, List.setIfInBounds_toArray, List.set_cons_zero, List.set_cons_succ, i64_w, i32_w]
            rfl
          refine pure_ (i := 1) (N := some 61) (v := ?_) (a' := ?_) #[true, true, false, false, false, false, false, false, false, false, false, false, false] rfl rfl (by kernel_rfl) (fun _ _ _ h => h) (Or.inl ⟨by rfl, ?_⟩) ?_ ?_
          rotate_left
          · intro w'
            go_simp
            with_reducible rfl
          rotate_left
          · simp only [Act.put, List.setIfInBounds_toArray, List.set_cons_zero, List.set_cons_succ, i64_w, i32_w]
            rfl
          refine pure_ (i := 2) (N := some 62) (v := ?_) (a' := ?_) #[true, true, true, false, false, false, false, false, false, false, false, false, false] rfl rfl (by kernel_rfl) (fun _ _ _ h => h) (Or.inl ⟨by rfl, ?_⟩) ?_ ?_
          rotate_left
          · intro w'
            go_simp
            with_reducible rfl
          rotate_left
          · simp only [Act.put, List.setIfInBounds_toArray, List.set_cons_zero, List.set_cons_succ, i64_w, i32_w]
            rfl
          refine pure_ (i := 4) (N := some 64) (v := ?_) (a' := ?_) #[true, true, true, false, true, false, false, false, false, false, false, false, false] rfl rfl (by kernel_rfl) (fun _ _ _ h => h) (Or.inl ⟨by rfl, ?_⟩) ?_ ?_
          rotate_left
          · intro w'
            go_simp
            with_reducible rfl
          rotate_left
          · simp only [Act.put, List.setIfInBounds_toArray, List.set_cons_zero, List.set_cons_succ, i64_w, i32_w]
            rfl
          refine pure_ (i := 5) (N := some 65) (v := ?_) (a' := ?_) #[true, true, true, false, true, true, false, false, false, false, false, false, false] rfl rfl (by kernel_rfl) (fun _ _ _ h => h) (Or.inl ⟨by rfl, ?_⟩) ?_ ?_
          rotate_left
          · intro w'
            go_simp
            with_reducible rfl
          rotate_left
          · simp only [Act.put, List.setIfInBounds_toArray, List.set_cons_zero, List.set_cons_succ, i64_w, i32_w]
            rfl
          refine pure_ (i := 6) (N := some 66) (v := ?_) (a' := ?_) #[true, true, true, false, true, true, true, false, false, false, false, false, false] rfl rfl (by kernel_rfl) (fun _ _ _ h => h) (Or.inl ⟨by rfl, ?_⟩) ?_ ?_
          rotate_left
          · intro w'
            go_simp
            with_reducible rfl
          rotate_left
          · simp only [Act.put, List.setIfInBounds_toArray, List.set_cons_zero, List.set_cons_succ, i64_w, i32_w]
            rfl
          refine pure_ (i := 7) (N := some 67) (v := ?_) (a' := ?_) #[true, true, true, false, true, true, true, true, false, false, false, false, false] rfl rfl (by kernel_rfl) (fun _ _ _ h => h) (Or.inl ⟨by rfl, ?_⟩) ?_ ?_
          rotate_left
          · intro w'
            go_simp
            with_reducible rfl
          rotate_left
          · simp only [Act.put, List.setIfInBounds_toArray, List.set_cons_zero, List.set_cons_succ, i64_w, i32_w]
            rfl
          refine take_ (i := 3) (N := some 63) (v := ?_) (a' := ?_) #[true, true, true, true, true, true, true, true, false, false, false, false, false] rfl rfl (by kernel_rfl) (fun _ _ _ h => h) (Or.inl ⟨by rfl, ?_⟩) hHeld ?_ ?_
          rotate_left
          · rintro w' ⟨s0, s1, s2⟩
            go_simp
            with_reducible rfl
          rotate_left
          · simp only [Act.put, List.setIfInBounds_toArray, List.set_cons_zero, List.set_cons_succ, i64_w, i32_w]
            rfl
          refine take_ (i := 8) (N := some 68) (v := ?_) (a' := ?_) #[true, true, true, true, true, true, true, true, true, false, false, false, false] rfl rfl (by kernel_rfl) (fun _ _ _ h => h) (Or.inl ⟨by rfl, ?_⟩) hHeld ?_ ?_
          rotate_left
          · rintro w' ⟨s0, s1, s2⟩
            go_simp
            with_reducible rfl
          rotate_left
          · simp only [Act.put, List.setIfInBounds_toArray, List.set_cons_zero, List.set_cons_succ, i64_w, i32_w]
            rfl
          refine pure_ (i := 9) (N := some 69) (v := ?_) (a' := ?_) #[true, true, true, true, true, true, true, true, true, true, false, false, false] rfl rfl (by kernel_rfl) (fun _ _ _ h => h) (Or.inl ⟨by rfl, ?_⟩) ?_ ?_
          rotate_left
          · intro w'
            go_simp
            with_reducible rfl
          rotate_left
          · simp only [Act.put, List.setIfInBounds_toArray, List.set_cons_zero, List.set_cons_succ, i64_w, i32_w]
            rfl
          refine take_ (i := 10) (N := some 70) (v := ?_) (a' := ?_) #[true, true, true, true, true, true, true, true, true, true, true, false, false] rfl rfl (by kernel_rfl) (fun _ _ _ h => h) (Or.inl ⟨by rfl, ?_⟩) hHeld ?_ ?_
          rotate_left
          · rintro w' ⟨s0, s1, s2⟩
            go_simp
            with_reducible rfl
          rotate_left
          · simp only [Act.put, List.setIfInBounds_toArray, List.set_cons_zero, List.set_cons_succ, i64_w, i32_w]
            rfl
          refine pure_ (i := 11) (N := some 71) (v := ?_) (a' := ?_) #[true, true, true, true, true, true, true, true, true, true, true, true, false] rfl rfl (by kernel_rfl) (fun _ _ _ h => h) (Or.inl ⟨by rfl, ?_⟩) ?_ ?_
          rotate_left
          · intro w'
            go_simp
            with_reducible rfl
          rotate_left
          · simp only [Act.put, List.setIfInBounds_toArray, List.set_cons_zero, List.set_cons_succ, i64_w, i32_w]
            rfl
          refine pure_ (i := 12) (N := some 6) (v := ?_) (a' := ?_) #[true, true, true, true, true, true, true, true, true, true, true, true, true] rfl rfl (by kernel_rfl) (fun _ _ _ h => h) (Or.inl ⟨by rfl, ?_⟩) ?_ ?_
          rotate_left
          · intro w'
            go_simp
            with_reducible rfl
          rotate_left
          · simp only [Act.put, List.setIfInBounds_toArray, List.set_cons_zero, List.set_cons_succ, i64_w, i32_w]
            rfl
          refine done_ (by kernel_rfl) ?_
          clear hHeld
          go_wp2
          go_loopg [7] (n + 1) (fun kq v7 w' => ∃ (j : Nat), v7 = .int .i64 j ∧ Aside0 (j + kq = n + 1 ∧ j ≤ i) ∧ Aside0 (∀ u, u < j → qs.getD u 0 &&& q = 0) ∧ Aside0 (PP w' b (some ad) n c vm (.slice (some ⟨gd, 0, none⟩) i cd) (mlN xs qs i) (dlN xs i)) ∧ Aside0 (Below w.heap.size w w'))
          case atStart => exact ⟨0, rfl, ⟨by have := HI.out; omega, by omega⟩, ⟨fun u hu => absurd hu (by omega)⟩, ⟨HT.out⟩, ⟨HB.out⟩⟩
          case round =>
            clear HT HB
            obtain ⟨j, rfl, HJ, HZ, HT, HB⟩ := hrel
            obtain ⟨k2, rfl⟩ : ∃ k2, gk = k2 + 1 := ⟨gk - 1, by have := HJ.out; have := HC1.out; omega⟩
            by_cases cj : j < i
            · have j1 : decide ((j : Int) < (i : Int)) = true := decide_eq_true (by omega)
              have j2 : decide (j < i) = true := decide_eq_true cj
              have HCJ := Lib.hid cj
              obtain ⟨ad2, hae, -, t1⟩ := (HR.out.below HB.out) j (by have := HC1.out; omega)
              injection hae with hae
              subst hae
              obtain ⟨ad3, hae, -, t2⟩ := (HR.out.below HB.out) i HC1.out
              injection hae with hae
              subst hae
              rw [HQQ.out] at t2
              obtain ⟨p, hp⟩ : ∃ p, qs.getD j 0 = p := ⟨_, rfl⟩
              rw [hp] at t1
              have HP := Lib.hid hp
              have hpl := HQ.out j
              rw [hp] at hpl
              have band := bits_and_u64_nat p q hpl HQL.out
              have T1 := Lib.hid t1
              have T2 := Lib.hid t2
              clear t1 t2 hp hpl
              have j3 : (0 ≤ (j : Int) ∧ (j : Int) < (n : Int)) = True := eq_true ⟨by omega, by have := HC1.out; omega⟩
              have j4 : ((j : Int) < (n : Int)) = True := eq_true (by have := HC1.out; omega)
              have j5 : ((j : Int)).toNat = j := by omega
              by_cases cz : p &&& q = 0
              · have z2 := (eq_b _ cz).1
                go_upto_region 15 with fail
                refine start_ (n := 12) (S := fun w' => w'.cell? ⟨(ad.add (j * 2)).block, (ad.add (j * 2)).off + 1, none⟩ = some (.int .u64 (p : Int)) ∧ w'.cell? ⟨(ad.add (i * 2)).block, (ad.add (i * 2)).off + 1, none⟩ = some (.int .u64 (q : Int))) (ds := []) #[false, false, false, false, false, false, false, false, false, false, false, false] (by kernel_rfl) rfl rfl ⟨T1.out, T2.out⟩ (fun hHeld => ?_)
                have n_ := Lib.hid HT.out.drew
                have n2_ := Lib.hid (below_drew1 HB.out)
                clear HT HB
                have HT := n_
                have HB := n2_
                clear n_ n2_
                generalize wr.drew = wz at HT HB hHeld ⊢
                refine pure_ (i := 0) (N := some 77) (v := ?_) (a' := ?_) #[true, false, false, false, false, false, false, false, false, false, false, false] rfl rfl (by kernel_rfl) (fun _ _ _ h => h) (Or.inl ⟨by rfl, ?_⟩) ?_ ?_
                rotate_left
                · intro w'
                  go_simp
                  with_reducible rfl
                rotate_left
                · simp only [Act.put, List.setIfInBounds_toArray, List.set_cons_zero, List.set_cons_succ, i64_w, i32_w]
                  rfl
                refine pure_ (i := 1) (N := some 78) (v := ?_) (a' := ?_) #[true, true, false, false, false, false, false, false, false, false, false, false] rfl rfl (by kernel_rfl) (fun _ _ _ h => h) (Or.inl ⟨by rfl, ?_⟩) ?_ ?_
                rotate_left
                · intro w'
                  go_simp
                  with_reducible rfl
                rotate_left
                · simp only [Act.put, List.setIfInBounds_toArray, List.set_cons_zero, List.set_cons_succ, i64_w, i32_w]
                  rfl
                refine pure_ (i := 2) (N := some 79) (v := ?_) (a' := ?_) #[true, true, true, false, false, false, false, false, false, false, false, false] rfl rfl (by kernel_rfl) (fun _ _ _ h => h) (Or.inl ⟨by rfl, ?_⟩) ?_ ?_
                rotate_left
                · intro w'
                  go_simp
                  with_reducible rfl
                rotate_left
                · simp only [Act.put, List.setIfInBounds_toArray, List.set_cons_zero, List.set_cons_succ, i64_w, i32_w]
                  rfl
                refine pure_ (i := 3) (N := some 80) (v := ?_) (a' := ?_) #[true, true, true, true, false, false, false, false, false, false, false, false] rfl rfl (by kernel_rfl) (fun _ _ _ h => h) (Or.inl ⟨by rfl, ?_⟩) ?_ ?_
                rotate_left
                · intro w'
                  go_simp
                  with_reducible rfl
                rotate_left
                · simp only [Act.put, List.setIfInBounds_toArray, List.set_cons_zero, List.set_cons_succ, i64_w, i32_w]
                  rfl
                refine pure_ (i := 5) (N := some 82) (v := ?_) (a' := ?_) #[true, true, true, true, false, true, false, false, false, false, false, false] rfl rfl (by kernel_rfl) (fun _ _ _ h => h) (Or.inl ⟨by rfl, ?_⟩) ?_ ?_
                rotate_left
                · intro w'
                  go_simp
                  with_reducible rfl
                rotate_left
                · simp only [Act.put, List.setIfInBounds_toArray, List.set_cons_zero, List.set_cons_succ, i64_w, i32_w]
                  rfl
                refine pure_ (i := 6) (N := some 83) (v := ?_) (a' := ?_) #[true, true, true, true, false, true, true, false, false, false, false, false] rfl rfl (by kernel_rfl) (fun _ _ _ h => h) (Or.inl ⟨by rfl, ?_⟩) ?_ ?_
                rotate_left
                · intro w'
                  go_simp
                  with_reducible rfl
                rotate_left
                · simp only [Act.put, List.setIfInBounds_toArray, List.set_cons_zero, List.set_cons_succ, i64_w, i32_w]
                  rfl
                refine pure_ (i := 7) (N := some 84) (v := ?_) (a' := ?_) #[true, true, true, true, false, true, true, true, false, false, false, false] rfl rfl (by kernel_rfl) (fun _ _ _ h => h) (Or.inl ⟨by rfl, ?_⟩) ?_ ?_
                rotate_left
                · intro w'
                  go_simp
                  with_reducible rfl
                rotate_left
                · simp only [Act.put, List.setIfInBounds_toArray, List.set_cons_zero, List.set_cons_succ, i64_w, i32_w]
                  rfl
                refine pure_ (i := 8) (N := some 85) (v := ?_) (a' := ?_) #[true, true, true, true, false, true, true, true, true, false, false, false] rfl rfl (by kernel_rfl) (fun _ _ _ h => h) (Or.inl ⟨by rfl, ?_⟩) ?_ ?_
                rotate_left
                · intro w'
                  go_simp
                  with_reducible rfl
                rotate_left
                · simp only [Act.put, List.setIfInBounds_toArray, List.set_cons_zero, List.set_cons_succ, i64_w, i32_w]
                  rfl
                refine take_ (i := 4) (N := some 81) (v := ?_) (a' := ?_) #[true, true, true, true, true, true, true, true, true, false, false, false] rfl rfl (by kernel_rfl) (fun _ _ _ h => h) (Or.inl ⟨by rfl, ?_⟩) hHeld ?_ ?_
                rotate_left
                · rintro w' ⟨s0, s1⟩
                  go_simp
                  with_reducible rfl
                rotate_left
                · simp only [Act.put, List.setIfInBounds_toArray, List.set_cons_zero, List.set_cons_succ, i64_w, i32_w]
                  rfl
                refine take_ (i := 9) (N := some 86) (v := ?_) (a' := ?_) #[true, true, true, true, true, true, true, true, true, true, false, false] rfl rfl (by kernel_rfl) (fun _ _ _ h => h) (Or.inl ⟨by rfl, ?_⟩) hHeld ?_ ?_
                rotate_left
                · rintro w' ⟨s0, s1⟩
                  go_simp
                  with_reducible rfl
                rotate_left
                · simp only [Act.put, List.setIfInBounds_toArray, List.set_cons_zero, List.set_cons_succ, i64_w, i32_w]
                  rfl
                refine pure_ (i := 10) (N := some 87) (v := ?_) (a' := ?_) #[true, true, true, true, true, true, true, true, true, true, true, false] rfl rfl (by kernel_rfl) (fun _ _ _ h => h) (Or.inl ⟨by rfl, ?_⟩) ?_ ?_
                rotate_left
                · intro w'
                  go_simp
                  with_reducible rfl
                rotate_left
                · simp only [Act.put, List.setIfInBounds_toArray, List.set_cons_zero, List.set_cons_succ, i64_w, i32_w]
                  rfl
                refine pure_ (i := 11) (N := some 88) (v := ?_) (a' := ?_) #[true, true, true, true, true, true, true, true, true, true, true, true] rfl rfl (by kernel_rfl) (fun _ _ _ h => h) (Or.inl ⟨by rfl, ?_⟩) ?_ ?_
                rotate_left
                · intro w'
                  go_simp
                  with_reducible rfl
                rotate_left
                · simp only [Act.put, List.setIfInBounds_toArray, List.set_cons_zero, List.set_cons_succ, i64_w, i32_w]
                  rfl
                refine done_ (by kernel_rfl) ?_
                clear hHeld
                go_wp2
                go_roundg k2
                case measure => have := HJ.out; omega
                case rel => exact ⟨j + 1, by go_num, ⟨by have := HJ.out; omega, by have := HCJ.out; omega⟩, ⟨fun u hu => by
                    by_cases euj : u = j
                    · rw [euj, HP.out]; exact cz
                    · exact HZ.out u (by omega)⟩, ⟨HT.out⟩, ⟨HB.out⟩⟩
              · have z2 := (neq_b _ cz).1
                have HSN : Hid (stN xs qs n = 13) := Lib.hid (by
                  have hne : ¬ (q &&& allQ qs i = 0) := fun h0 => cz (by have := (allQ_zero qs q i).1 h0 j HCJ.out; rw [HP.out] at this; exact this)
                  rw [stN_stays xs qs (i + 1) n (by have := HC1.out; omega) (by rw [HSC.out, if_pos cok, if_neg hne]; decide), HSC.out, if_pos cok, if_neg hne])
                go_upto_region 15 with fail
                refine start_ (n := 12) (S := fun w' => w'.cell? ⟨(ad.add (j * 2)).block, (ad.add (j * 2)).off + 1, none⟩ = some (.int .u64 (p : Int)) ∧ w'.cell? ⟨(ad.add (i * 2)).block, (ad.add (i * 2)).off + 1, none⟩ = some (.int .u64 (q : Int))) (ds := []) #[false, false, false, false, false, false, false, false, false, false, false, false] (by kernel_rfl) rfl rfl ⟨T1.out, T2.out⟩ (fun hHeld => ?_)
                have n_ := Lib.hid HT.out.drew
                have n2_ := Lib.hid (below_drew1 HB.out)
                clear HT HB
                have HT := n_
                have HB := n2_
                clear n_ n2_
                generalize wr.drew = wz at HT HB hHeld ⊢
                refine pure_ (i := 0) (N := some 77) (v := ?_) (a' := ?_) #[true, false, false, false, false, false, false, false, false, false, false, false] rfl rfl (by kernel_rfl) (fun _ _ _ h => h) (Or.inl ⟨by rfl, ?_⟩) ?_ ?_
                rotate_left
                · intro w'
                  go_simp
                  with_reducible rfl
                rotate_left
                · simp only [Act.put, List.setIfInBounds_toArray, List.set_cons_zero, List.set_cons_succ, i64_w, i32_w]
                  rfl
                refine pure_ (i := 1) (N := some 78) (v := ?_) (a' := ?_) #[true, true, false, false, false, false, false, false, false, false, false, false] rfl rfl (by kernel_rfl) (fun _ _ _ h => h) (Or.inl ⟨by rfl, ?_⟩) ?_ ?_
                rotate_left
                · intro w'
                  go_simp
                  with_reducible rfl
                rotate_left
                · simp only [Act.put, List.setIfInBounds_toArray, List.set_cons_zero, List.set_cons_succ, i64_w, i32_w]
                  rfl
                refine pure_ (i := 2) (N := some 79) (v := ?_) (a' := ?_) #[true, true, true, false, false, false, false, false, false, false, false, false] rfl rfl (by kernel_rfl) (fun _ _ _ h => h) (Or.inl ⟨by rfl, ?_⟩) ?_ ?_
                rotate_left
                · intro w'
                  go_simp
                  with_reducible rfl
                rotate_left
                · simp only [Act.put, List.setIfInBounds_toArray, List.set_cons_zero, List.set_cons_succ, i64_w, i32_w]
                  rfl
                refine pure_ (i := 3) (N := some 80) (v := ?_) (a' := ?_) #[true, true, true, true, false, false, false, false, false, false, false, false] rfl rfl (by kernel_rfl) (fun _ _ _ h => h) (Or.inl ⟨by rfl, ?_⟩) ?_ ?_
                rotate_left
                · intro w'
                  go_simp
                  with_reducible rfl
                rotate_left
                · simp only [Act.put, List.setIfInBounds_toArray, List.set_cons_zero, List.set_cons_succ, i64_w, i32_w]
                  rfl
                refine pure_ (i := 5) (N := some 82) (v := ?_) (a' := ?_) #[true, true, true, true, false, true, false, false, false, false, false, false] rfl rfl (by kernel_rfl) (fun _ _ _ h => h) (Or.inl ⟨by rfl, ?_⟩) ?_ ?_
                rotate_left
                · intro w'
                  go_simp
                  with_reducible rfl
                rotate_left
                · simp only [Act.put, List.setIfInBounds_toArray, List.set_cons_zero, List.set_cons_succ, i64_w, i32_w]
                  rfl
                refine pure_ (i := 6) (N := some 83) (v := ?_) (a' := ?_) #[true, true, true, true, false, true, true, false, false, false, false, false] rfl rfl (by kernel_rfl) (fun _ _ _ h => h) (Or.inl ⟨by rfl, ?_⟩) ?_ ?_
                rotate_left
                · intro w'
                  go_simp
                  with_reducible rfl
                rotate_left
                · simp only [Act.put, List.setIfInBounds_toArray, List.set_cons_zero, List.set_cons_succ, i64_w, i32_w]
                  rfl
                refine pure_ (i := 7) (N := some 84) (v := ?_) (a' := ?_) #[true, true, true, true, false, true, true, true, false, false, false, false] rfl rfl (by kernel_rfl) (fun _ _ _ h => h) (Or.inl ⟨by rfl, ?_⟩) ?_ ?_
                rotate_left
                · intro w'
                  go_simp
                  with_reducible rfl
                rotate_left
                · simp only [Act.put, List.setIfInBounds_toArray, List.set_cons_zero, List.set_cons_succ, i64_w, i32_w]
                  rfl
                refine pure_ (i := 8) (N := some 85) (v := ?_) (a' := ?_) #[true, true, true, true, false, true, true, true, true, false, false, false] rfl rfl (by kernel_rfl) (fun _ _ _ h => h) (Or.inl ⟨by rfl, ?_⟩) ?_ ?_
                rotate_left
                · intro w'
                  go_simp
                  with_reducible rfl
                rotate_left
                · simp only [Act.put, List.setIfInBounds_toArray, List.set_cons_zero, List.set_cons_succ, i64_w, i32_w]
                  rfl
                refine take_ (i := 4) (N := some 81) (v := ?_) (a' := ?_) #[true, true, true, true, true, true, true, true, true, false, false, false] rfl rfl (by kernel_rfl) (fun _ _ _ h => h) (Or.inl ⟨by rfl, ?_⟩) hHeld ?_ ?_
                rotate_left
                · rintro w' ⟨s0, s1⟩
                  go_simp
                  with_reducible rfl
                rotate_left
                · simp only [Act.put, List.setIfInBounds_toArray, List.set_cons_zero, List.set_cons_succ, i64_w, i32_w]
                  rfl
                refine take_ (i := 9) (N := some 86) (v := ?_) (a' := ?_) #[true, true, true, true, true, true, true, true, true, true, false, false] rfl rfl (by kernel_rfl) (fun _ _ _ h => h) (Or.inl ⟨by rfl, ?_⟩) hHeld ?_ ?_
                rotate_left
                · rintro w' ⟨s0, s1⟩
                  go_simp
                  with_reducible rfl
                rotate_left
                · simp only [Act.put, List.setIfInBounds_toArray, List.set_cons_zero, List.set_cons_succ, i64_w, i32_w]
                  rfl
                refine pure_ (i := 10) (N := some 87) (v := ?_) (a' := ?_) #[true, true, true, true, true, true, true, true, true, true, true, false] rfl rfl (by kernel_rfl) (fun _ _ _ h => h) (Or.inl ⟨by rfl, ?_⟩) ?_ ?_
                rotate_left
                · intro w'
                  go_simp
                  with_reducible rfl
                rotate_left
                · simp only [Act.put, List.setIfInBounds_toArray, List.set_cons_zero, List.set_cons_succ, i64_w, i32_w]
                  rfl
                refine pure_ (i := 11) (N := some 88) (v := ?_) (a' := ?_) #[true, true, true, true, true, true, true, true, true, true, true, true] rfl rfl (by kernel_rfl) (fun _ _ _ h => h) (Or.inl ⟨by rfl, ?_⟩) ?_ ?_
                rotate_left
                · intro w'
                  go_simp
                  with_reducible rfl
                rotate_left
                · simp only [Act.put, List.setIfInBounds_toArray, List.set_cons_zero, List.set_cons_succ, i64_w, i32_w]
                  rfl
                refine done_ (by kernel_rfl) ?_
                clear hHeld
                go_wp2
                go_ret2
                exact ⟨HB.out, .inl ⟨by rw [HSN.out]; decide, by rw [HSN.out] <;> rfl⟩⟩
            · have j1 : decide ((j : Int) < (i : Int)) = false := decide_eq_false (by omega)
              have j2 : decide (j < i) = false := decide_eq_false cj
              obtain rfl : j = i := by have := HJ.out; omega
              have HS2 : Hid (stN xs qs (j + 1) = 0) := Lib.hid (by rw [HSC.out, if_pos cok, if_pos ((allQ_zero qs q j).2 HZ.out)])
              have HMI : Hid (∀ u, (mlN xs qs j).getD u 0 < 18446744073709551616) := Lib.hid (mlN_lt xs qs HQ.out j)
              have HML : Hid ((mlN xs qs j).length = j) := Lib.hid (mlN_len xs qs j)
              have HDL : Hid ((dlN xs j).length = j) := Lib.hid (dlN_len xs j)
              have HM2 : Hid (mlN xs qs (j + 1) = climb (xs.take (j + 1)) q (j + 1) j (mlN xs qs j ++ [0])) := Lib.hid (by rw [← HQQ.out]; rfl)
              obtain ⟨M, hMM⟩ : ∃ M, mlN xs qs j = M := ⟨_, rfl⟩
              obtain ⟨D, hDD⟩ : ∃ D, dlN xs j = D := ⟨_, rfl⟩
              rw [hMM] at HT HMI HML HM2
              rw [hDD] at HT HDL HD1
              clear hMM hDD
              have c2 := HT.out.c2
              have f2 := HT.out.f2
              obtain ⟨A1, q1, hv1⟩ := Kd.R_slice HT.out.r1
              have hl1 : (Sets.nums M).length = j := by simp [Sets.nums, HML.out]
              have HL1 := Lib.hid hl1
              rw [hl1] at hv1
              subst hv1
              clear hl1
              go_upto_region 18 with ((with_reducible refine gate_builtin (b := .append) (xs := #[.tmp 93, .tmp 95]) rfl ?_); at_builtin; go_loud (refine Kd.R_append (Kd.int .i64) (w0 := ?wzya) (b + 1) rfl (.tmp 93) (.tmp 95) 30 3 (.int .i64 0) 8 rfl Tryd.underlying30 info_int rfl (by decide) (by omega) _ D (y + 1) [.int .i64 (y + 1)] (fun _ => True) (fun _ => False) rfl rfl ?aPya (fun _ hk => hk.elim) ?aFya ?aOya ?aBya ?aSya ?aLya ?_; (case aPya => exact rfl); (case aBya => exact Below.refl _ _); (case aFya => exact (fun _ _ => trivial)); (case aOya => exact HT.out.r2); (case aSya => exact HT.out.lt); (case aLya => have := HC1.out; have := HDL.out; have := HL1.out; omega); intro v3 w10 ho hb hg hat; obtain ⟨A8, k8, hv9⟩ := Kd.R_slice ho; rw [List.length_append, HDL.out, List.length_singleton] at hv9; subst hv9; have HT4 := Lib.hid (HT.out.app2 ho hb hg); have HB4 := Lib.hid (below_app HB.out HBE.out hb (.slice A8 (j + 1) k8) 2); have c2' := (World.cell?_of_block (a := ⟨b, 2, none⟩) (hb.block b (Nat.lt_succ_self b))).trans c2; have f2' := (World.frozen?_of_block (a := ⟨b, 2, none⟩) (hb.block b (Nat.lt_succ_self b))).trans f2; clear c2 f2 HT HB ho hb hg hat))
              clear c2' f2'
              have HT := HT4
              have HB := HB4
              clear HT4 HB4
              generalize w10.setCell ⟨b, 2, none⟩ (.slice A8 (j + 1) k8) = w11 at HT HB ⊢
              have c1 := HT.out.c1
              have f1 := HT.out.f1
              go_upto_region 19 with ((with_reducible refine gate_builtin (b := .append) (xs := #[.tmp 103, .tmp 104]) rfl ?_); at_builtin; go_loud (refine Kd.R_append (Kd.int .u64) (w0 := ?wzyb) (b + 1) rfl (.tmp 103) (.tmp 104) 36 23 (.int .u64 0) 8 rfl Tryd.underlying36 info_set rfl (by decide) (by omega) _ (Sets.nums M) ((0 : Nat) : Int) [.int .u64 0] (fun _ => True) (fun _ => False) rfl rfl ?aPyb (fun _ hk => hk.elim) ?aFyb ?aOyb ?aByb ?aSyb ?aLyb ?_; (case aPyb => exact rfl); (case aByb => exact Below.refl _ _); (case aFyb => exact (fun _ _ => trivial)); (case aOyb => exact HT.out.r1); (case aSyb => exact HT.out.lt); (case aLyb => have := HC1.out; have := HDL.out; have := HL1.out; omega); intro v3 w10 ho hb hg hat; obtain ⟨A9, k9, hv9⟩ := Kd.R_slice ho; rw [List.length_append, HL1.out, List.length_singleton] at hv9; subst hv9; have HT4 := Lib.hid (HT.out.app1 ho hb hg); have HB4 := Lib.hid (below_app HB.out HBE.out hb (.slice A9 (j + 1) k9) 1); have c1' := (World.cell?_of_block (a := ⟨b, 1, none⟩) (hb.block b (Nat.lt_succ_self b))).trans c1; have f1' := (World.frozen?_of_block (a := ⟨b, 1, none⟩) (hb.block b (Nat.lt_succ_self b))).trans f1; clear c1 f1 HT HB ho hb hg hat))
              clear c1' f1'
              have HT := HT4
              have HB := HB4
              clear HT4 HB4
              generalize w10.setCell ⟨b, 1, none⟩ (.slice A9 (j + 1) k9) = w11 at HT HB ⊢
              obtain ⟨gm, km, hvm, _, _, _⟩ := Kd.R_form HT.out.r1 (by simp [Sets.nums])
              injection hvm with u1 u2 u3
              subst u1
              clear u2 u3
              obtain ⟨e, he⟩ : ∃ e, j + 1 = e := ⟨_, rfl⟩
              rw [he] at HT
              have HE := Lib.hid he
              have HMN : Hid ((M ++ [0]).length = e) := Lib.hid (by rw [List.length_append, List.length_singleton, HML.out]; exact he)
              have HMB : Hid (∀ u, (M ++ [0]).getD u 0 < 18446744073709551616) := Lib.hid (zero_more M HMI.out)
              have HOA : Hid (∀ t, t < e → -1 ≤ xs.getD t 0 ∧ xs.getD t 0 < (t : Int)) := Lib.hid (fun t ht => okAt_in xs t (stN_ok xs qs (j + 1) HS2.out t (by omega)))
              clear he HMI HML HDL HL1
              go_wp2
              go_loopg [8, 9] (j + 3) (fun kq v8 v9 w' => ∃ (z : Int) (k f : Nat) (M1 : List Nat), v8 = .int .i64 z ∧ v9 = .int .i64 k ∧ Aside0 (k + kq = j + 3 ∧ z + k ≤ j ∧ -1 ≤ z) ∧ Aside0 (PP w' b (some ad) n c (.slice (some ⟨gm, 0, none⟩) e k9) (.slice A8 e k8) M1 (D ++ [(y + 1)])) ∧ Aside0 (climb (xs.take (j + 1)) q f z M1 = climb (xs.take (j + 1)) q (j + 1) j (M ++ [0]) ∧ z + 1 ≤ (f : Int)) ∧ Aside0 (M1.length = e ∧ ∀ u, M1.getD u 0 < 18446744073709551616) ∧ Aside0 (Below w.heap.size w w'))
              case atStart => exact ⟨j, 0, j + 1, M ++ [0], rfl, rfl, ⟨by omega, by omega, by omega⟩, ⟨HT.out⟩, ⟨rfl, by omega⟩, ⟨HMN.out, HMB.out⟩, ⟨HB.out⟩⟩
              case round =>
                clear HT HB HMN HMB
                obtain ⟨z, k, f, M1, rfl, rfl, HK, HT, HC, HM1, HB⟩ := hrel
                obtain ⟨k3, rfl⟩ : ∃ k3, gk = k3 + 1 := ⟨gk - 1, by have := HK.out; omega⟩
                by_cases cz : 0 ≤ z
                · have z1 : decide (0 ≤ z) = true := decide_eq_true cz
                  obtain ⟨t, rfl⟩ : ∃ t : Nat, z = (t : Int) := ⟨z.toNat, by omega⟩
                  obtain ⟨f1, rfl⟩ : ∃ f1, f = f1 + 1 := ⟨f - 1, by have := HC.out.2; omega⟩
                  have hte : t < e := by have := HK.out; have := HE.out; omega
                  have HTE := Lib.hid hte
                  have k4 : decide ((k : Int) ≤ (j : Int)) = true := decide_eq_true (by have := HK.out; omega)
                  have k5 : decide (k ≤ j) = true := decide_eq_true (by have := HK.out; omega)
                  obtain ⟨ad2, hae, t0, -⟩ := (HR.out.below HB.out) t (by have := HC1.out; have := HE.out; omega)
                  injection hae with hae
                  subst hae
                  obtain ⟨ad3, hae, -, t2⟩ := (HR.out.below HB.out) j HC1.out
                  injection hae with hae
                  subst hae
                  rw [HQQ.out] at t2
                  obtain ⟨m, hm⟩ : ∃ m, M1.getD t 0 = m := ⟨_, rfl⟩
                  have hmb := HM1.out.2 t
                  rw [hm] at hmb
                  have hor := bits_or_u64_nat m q hmb HQL.out
                  have HMM : Hid (t < M1.length ∧ M1.getD t 0 = m) := Lib.hid ⟨by rw [HM1.out.1]; exact hte, hm⟩
                  have HOL := Lib.hid (or_lt m q hmb HQL.out)
                  have hc := HC.out.1
                  rw [climb_step, hm, take_at xs j t (by have := HE.out; omega)] at hc
                  have HC2 := Lib.hid hc
                  obtain ⟨y, hy⟩ : ∃ y, xs.getD t 0 = y := ⟨_, rfl⟩
                  have hyb := HOA.out t hte
                  rw [hy] at hyb t0
                  have HY := Lib.hid hy
                  have T0 := Lib.hid t0
                  have T2 := Lib.hid t2
                  have v0 : (0 ≤ (t : Int) ∧ (t : Int) < (e : Int)) = True := eq_true ⟨by omega, by omega⟩
                  have v1 : ((t : Int) < (e : Int)) = True := eq_true (by omega)
                  have v2 : ((t : Int)).toNat = t := by omega
                  have v3 : (0 ≤ (t : Int) ∧ (t : Int) < (n : Int)) = True := eq_true ⟨by omega, by have := HC1.out; have := HE.out; omega⟩
                  have v4 : ((t : Int) < (n : Int)) = True := eq_true (by have := HC1.out; have := HE.out; omega)
                  clear hm hc hy hmb t0 t2 hte
                  go_upto_region 23 with fail
                  refine start_ (n := 20) (S := fun w' => w'.cell? ⟨b, 1, none⟩ = some (.slice (some ⟨gm, 0, none⟩) e k9) ∧ w'.cell? ⟨(ad.add (j * 2)).block, (ad.add (j * 2)).off + 1, none⟩ = some (.int .u64 (q : Int)) ∧ w'.cell? ⟨gm, t, none⟩ = some (.int .u64 (m : Int))) (ds := [19]) #[false, false, false, false, false, false, false, false, false, false, false, false, false, false, false, false, false, false, false, false] (by kernel_rfl) rfl rfl ⟨HT.out.c1, T2.out, ((HT.out.at1 t HMM.out.1).1.trans (by rw [HMM.out.2]))⟩ (fun hHeld => ?_)
                  have n_ := Lib.hid HT.out.drew
                  have n2_ := Lib.hid (below_drew1 HB.out)
                  clear HT HB
                  have HT := n_
                  have HB := n2_
                  clear n_ n2_
                  generalize wr.drew = w12 at HT HB hHeld ⊢
                  have g2 := (HT.out.at1 t HMM.out.1).2
                  refine pure_ (i := 0) (N := some 118) (v := ?_) (a' := ?_) #[true, false, false, false, false, false, false, false, false, false, false, false, false, false, false, false, false, false, false, false] rfl rfl (by kernel_rfl) (fun _ _ _ h => h) (Or.inl ⟨by rfl, ?_⟩) ?_ ?_
                  rotate_left
                  · intro w'
                    go_simp
                    with_reducible rfl
                  rotate_left
                  · simp only [Act.put, List.setIfInBounds_toArray, List.set_cons_zero, List.set_cons_succ, i64_w, i32_w]
                    rfl
                  refine pure_ (i := 1) (N := some 119) (v := ?_) (a' := ?_) #[true, true, false, false, false, false, false, false, false, false, false, false, false, false, false, false, false, false, false, false] rfl rfl (by kernel_rfl) (fun _ _ _ h => h) (Or.inl ⟨by rfl, ?_⟩) ?_ ?_
                  rotate_left
                  · intro w'
                    go_simp
                    with_reducible rfl
                  rotate_left
                  · simp only [Act.put, List.setIfInBounds_toArray, List.set_cons_zero, List.set_cons_succ, i64_w, i32_w]
                    rfl
                  refine pure_ (i := 2) (N := some 120) (v := ?_) (a' := ?_) #[true, true, true, false, false, false, false, false, false, false, false, false, false, false, false, false, false, false, false, false] rfl rfl (by kernel_rfl) (fun _ _ _ h => h) (Or.inl ⟨by rfl, ?_⟩) ?_ ?_
                  rotate_left
                  · intro w'
                    go_simp
                    with_reducible rfl
                  rotate_left
                  · simp only [Act.put, List.setIfInBounds_toArray, List.set_cons_zero, List.set_cons_succ, i64_w, i32_w]
                    rfl
                  refine pure_ (i := 4) (N := some 122) (v := ?_) (a' := ?_) #[true, true, true, false, true, false, false, false, false, false, false, false, false, false, false, false, false, false, false, false] rfl rfl (by kernel_rfl) (fun _ _ _ h => h) (Or.inl ⟨by rfl, ?_⟩) ?_ ?_
                  rotate_left
                  · intro w'
                    go_simp
                    with_reducible rfl
                  rotate_left
                  · simp only [Act.put, List.setIfInBounds_toArray, List.set_cons_zero, List.set_cons_succ, i64_w, i32_w]
                    rfl
                  refine pure_ (i := 5) (N := some 123) (v := ?_) (a' := ?_) #[true, true, true, false, true, true, false, false, false, false, false, false, false, false, false, false, false, false, false, false] rfl rfl (by kernel_rfl) (fun _ _ _ h => h) (Or.inl ⟨by rfl, ?_⟩) ?_ ?_
                  rotate_left
                  · intro w'
                    go_simp
                    with_reducible rfl
                  rotate_left
                  · simp only [Act.put, List.setIfInBounds_toArray, List.set_cons_zero, List.set_cons_succ, i64_w, i32_w]
                    rfl
                  refine pure_ (i := 6) (N := some 124) (v := ?_) (a' := ?_) #[true, true, true, false, true, true, true, false, false, false, false, false, false, false, false, false, false, false, false, false] rfl rfl (by kernel_rfl) (fun _ _ _ h => h) (Or.inl ⟨by rfl, ?_⟩) ?_ ?_
                  rotate_left
                  · intro w'
                    go_simp
                    with_reducible rfl
                  rotate_left
                  · simp only [Act.put, List.setIfInBounds_toArray, List.set_cons_zero, List.set_cons_succ, i64_w, i32_w]
                    rfl
                  refine pure_ (i := 7) (N := some 125) (v := ?_) (a' := ?_) #[true, true, true, false, true, true, true, true, false, false, false, false, false, false, false, false, false, false, false, false] rfl rfl (by kernel_rfl) (fun _ _ _ h => h) (Or.inl ⟨by rfl, ?_⟩) ?_ ?_
                  rotate_left
                  · intro w'
                    go_simp
                    with_reducible rfl
                  rotate_left
                  · simp only [Act.put, List.setIfInBounds_toArray, List.set_cons_zero, List.set_cons_succ, i64_w, i32_w]
                    rfl
                  refine pure_ (i := 9) (N := some 127) (v := ?_) (a' := ?_) #[true, true, true, false, true, true, true, true, false, true, false, false, false, false, false, false, false, false, false, false] rfl rfl (by kernel_rfl) (fun _ _ _ h => h) (Or.inl ⟨by rfl, ?_⟩) ?_ ?_
                  rotate_left
                  · intro w'
                    go_simp
                    with_reducible rfl
                  rotate_left
                  · simp only [Act.put, List.setIfInBounds_toArray, List.set_cons_zero, List.set_cons_succ, i64_w, i32_w]
                    rfl
                  refine pure_ (i := 12) (N := some 130) (v := ?_) (a' := ?_) #[true, true, true, false, true, true, true, true, false, true, false, false, true, false, false, false, false, false, false, false] rfl rfl (by kernel_rfl) (fun _ _ _ h => h) (Or.inl ⟨by rfl, ?_⟩) ?_ ?_
                  rotate_left
                  · intro w'
                    go_simp
                    with_reducible rfl
                  rotate_left
                  · simp only [Act.put, List.setIfInBounds_toArray, List.set_cons_zero, List.set_cons_succ, i64_w, i32_w]
                    rfl
                  refine pure_ (i := 13) (N := some 131) (v := ?_) (a' := ?_) #[true, true, true, false, true, true, true, true, false, true, false, false, true, true, false, false, false, false, false, false] rfl rfl (by kernel_rfl) (fun _ _ _ h => h) (Or.inl ⟨by rfl, ?_⟩) ?_ ?_
                  rotate_left
                  · intro w'
                    go_simp
                    with_reducible rfl
                  rotate_left
                  · simp only [Act.put, List.setIfInBounds_toArray, List.set_cons_zero, List.set_cons_succ, i64_w, i32_w]
                    rfl
                  refine pure_ (i := 14) (N := some 132) (v := ?_) (a' := ?_) #[true, true, true, false, true, true, true, true, false, true, false, false, true, true, true, false, false, false, false, false] rfl rfl (by kernel_rfl) (fun _ _ _ h => h) (Or.inl ⟨by rfl, ?_⟩) ?_ ?_
                  rotate_left
                  · intro w'
                    go_simp
                    with_reducible rfl
                  rotate_left
                  · simp only [Act.put, List.setIfInBounds_toArray, List.set_cons_zero, List.set_cons_succ, i64_w, i32_w]
                    rfl
                  refine pure_ (i := 15) (N := some 133) (v := ?_) (a' := ?_) #[true, true, true, false, true, true, true, true, false, true, false, false, true, true, true, true, false, false, false, false] rfl rfl (by kernel_rfl) (fun _ _ _ h => h) (Or.inl ⟨by rfl, ?_⟩) ?_ ?_
                  rotate_left
                  · intro w'
                    go_simp
                    with_reducible rfl
                  rotate_left
                  · simp only [Act.put, List.setIfInBounds_toArray, List.set_cons_zero, List.set_cons_succ, i64_w, i32_w]
                    rfl
                  refine take_ (i := 3) (N := some 121) (v := ?_) (a' := ?_) #[true, true, true, true, true, true, true, true, false, true, false, false, true, true, true, true, false, false, false, false] rfl rfl (by kernel_rfl) (fun _ _ _ h => h) (Or.inl ⟨by rfl, ?_⟩) hHeld ?_ ?_
                  rotate_left
                  · rintro w' ⟨s0, s1, s2⟩
                    go_simp
                    with_reducible rfl
                  rotate_left
                  · simp only [Act.put, List.setIfInBounds_toArray, List.set_cons_zero, List.set_cons_succ, i64_w, i32_w]
                    rfl
                  refine take_ (i := 8) (N := some 126) (v := ?_) (a' := ?_) #[true, true, true, true, true, true, true, true, true, true, false, false, true, true, true, true, false, false, false, false] rfl rfl (by kernel_rfl) (fun _ _ _ h => h) (Or.inl ⟨by rfl, ?_⟩) hHeld ?_ ?_
                  rotate_left
                  · rintro w' ⟨s0, s1, s2⟩
                    go_simp
                    with_reducible rfl
                  rotate_left
                  · simp only [Act.put, List.setIfInBounds_toArray, List.set_cons_zero, List.set_cons_succ, i64_w, i32_w]
                    rfl
                  refine pure_ (i := 10) (N := some 128) (v := ?_) (a' := ?_) #[true, true, true, true, true, true, true, true, true, true, true, false, true, true, true, true, false, false, false, false] rfl rfl (by kernel_rfl) (fun _ _ _ h => h) (Or.inl ⟨by rfl, ?_⟩) ?_ ?_
                  rotate_left
                  · intro w'
                    go_simp
                    with_reducible rfl
                  rotate_left
                  · simp only [Act.put, List.setIfInBounds_toArray, List.set_cons_zero, List.set_cons_succ, i64_w, i32_w]
                    rfl
                  refine take_ (i := 11) (N := some 129) (v := ?_) (a' := ?_) #[true, true, true, true, true, true, true, true, true, true, true, true, true, true, true, true, false, false, false, false] rfl rfl (by kernel_rfl) (fun _ _ _ h => h) (Or.inl ⟨by rfl, ?_⟩) hHeld ?_ ?_
                  rotate_left
                  · rintro w' ⟨s0, s1, s2⟩
                    go_simp
                    with_reducible rfl
                  rotate_left
                  · simp only [Act.put, List.setIfInBounds_toArray, List.set_cons_zero, List.set_cons_succ, i64_w, i32_w]
                    rfl
                  refine take_ (i := 16) (N := some 134) (v := ?_) (a' := ?_) #[true, true, true, true, true, true, true, true, true, true, true, true, true, true, true, true, true, false, false, false] rfl rfl (by kernel_rfl) (fun _ _ _ h => h) (Or.inl ⟨by rfl, ?_⟩) hHeld ?_ ?_
                  rotate_left
                  · rintro w' ⟨s0, s1, s2⟩
                    go_simp
                    with_reducible rfl
                  rotate_left
                  · simp only [Act.put, List.setIfInBounds_toArray, List.set_cons_zero, List.set_cons_succ, i64_w, i32_w]
                    rfl
                  refine pure_ (i := 17) (N := some 135) (v := ?_) (a' := ?_) #[true, true, true, true, true, true, true, true, true, true, true, true, true, true, true, true, true, true, false, false] rfl rfl (by kernel_rfl) (fun _ _ _ h => h) (Or.inl ⟨by rfl, ?_⟩) ?_ ?_
                  rotate_left
                  · intro w'
                    go_simp
                    with_reducible rfl
                  rotate_left
                  · simp only [Act.put, List.setIfInBounds_toArray, List.set_cons_zero, List.set_cons_succ, i64_w, i32_w]
                    rfl
                  refine pure_ (i := 18) (N := some 136) (v := ?_) (a' := ?_) #[true, true, true, true, true, true, true, true, true, true, true, true, true, true, true, true, true, true, true, false] rfl rfl (by kernel_rfl) (fun _ _ _ h => h) (Or.inl ⟨by rfl, ?_⟩) ?_ ?_
                  rotate_left
                  · intro w'
                    go_simp
                    with_reducible rfl
                  rotate_left
                  · simp only [Act.put, List.setIfInBounds_toArray, List.set_cons_zero, List.set_cons_succ, i64_w, i32_w]
                    rfl
                  refine last_ (i := 19) (N := none) #[true, true, true, true, true, true, true, true, true, true, true, true, true, true, true, true, true, true, true, true] rfl rfl (by kernel_rfl) (by decide) (fun K hK => ?_)
                  refine skip_ (w1 := ?_) (by rfl) rfl ?_ ?_
                  rotate_left
                  · go_simp
                    rfl
                  refine hK.out _ _ ?_
                  clear hK K
                  refine done_ (by kernel_rfl) ?_
                  clear hHeld g2
                  have HT1 := Lib.hid (HT.out.set1 t (m ||| q))
                  have HB1 := Lib.hid (below_set1 HB.out (Kd.R_base HT.out.r1 gm (by simp [Value.ownBlock])) HBE.out t (.int .u64 ((m ||| q : Nat) : Int)))
                  clear HT HB
                  generalize w12.setCell ⟨gm, t, none⟩ (.int .u64 ((m ||| q : Nat) : Int)) = w13 at HT1 HB1 ⊢
                  obtain ⟨ad2, hae, q0, -⟩ := (HR.out.below HB1.out) t (by have := HC1.out; have := HE.out; have := HTE.out; omega)
                  injection hae with hae
                  subst hae
                  rw [HY.out] at q0
                  have kb : k ≤ 64 := by have := HK.out; have := HC1.out; omega
                  go_wp2
                  go_roundg k3
                  case measure => have := HK.out; omega
                  case rel => exact ⟨y, k + 1, f1, M1.set t (m ||| q), by go_num, by go_num, ⟨by have := HK.out; omega, by have := HK.out; omega, by omega⟩, ⟨HT1.out⟩, ⟨by rw [← HC2.out, HY.out], by have := HC.out.2; omega⟩, ⟨by rw [List.length_set]; exact HM1.out.1, set_lt M1 t _ HOL.out HM1.out.2⟩, ⟨HB1.out⟩⟩
                · have z1 : decide (0 ≤ z) = false := decide_eq_false cz
                  have hfin : M1 = climb (xs.take (j + 1)) q (j + 1) j (M ++ [0]) := by
                    rw [← HC.out.1]
                    cases f with
                    | zero => rfl
                    | succ f => unfold climb; rw [if_pos (by omega)]
                  have HF := Lib.hid hfin
                  clear hfin
                  by_cases ck : k ≤ j
                  · have k4 : decide ((k : Int) ≤ (j : Int)) = true := decide_eq_true (by omega)
                    have k5 : decide (k ≤ j) = true := decide_eq_true ck
                    go_wp2
                    go_roundg k1
                    case measure => have := HI.out; omega
                    case rel => exact ⟨j + 1, _, _, by go_num, ⟨by have := HI.out; omega, by have := HI.out; have := HC1.out; omega⟩, ⟨HS2.out⟩, ⟨by rw [HM2.out, ← HF.out, HD1.out]; exact HT.out⟩, ⟨HB.out⟩⟩
                  · have k4 : decide ((k : Int) ≤ (j : Int)) = false := decide_eq_false (by omega)
                    have k5 : decide (k ≤ j) = false := decide_eq_false ck
                    go_wp2
                    go_roundg k1
                    case measure => have := HI.out; omega
                    case rel => exact ⟨j + 1, _, _, by go_num, ⟨by have := HI.out; omega, by have := HI.out; have := HC1.out; omega⟩, ⟨HS2.out⟩, ⟨by rw [HM2.out, ← HF.out, HD1.out]; exact HT.out⟩, ⟨HB.out⟩⟩
      · have HSN : Hid (stN xs qs n = 5) := Lib.hid (by rw [stN_stays xs qs (i + 1) n (by omega) (by rw [HSC.out, if_neg cok]; decide), HSC.out, if_neg cok])
        have hno := fun h => cok (HOK.out.2 h)
        rcases (by omega : (i = 0 ∧ x ≠ -1) ∨ (i = 0 ∧ x = -1) ∨ (0 < i ∧ x < 0) ∨ (0 < i ∧ 0 ≤ x ∧ (i : Int) ≤ x) ∨ (0 < i ∧ 0 ≤ x ∧ x < (i : Int))) with ⟨hi, hx0⟩ | h | ⟨hi, hx0⟩ | ⟨hi, hx0, hx1⟩ | h
        · have e0 : ((i : Int) == 0) = true := by simp; omega
          have e2 : decide (0 < (i : Int)) = false := decide_eq_false (by omega)
          have e3 : decide (0 < i) = false := decide_eq_false (by omega)
          have e1 : (x != -1) = true := by simpa using hx0
          clear hno hi hx0
          go_wp2
          go_ret2
          exact ⟨HB.out, .inl ⟨by rw [HSN.out]; decide, by rw [HSN.out] <;> rfl⟩⟩
        · exact absurd (.inl h) hno
        · have e0 : ((i : Int) == 0) = false := by simp; omega
          have e2 : decide (0 < (i : Int)) = true := decide_eq_true (by omega)
          have e3 : decide (0 < i) = true := decide_eq_true (by omega)
          have e4 : decide (x < 0) = true := decide_eq_true hx0
          clear hno
          go_wp2
          go_ret2
          exact ⟨HB.out, .inl ⟨by rw [HSN.out]; decide, by rw [HSN.out] <;> rfl⟩⟩
        · have e0 : ((i : Int) == 0) = false := by simp; omega
          have e2 : decide (0 < (i : Int)) = true := decide_eq_true (by omega)
          have e3 : decide (0 < i) = true := decide_eq_true (by omega)
          have e4 : decide (x < 0) = false := decide_eq_false (by omega)
          have e5 : decide ((i : Int) ≤ x) = true := decide_eq_true hx1
          clear hno
          go_wp2
          go_ret2
          exact ⟨HB.out, .inl ⟨by rw [HSN.out]; decide, by rw [HSN.out] <;> rfl⟩⟩
        · exact absurd (.inr h) hno
    · have d1 : decide ((i : Int) < (n : Int)) = false := decide_eq_false (by omega)
      have d2 : decide (i < n) = false := decide_eq_false c1
      obtain rfl : i = n := by have := HI.out; omega
      go_wp2
      go_ret2
      exact ⟨HB.out, .inr ⟨HS.out, b, vm, vd, by rw [HBE.out]; exact Nat.le_refl _, rfl, HT.out⟩⟩
end Go.Proofs.YtmjkgnlmdcmdbaaDoor.Topo
