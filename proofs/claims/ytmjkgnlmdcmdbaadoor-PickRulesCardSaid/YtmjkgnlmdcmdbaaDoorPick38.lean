/- pick.row, pick.Of by the rules of rows and of gaps; the example of chapter 38. -/
import Derived.Test.YtmjkgnlmdcmdbaaDoorRows38
import Derived.Test.YtmjkgnlmdcmdbaaDoorApart38
namespace Go.Proofs.YtmjkgnlmdcmdbaaDoor.Pick
open Go.RowKit Go.Proofs.YtmjkgnlmdcmdbaaDoorW.PrintWords Go.Proofs.YtmjkgnlmdcmdbaaDoorW.PrintLast Go.Proofs.YtmjkgnlmdcmdbaaDoorW.PrintMore Go.Proofs.YtmjkgnlmdcmdbaaDoor.Row Go.Proofs.YtmjkgnlmdcmdbaaDoor.Sets
set_option linter.unusedVariables false
set_option linter.unusedSimpArgs false
theorem rows_few : ∀ (L : List (Nat × Nat)) (l : List Nat), RowsOf l L → L.length ≤ l.length
  | [], _, _ => Nat.zero_le _
  | p :: L, l, h => by
    obtain ⟨h1, r, rfl, -, h2⟩ := h
    have := rows_few L r h2
    rw [List.length_append, List.length_range', List.length_cons]
    omega
def rowStep (n : Int) (best r : Nat) : Nat := if n ≤ (lenS r : Int) ∧ (best = 0 ∨ lenS r < lenS best) then r else best
def rowBest (n : Int) (X : List Nat) : Nat → Nat
  | 0 => 0
  | k + 1 => rowStep n (rowBest n X k) (X.getD k 0)
theorem rowBest_lt (n : Int) (X : List Nat) (h : ∀ k, X.getD k 0 < 18446744073709551616) : ∀ k, rowBest n X k < 18446744073709551616
  | 0 => by unfold rowBest; decide
  | k + 1 => by
    unfold rowBest rowStep
    split
    · exact h k
    · exact rowBest_lt n X h k
/-- what the rule of rows picks -/
def rowPick (s : Nat) (n : Int) (L : List (Nat × Nat)) : Nat := firstS (if rowBest n (L.map rowSet) L.length = 0 then s else rowBest n (L.map rowSet) L.length) n
def RowIs (s : Nat) (n : Int) (w : World) (e : Ending) (w' : World) : Prop := ∃ L, RowsOf (nodes s) L ∧ (∀ p ∈ L, p.1 + p.2 ≤ 64) ∧ e = .returned (.int .u64 (rowPick s n L : Nat)) ∧ Below w.heap.size w w'
theorem rdsU_at {w : World} {A : Option Addr} {X : List Nat} (h : Rds (Value.int .u64) w A (Sets.nums X)) (j : Nat) (hj : j < X.length) : ∃ ad, A = some ad ∧ w.cell? (ad.add j) = some (.int .u64 (X.getD j 0 : Nat)) := by
  have hl : (Sets.nums X).length = X.length := by simp [Sets.nums]
  obtain ⟨ad, e, hc⟩ := h j (by omega)
  refine ⟨ad, e, ?_⟩
  rw [hc, List.getD_eq_getElem?_getD, List.getElem?_eq_getElem hj]
  simp [Sets.nums]
theorem neqb (x : Nat) (h : x ≠ 0) : ((x : Int) != 0) = true ∧ ((x : Int) == 0) = false := by
  have : ¬ (x : Int) = 0 := by omega
  simp [h]
set_option maxRecDepth 100000 in
set_option maxHeartbeats 2000000 in
theorem row_any (s : Nat) (n : Int) (w : World) (hs : s < 18446744073709551616) (hT : Tab w) : Calls Tryd.prog 104 #[.int .u64 (s : Int), .int .i64 n] w (RowIs s n w) := by
  have kr := Rows_any s w hs hT
  unfold RowsPost at kr
  have KR := Lib.hid kr
  have HT := Lib.hid hT
  clear kr hT
  go_enter Tryd.func104, Tryd.ntmps104
  go_wp2_with (go_at_call 71; refine KR.out.mono ?_; rintro e w2 ⟨A, c, L, rfl, hc, hr, hro, hle, hb⟩; have HR := Lib.hid hr; have HRO := Lib.hid hro; have HLE := Lib.hid hle; have HB := Lib.hid hb; clear hr hro hle hb)
  have hX : ∀ k, (L.map rowSet).getD k 0 < 18446744073709551616 := fun k => by
    rw [List.getD_eq_getElem?_getD, List.getElem?_map]
    cases hk : L[k]? with
    | none => exact (by decide : (0 : Nat) < 18446744073709551616)
    | some p => exact rowSet_lt p.1 p.2 (HLE.out p (List.mem_of_getElem? hk))
  have HX := Lib.hid hX
  have hXl : (L.map rowSet).length = L.length := by simp
  have HXL := Lib.hid hXl
  obtain ⟨N, hN⟩ : ∃ N, L.length = N := ⟨_, rfl⟩
  obtain ⟨X, hXe⟩ : ∃ X, L.map rowSet = X := ⟨_, rfl⟩
  have HN := Lib.hid hN
  have HXE := Lib.hid hXe
  rw [hXe] at HR HX HXL
  rw [hN] at hc HXL ⊢
  have hN47 : N ≤ 64 := by
    have h1 := rows_few L _ HRO.out
    have h2 := lenS_le s
    unfold lenS at h2
    omega
  clear hX hXl hN hXe
  go_loopg [5, 13] (N + 1) (fun kq v5 v13 w' => ∃ (k best : Nat), v5 = .int .u64 (best : Int) ∧ v13 = .int .i64 k ∧ Aside0 (k + kq = N + 1 ∧ 1 ≤ kq) ∧ Aside0 (best = rowBest n X k) ∧ Aside0 (Rds (Value.int .u64) w' A (Sets.nums X)) ∧ Aside0 (Below w.heap.size w w'))
  case atStart => exact ⟨0, 0, rfl, rfl, ⟨by omega, by omega⟩, ⟨rfl⟩, ⟨HR.out⟩, ⟨HB.out⟩⟩
  case round =>
    clear HR HB
    obtain ⟨k, best, rfl, rfl, HI, HO, HR, HB⟩ := hrel
    obtain ⟨k1, rfl⟩ : ∃ k1, gk = k1 + 1 := ⟨gk - 1, by have := HI.out; omega⟩
    have hbl := rowBest_lt n X HX.out k
    rw [← HO.out] at hbl
    by_cases c1 : k < N
    · have d1 : decide (k < N) = true := decide_eq_true c1
      have d2 : decide ((k : Int) < (N : Int)) = true := decide_eq_true (by omega)
      have HC1 := Lib.hid c1
      obtain ⟨ad, rfl, q0⟩ := rdsU_at HR.out k (by rw [HXL.out]; exact c1)
      have hst : rowBest n X (k + 1) = rowStep n best (X.getD k 0) := by rw [HO.out]; rfl
      have hrl := HX.out k
      obtain ⟨r, hr⟩ : ∃ r, X.getD k 0 = r := ⟨_, rfl⟩
      rw [hr] at q0 hst hrl
      unfold rowStep at hst
      have KL0 := fun W => len_any r W hrl
      have KB0 := fun W => len_any best W hbl
      obtain ⟨lr, hlr⟩ : ∃ l, lenS r = l := ⟨_, rfl⟩
      obtain ⟨lb, hlb⟩ : ∃ l, lenS best = l := ⟨_, rfl⟩
      rw [hlr] at KL0 hst
      rw [hlb] at KB0 hst
      have KL := Lib.hid KL0
      have KB := Lib.hid KB0
      have HST := Lib.hid hst
      have x0 : (0 ≤ (k : Int) ∧ (k : Int) < (N : Int)) = True := eq_true ⟨by omega, by omega⟩
      have y0 : ((k : Int) < (N : Int)) = True := eq_true (by omega)
      have xt : ((k : Int)).toNat = k := by omega
      clear hst hr hlr hlb KL0 KB0
      by_cases e1 : n ≤ (lr : Int)
      · have e2 : decide (n ≤ (lr : Int)) = true := decide_eq_true e1
        by_cases e3 : best = 0
        · have e4 : ((best : Int) == 0) = true := by simp [e3]
          clear HO hbl
          go_wp2_with (go_at_call 32; with_reducible refine (KL.out _).mono ?_; rintro e w2 ⟨rfl, rfl⟩)
          go_roundg k1
          case measure => have := HI.out; omega
          case rel => exact ⟨k + 1, r, by go_num, by go_num, ⟨by have := HI.out; omega, by have := HI.out; omega⟩, ⟨by rw [HST.out, if_pos ⟨e1, .inl e3⟩]⟩, ⟨HR.out⟩, ⟨HB.out⟩⟩
        · have e4 : ((best : Int) == 0) = false := (neqb best e3).2
          by_cases e5 : lr < lb
          · have e6 : decide (lr < lb) = true := decide_eq_true e5
            have e7 : decide ((lr : Int) < (lb : Int)) = true := decide_eq_true (by omega)
            go_wp2_with (first
              | (go_at_call 32; with_reducible refine (KL.out _).mono ?_; rintro e w2 ⟨rfl, rfl⟩)
              | (go_at_call 32; with_reducible refine (KB.out _).mono ?_; rintro e w2 ⟨rfl, rfl⟩))
            go_roundg k1
            case measure => have := HI.out; omega
            case rel => exact ⟨k + 1, r, by go_num, by go_num, ⟨by have := HI.out; omega, by have := HI.out; omega⟩, ⟨by rw [HST.out, if_pos ⟨e1, .inr e5⟩]⟩, ⟨HR.out⟩, ⟨HB.out⟩⟩
          · have e6 : decide (lr < lb) = false := decide_eq_false e5
            have e7 : decide ((lr : Int) < (lb : Int)) = false := decide_eq_false (by omega)
            go_wp2_with (first
              | (go_at_call 32; with_reducible refine (KL.out _).mono ?_; rintro e w2 ⟨rfl, rfl⟩)
              | (go_at_call 32; with_reducible refine (KB.out _).mono ?_; rintro e w2 ⟨rfl, rfl⟩))
            go_roundg k1
            case measure => have := HI.out; omega
            case rel => exact ⟨k + 1, best, by go_num, by go_num, ⟨by have := HI.out; omega, by have := HI.out; omega⟩, ⟨by rw [HST.out, if_neg (fun hh => hh.2.elim e3 (fun h2 => by omega))]⟩, ⟨HR.out⟩, ⟨HB.out⟩⟩
      · have e2 : decide (n ≤ (lr : Int)) = false := decide_eq_false e1
        go_wp2_with (go_at_call 32; with_reducible refine (KL.out _).mono ?_; rintro e w2 ⟨rfl, rfl⟩)
        go_roundg k1
        case measure => have := HI.out; omega
        case rel => exact ⟨k + 1, best, by go_num, by go_num, ⟨by have := HI.out; omega, by have := HI.out; omega⟩, ⟨by rw [HST.out, if_neg (fun hh => by have := hh.1; omega)]⟩, ⟨HR.out⟩, ⟨HB.out⟩⟩
    · have d1 : decide (k < N) = false := decide_eq_false c1
      have d2 : decide ((k : Int) < (N : Int)) = false := decide_eq_false (by omega)
      obtain rfl : k = N := by have := HI.out; omega
      have hpick : rowPick s n L = firstS (if best = 0 then s else best) n := by unfold rowPick; rw [HXE.out, HN.out, ← HO.out]
      have HP := Lib.hid hpick
      have HTB := Lib.hid (HT.out.below HB.out HT.out.lt)
      clear hpick
      by_cases e3 : best = 0
      · have e4 : ((best : Int) == 0) = true := by simp [e3]
        have KF := Lib.hid (fun W (hW : Tab W) => first_any s n W hs hW)
        have HE3 := Lib.hid e3
        clear HO hbl e3
        go_wp2_with (go_at_call 19; refine (KF.out _ HTB.out).mono ?_; rintro e w2 ⟨rfl, rfl⟩)
        go_ret
        exact ⟨L, HRO.out, HLE.out, by rw [HP.out, if_pos HE3.out]; rfl, HB.out⟩
      · have e4 : ((best : Int) == 0) = false := (neqb best e3).2
        have KF := Lib.hid (fun W (hW : Tab W) => first_any best n W hbl hW)
        go_wp2_with (go_at_call 19; refine (KF.out _ HTB.out).mono ?_; rintro e w2 ⟨rfl, rfl⟩)
        go_ret
        exact ⟨L, HRO.out, HLE.out, by rw [HP.out, if_neg e3]; rfl, HB.out⟩
theorem Is_any (r : Int) (w : World) : Calls Tryd.prog 64 #[.int .i64 r] w fun e w' => e = .returned (.bool (decide (1 ≤ r) && decide (r ≤ 5))) ∧ w = w' := by
  by_cases h : 1 ≤ r
  · have d1 : decide (1 ≤ r) = true := decide_eq_true h
    rw [d1]
    go_enter Tryd.func64, Tryd.ntmps64
    go_wp2; go_ret; exact ⟨rfl, rfl⟩
  · have d1 : decide (1 ≤ r) = false := decide_eq_false h
    rw [d1]
    go_enter Tryd.func64, Tryd.ntmps64
    go_wp2; go_ret; exact ⟨rfl, rfl⟩
theorem Of_none (r : Int) (s : Nat) (n : Int) (w : World) (hs : s < 18446744073709551616) (h : n < 1 ∨ (lenS s : Int) < n ∨ r < 1 ∨ 5 < r) :
    Calls Tryd.prog 63 #[.int .i64 r, .int .u64 (s : Int), .int .i64 n] w fun e w' => e = .returned (.tuple #[.int .u64 0, .bool false]) ∧ w = w' := by
  have KL0 := fun W => len_any s W hs
  obtain ⟨L, hL⟩ : ∃ L, lenS s = L := ⟨_, rfl⟩
  rw [hL] at h KL0
  have KL := Lib.hid KL0
  have KI0 := fun W => Is_any r W
  clear KL0 hL
  by_cases h1 : n < 1
  · have d1 : decide (n < 1) = true := decide_eq_true h1
    clear KI0 h
    go_enter Tryd.func63, Tryd.ntmps63
    go_wp2; go_ret2; exact ⟨rfl, rfl⟩
  · have d1 : decide (n < 1) = false := decide_eq_false h1
    by_cases h2 : (L : Int) < n
    · have d2 : decide ((L : Int) < n) = true := decide_eq_true h2
      clear KI0 h
      go_enter Tryd.func63, Tryd.ntmps63
      go_wp2_with (go_at_call 32; refine (KL.out _).mono ?_; rintro e w2 ⟨rfl, rfl⟩)
      go_ret2; exact ⟨rfl, rfl⟩
    · have d2 : decide ((L : Int) < n) = false := decide_eq_false h2
      have e : (decide (1 ≤ r) && decide (r ≤ 5)) = false := by
        rcases (by omega : r < 1 ∨ 5 < r) with h3 | h3
        · rw [decide_eq_false (by omega)]; rfl
        · rw [decide_eq_false (by omega : ¬ r ≤ 5), Bool.and_false]
      rw [e] at KI0
      have KI := Lib.hid KI0
      clear KI0 h e
      go_enter Tryd.func63, Tryd.ntmps63
      go_wp2_with (first
        | (go_at_call 32; refine (KL.out _).mono ?_; rintro e w2 ⟨rfl, rfl⟩)
        | (go_at_call 64; refine (KI.out _).mono ?_; rintro e w2 ⟨rfl, rfl⟩))
      go_ret2; exact ⟨rfl, rfl⟩
theorem Of_row (s : Nat) (n : Int) (w : World) (hs : s < 18446744073709551616) (hT : Tab w) (h1 : 1 ≤ n) (h2 : n ≤ (lenS s : Int)) :
    Calls Tryd.prog 63 #[.int .i64 3, .int .u64 (s : Int), .int .i64 n] w fun e w' => ∃ L, RowsOf (nodes s) L ∧ (∀ p ∈ L, p.1 + p.2 ≤ 64) ∧ e = .returned (.tuple #[.int .u64 (rowPick s n L : Nat), .bool true]) ∧ Below w.heap.size w w' := by
  have KL0 := fun W => len_any s W hs
  obtain ⟨L, hL⟩ : ∃ L, lenS s = L := ⟨_, rfl⟩
  rw [hL] at h2 KL0
  have KL := Lib.hid KL0
  have KI := Lib.hid (fun W => Is_any 3 W)
  have kr := row_any s n w hs hT
  unfold RowIs at kr
  have KR := Lib.hid kr
  have d1 : decide (n < 1) = false := decide_eq_false (by omega)
  have d2 : decide ((L : Int) < n) = false := decide_eq_false (by omega)
  clear KL0 hL kr hT
  go_enter Tryd.func63, Tryd.ntmps63
  go_wp2_with (first
    | (go_at_call 32; refine (KL.out _).mono ?_; rintro e w2 ⟨rfl, rfl⟩)
    | (go_at_call 64; refine (KI.out _).mono ?_; rintro e w2 ⟨rfl, rfl⟩)
    | (go_at_call 104; refine KR.out.mono ?_; rintro e w2 ⟨Lr, hro, hle, rfl, hb⟩; have HRO := Lib.hid hro; have HLE := Lib.hid hle; have HB := Lib.hid hb; clear hro hle hb))
  go_ret2
  exact ⟨Lr, HRO.out, HLE.out, rfl, HB.out⟩
theorem Of_apart (s : Nat) (n : Int) (w : World) (hs : s < 18446744073709551616) (hT : Tab w) (h1 : 1 ≤ n) (h2 : n ≤ (lenS s : Int)) :
    Calls Tryd.prog 63 #[.int .i64 4, .int .u64 (s : Int), .int .i64 n] w fun e w' => e = .returned (.tuple #[.int .u64 (apartS s n : Nat), .bool true]) ∧ Below w.heap.size w w' := by
  have KL0 := fun W => len_any s W hs
  obtain ⟨L, hL⟩ : ∃ L, lenS s = L := ⟨_, rfl⟩
  rw [hL] at h2 KL0
  have KL := Lib.hid KL0
  have KI := Lib.hid (fun W => Is_any 4 W)
  have KR := Lib.hid (apart_any s n w hs hT)
  have d1 : decide (n < 1) = false := decide_eq_false (by omega)
  have d2 : decide ((L : Int) < n) = false := decide_eq_false (by omega)
  clear KL0 hL hT
  go_enter Tryd.func63, Tryd.ntmps63
  go_wp2_with (first
    | (go_at_call 32; refine (KL.out _).mono ?_; rintro e w2 ⟨rfl, rfl⟩)
    | (go_at_call 64; refine (KI.out _).mono ?_; rintro e w2 ⟨rfl, rfl⟩)
    | (go_at_call 105; refine KR.out.mono ?_; rintro e w2 ⟨rfl, hb⟩; have HB := Lib.hid hb; clear hb))
  go_ret2
  exact ⟨rfl, HB.out⟩
/-- the rows of a list -/
def rowsOn : List Nat → List (Nat × Nat)
  | [] => []
  | x :: l => match rowsOn l with
    | [] => [(x, 1)]
    | p :: L => if p.1 = x + 1 then (x, p.2 + 1) :: L else (x, 1) :: p :: L
theorem rowsOn_head (x : Nat) (l : List Nat) : ∃ m L, rowsOn (x :: l) = (x, m) :: L := by
  unfold rowsOn
  cases rowsOn l with
  | nil => exact ⟨1, [], rfl⟩
  | cons p L =>
    by_cases h : p.1 = x + 1
    · exact ⟨p.2 + 1, L, by simp only [if_pos h]⟩
    · exact ⟨1, p :: L, by simp only [if_neg h]⟩
theorem rowsOn_cons (x : Nat) (r : List Nat) (h : (x + 1) ∉ r) : rowsOn (x :: r) = (x, 1) :: rowsOn r := by
  cases r with
  | nil => rfl
  | cons y r =>
    obtain ⟨m, L, e⟩ := rowsOn_head y r
    rw [rowsOn, e]
    have hy : ¬ y = x + 1 := fun e => h (by rw [e]; exact List.mem_cons_self)
    simp only [if_neg hy]
theorem rowsOn_range (r : List Nat) : ∀ (m a : Nat), (a + (m + 1)) ∉ r → rowsOn (List.range' a (m + 1) ++ r) = (a, m + 1) :: rowsOn r
  | 0, a, h => rowsOn_cons a r h
  | m + 1, a, h => by
    have ih := rowsOn_range r m (a + 1) (by rw [show a + 1 + (m + 1) = a + (m + 1 + 1) by omega]; exact h)
    show rowsOn (a :: (List.range' (a + 1) (m + 1) ++ r)) = _
    rw [rowsOn, ih]
    simp only [if_true]
theorem rows_settled : ∀ (L : List (Nat × Nat)) (l : List Nat), RowsOf l L → rowsOn l = L
  | [], l, h => by have h : l = [] := h; rw [h]; rfl
  | (a, m) :: L, l, h => by
    obtain ⟨h1, r, rfl, h2, h3⟩ := h
    have ih := rows_settled L r h3
    obtain ⟨q, rfl⟩ : ∃ q, m = q + 1 := ⟨m - 1, by simp only at h1; omega⟩
    rw [rowsOn_range r q a h2, ih]
/-- rows of a set are settled by the set -/
theorem rows_235 (L : List (Nat × Nat)) (h : RowsOf (nodes 235) L) : L = [(0, 2), (3, 1), (5, 3)] := by
  rw [← rows_settled L _ h]
  decide +kernel
theorem awake38_any (w : World) (hT : Tab w) : Calls Tryd.prog 65 #[] w fun e w' => e = .returned (.bool true) ∧ Below w.heap.size w w' := by
  have HT := Lib.hid hT
  have KR0 := fun (W : World) (hW : Tab W) => Of_row 235 3 W (by decide) hW (by decide) (by decide)
  have KR : Hid (∀ W, Tab W → Calls Tryd.prog 63 #[.int .i64 3, .int .u64 235, .int .i64 3] W fun e w' => e = .returned (.tuple #[.int .u64 224, .bool true]) ∧ Below W.heap.size W w') := Lib.hid (fun W hW => (KR0 W hW).mono (fun e w' h => by
    obtain ⟨L, h1, -, h2, h3⟩ := h
    rw [rows_235 L h1] at h2
    rw [show rowPick 235 3 [(0, 2), (3, 1), (5, 3)] = 224 by decide +kernel] at h2
    exact ⟨h2, h3⟩))
  have KA0 := fun (W : World) (hW : Tab W) => Of_apart 235 3 W (by decide) hW (by decide) (by decide)
  rw [show apartS 235 3 = 41 by decide +kernel] at KA0
  have KA : Hid (∀ W, Tab W → Calls Tryd.prog 63 #[.int .i64 4, .int .u64 235, .int .i64 3] W fun e w' => e = .returned (.tuple #[.int .u64 41, .bool true]) ∧ Below W.heap.size W w') := Lib.hid KA0
  clear KR0 KA0 hT
  have LX0 := fun (W : World) (N : Nat) (h : W.heap.size = N) => of_lit [0, 1, 3, 5, 6, 7] W N h (by decide)
  rw [show ofS [0, 1, 3, 5, 6, 7] = 235 by decide +kernel] at LX0
  have LX : Hid (∀ (W : World) (N : Nat), W.heap.size = N → Calls Tryd.prog 24 #[.slice (some ⟨N, 0, none⟩) 6 6] (W.alloc (.cells #[.int .i64 0, .int .i64 1, .int .i64 3, .int .i64 5, .int .i64 6, .int .i64 7] 3)) fun e w' => e = .returned (.int .u64 235) ∧ W.alloc (.cells #[.int .i64 0, .int .i64 1, .int .i64 3, .int .i64 5, .int .i64 6, .int .i64 7] 3) = w') := Lib.hid LX0
  clear LX0
  have LY0 := fun (W : World) (N : Nat) (h : W.heap.size = N) => of_lit [5, 6, 7] W N h (by decide)
  rw [show ofS [5, 6, 7] = 224 by decide +kernel] at LY0
  have LY : Hid (∀ (W : World) (N : Nat), W.heap.size = N → Calls Tryd.prog 24 #[.slice (some ⟨N, 0, none⟩) 3 3] (W.alloc (.cells #[.int .i64 5, .int .i64 6, .int .i64 7] 3)) fun e w' => e = .returned (.int .u64 224) ∧ W.alloc (.cells #[.int .i64 5, .int .i64 6, .int .i64 7] 3) = w') := Lib.hid LY0
  clear LY0
  have LZ0 := fun (W : World) (N : Nat) (h : W.heap.size = N) => of_lit [0, 3, 5] W N h (by decide)
  rw [show ofS [0, 3, 5] = 41 by decide +kernel] at LZ0
  have LZ : Hid (∀ (W : World) (N : Nat), W.heap.size = N → Calls Tryd.prog 24 #[.slice (some ⟨N, 0, none⟩) 3 3] (W.alloc (.cells #[.int .i64 0, .int .i64 3, .int .i64 5] 3)) fun e w' => e = .returned (.int .u64 41) ∧ W.alloc (.cells #[.int .i64 0, .int .i64 3, .int .i64 5] 3) = w') := Lib.hid LZ0
  clear LZ0
  have HB := Lib.hid (Below.refl w.heap.size w)
  go_enter Tryd.func65, Tryd.ntmps65
  go_wp2_with (first
    | (go_at_call 24; (with_reducible refine (LX.out _ _ ?hsX).mono ?_); (case hsX => simp); clear LX; rintro e w2 ⟨rfl, rfl⟩; have n_ := Lib.hid (below_alloc HB.out (.cells #[.int .i64 0, .int .i64 1, .int .i64 3, .int .i64 5, .int .i64 6, .int .i64 7] 3)); clear HB; have HB := n_; clear n_)
    | (go_at_call 24; (with_reducible refine (LY.out _ _ ?hsY).mono ?_); (case hsY => simp); clear LY; rintro e w2 ⟨rfl, rfl⟩; have n_ := Lib.hid (below_alloc HB.out (.cells #[.int .i64 5, .int .i64 6, .int .i64 7] 3)); clear HB; have HB := n_; clear n_)
    | (go_at_call 24; (with_reducible refine (LZ.out _ _ ?hsZ).mono ?_); (case hsZ => simp); clear LZ; rintro e w2 ⟨rfl, rfl⟩; have n_ := Lib.hid (below_alloc HB.out (.cells #[.int .i64 0, .int .i64 3, .int .i64 5] 3)); clear HB; have HB := n_; clear n_)
    | (go_at_call 63; with_reducible refine (KR.out _ (HT.out.below HB.out HT.out.lt)).mono ?_; clear KR; rintro e w3 ⟨rfl, hb⟩; have n_ := Lib.hid (below_step HB.out hb); clear HB hb; have HB := n_; clear n_)
    | (go_at_call 63; with_reducible refine (KA.out _ (HT.out.below HB.out HT.out.lt)).mono ?_; clear KA; rintro e w4 ⟨rfl, hb⟩; have n_ := Lib.hid (below_step HB.out hb); clear HB hb; have HB := n_; clear n_))
  go_ret
  exact ⟨rfl, HB.out⟩
end Go.Proofs.YtmjkgnlmdcmdbaaDoor.Pick
