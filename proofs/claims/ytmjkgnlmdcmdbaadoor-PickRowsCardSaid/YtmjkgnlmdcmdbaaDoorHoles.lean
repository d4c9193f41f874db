/- pick.Holes; a set's spread. -/
import Derived.Test.YtmjkgnlmdcmdbaaDoorTight
namespace Go.Proofs.YtmjkgnlmdcmdbaaDoor.Pick
open Go.RowKit Go.Proofs.YtmjkgnlmdcmdbaaDoorW.PrintWords Go.Proofs.YtmjkgnlmdcmdbaaDoorW.PrintLast Go.Proofs.YtmjkgnlmdcmdbaaDoorW.PrintMore Go.Proofs.YtmjkgnlmdcmdbaaDoor.Row Go.Proofs.YtmjkgnlmdcmdbaaDoor.Sets
set_option linter.unusedVariables false
set_option linter.unusedSimpArgs false
/-- the longest row -/
def mostS (L : List (Nat × Nat)) : Nat → Nat
  | 0 => 0
  | k + 1 => if mostS L k < (L.getD k (0, 0)).2 then (L.getD k (0, 0)).2 else mostS L k
theorem mostS_le (L : List (Nat × Nat)) (h : ∀ k, (L.getD k (0, 0)).2 ≤ 64) : ∀ k, mostS L k ≤ 64
  | 0 => by unfold mostS; omega
  | k + 1 => by
    unfold mostS
    split
    · exact h k
    · exact mostS_le L h k
def HolesIs (s : Nat) (w : World) (e : Ending) (w' : World) : Prop := e = .returned (.tuple #[.int .i64 ((rowsOn (nodes s)).length : Nat), .int .i64 (mostS (rowsOn (nodes s)) (rowsOn (nodes s)).length : Nat)]) ∧ Below w.heap.size w w'
set_option maxRecDepth 100000 in
set_option maxHeartbeats 1000000 in
theorem Holes_any (s : Nat) (w : World) (hs : s < 18446744073709551616) (hT : Tab w) : Calls Tryd.prog 72 #[.int .u64 (s : Int)] w (HolesIs s w) := by
  have kr := Rows_any s w hs hT
  unfold RowsPost at kr
  have KR := Lib.hid kr
  clear kr hT
  go_enter Tryd.func72, Tryd.ntmps72
  go_wp2_with (go_at_call 71; refine KR.out.mono ?_; rintro e w2 ⟨A, c, L, rfl, hc, hr, hro, hle, hb⟩; have HR := Lib.hid hr; have HRO := Lib.hid hro; have HLE := Lib.hid hle; have HB := Lib.hid hb; clear hr hro hle hb)
  have hse := rows_settled L _ HRO.out
  have HSE := Lib.hid hse
  have hN64 : L.length ≤ 64 := by
    have h1 := rows_few L _ HRO.out
    have h2 := lenS_le s
    unfold lenS at h2
    omega
  have hX : ∀ k, k < L.length → (L.map rowSet).getD k 0 < 18446744073709551616 ∧ lenS ((L.map rowSet).getD k 0) = (L.getD k (0, 0)).2 ∧ (L.getD k (0, 0)).2 ≤ 64 := fun k hk => by
    have hp := List.getElem?_eq_getElem hk
    have hm := HLE.out _ (List.mem_of_getElem? hp)
    rw [List.getD_eq_getElem?_getD, List.getElem?_map, List.getD_eq_getElem?_getD, hp]
    exact ⟨rowSet_lt _ _ hm, lenS_row _ hm, by show (L[k]).2 ≤ 64; omega⟩
  have HX := Lib.hid hX
  have hXl : (L.map rowSet).length = L.length := by simp
  have HXL := Lib.hid hXl
  have HMO : Hid (∀ k, k ≤ L.length → mostS L k ≤ 64) := Lib.hid (fun k hk => by
    induction k with
    | zero => unfold mostS; omega
    | succ k ih =>
      unfold mostS
      split
      · exact (hX k (by omega)).2.2
      · exact ih (by omega))
  obtain ⟨N, hN⟩ : ∃ N, L.length = N := ⟨_, rfl⟩
  obtain ⟨X, hXe⟩ : ∃ X, L.map rowSet = X := ⟨_, rfl⟩
  have HN := Lib.hid hN
  rw [hXe] at HR HX HXL
  rw [hN] at hc HXL HX HMO hN64 ⊢
  clear hX hXl hN hXe hse
  go_loopg [5, 12] (N + 1) (fun kq v5 v12 w' => ∃ (k m : Nat), v5 = .int .i64 (m : Int) ∧ v12 = .int .i64 k ∧ Aside0 (k + kq = N + 1 ∧ 1 ≤ kq) ∧ Aside0 (m = mostS L k) ∧ Aside0 (Rds (Value.int .u64) w' A (Sets.nums X)) ∧ Aside0 (Below w.heap.size w w'))
  case atStart => exact ⟨0, 0, rfl, rfl, ⟨by omega, by omega⟩, ⟨rfl⟩, ⟨HR.out⟩, ⟨HB.out⟩⟩
  case round =>
    clear HR HB
    obtain ⟨k, m, rfl, rfl, HI, HO, HR, HB⟩ := hrel
    obtain ⟨k1, rfl⟩ : ∃ k1, gk = k1 + 1 := ⟨gk - 1, by have := HI.out; omega⟩
    by_cases c1 : k < N
    · have d1 : decide (k < N) = true := decide_eq_true c1
      have d2 : decide ((k : Int) < (N : Int)) = true := decide_eq_true (by omega)
      have HC1 := Lib.hid c1
      obtain ⟨ad, rfl, q0⟩ := rdsU_at HR.out k (by rw [HXL.out]; exact c1)
      have hst : mostS L (k + 1) = if m < (L.getD k (0, 0)).2 then (L.getD k (0, 0)).2 else m := by rw [HO.out]; rfl
      obtain ⟨hrl, hlr, hl64⟩ := HX.out k c1
      obtain ⟨r, hr⟩ : ∃ r, X.getD k 0 = r := ⟨_, rfl⟩
      have KL0 := fun W => len_any (X.getD k 0) W hrl
      rw [hlr] at KL0
      rw [hr] at q0 KL0
      obtain ⟨p, hp⟩ : ∃ p, (L.getD k (0, 0)).2 = p := ⟨_, rfl⟩
      rw [hp] at hst hl64 KL0
      have KL := Lib.hid KL0
      have HST := Lib.hid hst
      have hm64 := HMO.out k (by omega)
      rw [← HO.out] at hm64
      have x0 : (0 ≤ (k : Int) ∧ (k : Int) < (N : Int)) = True := eq_true ⟨by omega, by omega⟩
      have y0 : ((k : Int) < (N : Int)) = True := eq_true (by omega)
      have xt : ((k : Int)).toNat = k := by omega
      clear hst hr hrl hlr KL0 hp
      by_cases e1 : m < p
      · have e2 : max (m : Int) (p : Int) = (p : Int) := by omega
        have e3 : decide ((m : Int) < (p : Int)) = true := decide_eq_true (by omega)
        have e4 : ((m : Int) < (p : Int)) = True := eq_true (by omega)
        have e5 : ((m : Int) ≤ (p : Int)) = True := eq_true (by omega)
        go_wp2_with (go_at_call 32; with_reducible refine (KL.out _).mono ?_; rintro e w2 ⟨rfl, rfl⟩)
        go_roundg k1
        case measure => have := HI.out; omega
        case rel => exact ⟨k + 1, p, by first | rfl | (simp [*]; done) | go_num, by go_num, ⟨by have := HI.out; omega, by have := HI.out; have := HC1.out; omega⟩, ⟨by rw [HST.out, if_pos e1]⟩, ⟨HR.out⟩, ⟨HB.out⟩⟩
      · have e2 : max (m : Int) (p : Int) = (m : Int) := by omega
        have e3 : decide ((m : Int) < (p : Int)) = false := decide_eq_false (by omega)
        have e4 : ((m : Int) < (p : Int)) = False := eq_false (by omega)
        go_wp2_with (go_at_call 32; with_reducible refine (KL.out _).mono ?_; rintro e w2 ⟨rfl, rfl⟩)
        go_roundg k1
        case measure => have := HI.out; omega
        case rel => exact ⟨k + 1, m, by first | rfl | (simp [*]; done) | go_num, by go_num, ⟨by have := HI.out; omega, by have := HI.out; have := HC1.out; omega⟩, ⟨by rw [HST.out, if_neg e1]⟩, ⟨HR.out⟩, ⟨HB.out⟩⟩
    · have d1 : decide (k < N) = false := decide_eq_false c1
      have d2 : decide ((k : Int) < (N : Int)) = false := decide_eq_false (by omega)
      obtain rfl : k = N := by have := HI.out; omega
      go_wp2
      go_ret2
      exact ⟨by rw [HSE.out, HN.out, ← HO.out]; rfl, HB.out⟩
theorem last_max (l : List Nat) (hp : l.Pairwise (· < ·)) (x : Nat) (hx : x ∈ l) : x ≤ l.getD (l.length - 1) 0 := by
  obtain ⟨i, hi, rfl⟩ := List.getElem_of_mem hx
  have hl : l.length - 1 < l.length := by omega
  rw [List.getD_eq_getElem?_getD, List.getElem?_eq_getElem hl]
  show l[i] ≤ l[l.length - 1]
  by_cases e : i = l.length - 1
  · subst e; exact Nat.le_refl _
  · exact Nat.le_of_lt (List.pairwise_iff_getElem.1 hp i (l.length - 1) hi hl (by omega))
theorem last_mem (l : List Nat) (h : 0 < l.length) : l.getD (l.length - 1) 0 ∈ l := by
  have hl : l.length - 1 < l.length := by omega
  rw [List.getD_eq_getElem?_getD, List.getElem?_eq_getElem hl]
  exact List.getElem_mem hl
theorem ends_of (s : Nat) (hs : s < 18446744073709551616) (h0 : s ≠ 0) : lowS s = ((nodes s).getD 0 0 : Nat) ∧ highS s = ((nodes s).getD (lenS s - 1) 0 : Nat) ∧ 0 < lenS s := by
  have hlow := nodes_low s h0 hs
  have hlen : 0 < (nodes s).length := by rw [hlow]; simp
  obtain ⟨b1, b2, b3, b4⟩ := high_bits s h0 hs
  refine ⟨by rw [lowS_at s h0, hlow]; rfl, ?_, hlen⟩
  have hm := last_mem (nodes s) hlen
  have h1 := last_max (nodes s) (nodes_rise s) (Lib.bitLen s - 1) ((mem_nodes _ _).2 ⟨by omega, b3⟩)
  have h2 : (nodes s).getD ((nodes s).length - 1) 0 < Lib.bitLen s := by
    rcases Nat.lt_or_ge ((nodes s).getD ((nodes s).length - 1) 0) (Lib.bitLen s) with h | h
    · exact h
    · have := b4 _ h
      rw [((mem_nodes _ _).1 hm).2] at this
      cases this
  unfold highS lenS
  rw [if_neg h0]
  omega
theorem Spread_zero (w : World) : Calls Tryd.prog 73 #[.int .u64 0] w fun e w' => e = .returned (.int .i64 0) ∧ w = w' := by
  go_enter Tryd.func73, Tryd.ntmps73
  go_wp2; go_ret; exact ⟨rfl, rfl⟩
end Go.Proofs.YtmjkgnlmdcmdbaaDoor.Pick
