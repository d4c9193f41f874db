/- PickRows: the law's own rows of a list. -/
import Derived.Test.YtmjkgnlmdcmdbaaDoorPick38
import Derived.Test.YtmjkgnlmdcmdbaaDoorTight
import Derived.RegionTactic
import Derived.Deep.RegionWith
namespace Go.Proofs.YtmjkgnlmdcmdbaaDoor.Pick
open Go.RowKit Go.Proofs.YtmjkgnlmdcmdbaaDoorW.PrintWords Go.Proofs.YtmjkgnlmdcmdbaaDoorW.PrintLast Go.Proofs.YtmjkgnlmdcmdbaaDoorW.PrintMore Go.Proofs.YtmjkgnlmdcmdbaaDoor.Row Go.Proofs.YtmjkgnlmdcmdbaaDoor.Sets
set_option linter.unusedVariables false
set_option linter.unusedSimpArgs false
/-- the last row is one longer -/
def bump : List (Nat × Nat) → List (Nat × Nat)
  | [] => []
  | [p] => [(p.1, p.2 + 1)]
  | p :: q :: L => p :: bump (q :: L)
theorem bump_cons (p : Nat × Nat) (L : List (Nat × Nat)) (h : L ≠ []) : bump (p :: L) = p :: bump L := by
  cases L with
  | nil => exact absurd rfl h
  | cons q L => rfl
theorem rowsOn_ne (x : Nat) (l : List Nat) : rowsOn (x :: l) ≠ [] := by
  obtain ⟨m, L, e⟩ := rowsOn_head x l
  rw [e]; simp
theorem rowsOn_snoc (x : Nat) : ∀ l, rowsOn (l ++ [x]) = if l ≠ [] ∧ l.getD (l.length - 1) 0 + 1 = x then bump (rowsOn l) else rowsOn l ++ [(x, 1)]
  | [] => by simp [rowsOn]
  | [y] => by
    show rowsOn [y, x] = _
    by_cases e : y + 1 = x
    · subst e; simp [rowsOn, bump]
    · have e2 : ¬ x = y + 1 := fun h => e h.symm
      simp [rowsOn, e, e2]
  | y :: z :: l => by
    have ih := rowsOn_snoc x (z :: l)
    have hlast : (y :: z :: l).getD ((y :: z :: l).length - 1) 0 = (z :: l).getD ((z :: l).length - 1) 0 := by
      show (y :: z :: l).getD ((z :: l).length) 0 = _
      rw [show (z :: l).length = ((z :: l).length - 1) + 1 by simp, List.getD_cons_succ]
      simp
    rw [hlast]
    obtain ⟨m, L, e⟩ := rowsOn_head z l
    have hz : rowsOn (y :: z :: l) = if z = y + 1 then (y, m + 1) :: L else (y, 1) :: (z, m) :: L := by
      rw [rowsOn, e]
    have ih2 : ∀ m' L', rowsOn ((z :: l) ++ [x]) = (z, m') :: L' → rowsOn ((y :: z :: l) ++ [x]) = if z = y + 1 then (y, m' + 1) :: L' else (y, 1) :: (z, m') :: L' := fun m' L' h => by
      show rowsOn (y :: ((z :: l) ++ [x])) = _
      rw [rowsOn, h]
    by_cases c : (z :: l).getD ((z :: l).length - 1) 0 + 1 = x
    · rw [if_pos ⟨by simp, c⟩] at ih ⊢
      rw [e] at ih
      rw [hz]
      cases L with
      | nil =>
        rw [ih2 (m + 1) [] ih]
        split <;> rfl
      | cons p L =>
        rw [bump_cons _ _ (by simp)] at ih
        rw [ih2 m _ ih]
        split <;> rfl
    · rw [if_neg (fun h => c h.2)] at ih ⊢
      rw [e] at ih
      have ih : rowsOn ((z :: l) ++ [x]) = (z, m) :: (L ++ [(x, 1)]) := ih
      rw [hz, ih2 m (L ++ [(x, 1)]) ih]
      split <;> rfl
theorem bump_last : ∀ (L : List (Nat × Nat)), L ≠ [] → bump L = L.set (L.length - 1) ((L.getD (L.length - 1) (0, 0)).1, (L.getD (L.length - 1) (0, 0)).2 + 1)
  | [], h => absurd rfl h
  | [p], _ => rfl
  | p :: q :: L, _ => by
    rw [bump_cons _ _ (by simp), bump_last (q :: L) (by simp)]
    simp
theorem rowsOn_len : ∀ l, (rowsOn l).length ≤ l.length
  | [] => Nat.le_refl _
  | x :: l => by
    have ih := rowsOn_len l
    rw [rowsOn]
    cases h : rowsOn l with
    | nil => simp
    | cons p L =>
      rw [h] at ih
      simp only [List.length_cons] at ih ⊢
      split <;> simp <;> omega
/-- the kind of a row: two numbers -/
def K2 : Kd (Int × Int) := Kd.pair (Kd.int .i64) (Kd.int .i64)
def prs (L : List (Nat × Nat)) : List (Int × Int) := L.map fun p => ((p.1 : Int), (p.2 : Int))
theorem prs_len (L : List (Nat × Nat)) : (prs L).length = L.length := by simp [prs]
theorem prs_at (L : List (Nat × Nat)) (i : Nat) (h : i < L.length) : (prs L).getD i (0, 0) = (((L.getD i (0, 0)).1 : Int), ((L.getD i (0, 0)).2 : Int)) := by
  rw [List.getD_eq_getElem?_getD, List.getD_eq_getElem?_getD]
  simp [prs, List.getElem?_eq_getElem h]
theorem info_pair : (Tryd.prog.info? 101).map (fun i => (i.zero, i.size, i.bytes)) = some (some (.agg #[.int .i64 0, .int .i64 0]), K2.sz, 16) := by show _ = some (some (Value.agg #[.int .i64 0, .int .i64 0]), 2, 16); kernel_rfl
theorem pair_cells : (Value.agg #[.int .i64 0, .int .i64 0]).cells.size = K2.sz := rfl
theorem pair_sz : 0 < K2.sz := by show 0 < 2; decide
theorem pair_M (w : World) (b : Nat) (ok : Nat → Prop) (x y : Int) : K2.M w b ok (x, y) [.int .i64 x, .int .i64 y] := ⟨[.int .i64 x], [.int .i64 y], rfl, rfl, rfl⟩
theorem pair_M_cells {w : World} {b : Nat} {ok : Nat → Prop} {p : Int × Int} {cs : List Value} (h : K2.M w b ok p cs) : cs = [.int .i64 p.1, .int .i64 p.2] := by
  obtain ⟨c0, c1, rfl, h0, h1⟩ := h
  have h0 : c0 = [.int .i64 p.1] := h0
  have h1 : c1 = [.int .i64 p.2] := h1
  rw [h0, h1]; rfl
/-- a row of two numbers at a place -/
theorem pair_at {W : World} {base : Nat} {ok : Nat → Prop} {g n cap : Nat} {L : List (Nat × Nat)} (h : K2.R 101 W base ok (.slice (some ⟨g, 0, none⟩) n cap) (prs L)) (i : Nat) (hi : i < L.length) :
    W.cell? ⟨g, i * 2, none⟩ = some (.int .i64 ((L.getD i (0, 0)).1 : Nat)) ∧ W.cell? ⟨g, i * 2 + 1, none⟩ = some (.int .i64 ((L.getD i (0, 0)).2 : Nat)) ∧ W.frozen? ⟨g, i * 2, none⟩ = false ∧ W.frozen? ⟨g, i * 2 + 1, none⟩ = false := by
  have hn := (Kd.R_reads' h).1
  rw [prs_len] at hn
  obtain ⟨c, h1, h2, h3, h4⟩ := Kd.R_elem h (0, 0) (i : Int) (by omega) (by omega)
  rw [Int.toNat_natCast] at h2 h3 h4
  rw [prs_at L i hi] at h2
  have hc := pair_M_cells h2
  subst hc
  exact ⟨h3 0 _ rfl, h3 1 _ rfl, h4 0, h4 1⟩
theorem pair_put {W : World} {base : Nat} {ok : Nat → Prop} {g n cap : Nat} {L : List (Nat × Nat)} (h : K2.R 101 W base ok (.slice (some ⟨g, 0, none⟩) n cap) (prs L)) (i : Nat) (hi : i < L.length) (x y : Nat) :
    K2.R 101 ((W.setCell ⟨g, i * 2, none⟩ (.int .i64 x)).setCell ⟨g, i * 2 + 1, none⟩ (.int .i64 y)) base ok (.slice (some ⟨g, 0, none⟩) n cap) (prs (L.set i (x, y))) := by
  have hn := (Kd.R_reads' h).1
  rw [prs_len] at hn
  obtain ⟨c, h1, h2, h3, h4⟩ := Kd.R_elem h (0, 0) (i : Int) (by omega) (by omega)
  have hs := (Kd.R_seg h (i : Int) (by omega) (by omega) (c := c) (seg := [.int .i64 x, .int .i64 y]) (j := 0) h1 h3 (Nat.le_refl _) (x' := ((x : Int), (y : Int))) (okp := fun _ => False) (by
    have hc := pair_M_cells h2
    rw [hc]
    exact pair_M W base _ x y) (fun k hk => hk.elim)).1
  rw [Int.toNat_natCast] at hs
  have e : prs (L.set i (x, y)) = (prs L).set i ((x : Int), (y : Int)) := by simp [prs, List.map_set]
  rw [e]
  exact hs
theorem wrap_ok {x y : Int} (e : x = y) (h1 : -9223372036854775808 ≤ x) (h2 : x ≤ 9223372036854775807) : wrap64 x = y ∧ IntKind.i64.wrap x = y := by
  subst e
  exact ⟨by unfold wrap64; omega, by rw [IntKind.wrap_i64]; omega⟩
theorem prs_snoc (L : List (Nat × Nat)) (x : Nat) : prs (L ++ [(x, 1)]) = prs L ++ [((x : Int), (1 : Int))] := by simp [prs]
theorem rowsOn_small : ∀ l, ∀ p ∈ rowsOn l, p.2 ≤ l.length
  | [], p, h => by cases h
  | x :: l, p, h => by
    have ih := rowsOn_small l
    rw [rowsOn] at h
    cases hc : rowsOn l with
    | nil =>
      rw [hc] at h
      have h : p ∈ [(x, 1)] := h
      rw [List.mem_singleton] at h
      subst h
      simp
    | cons q L =>
      rw [hc] at h ih
      have h : p ∈ (if q.1 = x + 1 then (x, q.2 + 1) :: L else (x, 1) :: q :: L) := h
      have hq := ih q List.mem_cons_self
      split at h
      · rcases List.mem_cons.1 h with h | h
        · subst h; simp only [List.length_cons]; omega
        · have := ih p (List.mem_cons_of_mem _ h); simp only [List.length_cons]; omega
      · rcases List.mem_cons.1 h with h | h
        · subst h; simp
        · have := ih p h; simp only [List.length_cons]; omega
theorem rowsOn_at_small (l : List Nat) (q : Nat) : ((rowsOn l).getD q (0, 0)).2 ≤ l.length := by
  rw [List.getD_eq_getElem?_getD]
  cases hc : (rowsOn l)[q]? with
  | none => exact Nat.zero_le _
  | some p => exact rowsOn_small l p (List.mem_of_getElem? hc)
theorem nums_at (l : List Nat) (i : Nat) : (Sets.nums l).getD i 0 = ((l.getD i 0 : Nat) : Int) := by
  rw [List.getD_eq_getElem?_getD, List.getD_eq_getElem?_getD]
  unfold Sets.nums
  rw [List.getElem?_map]
  cases l[i]? <;> rfl
theorem rdsI_at {w : World} {A : Option Addr} {l : List Nat} (h : Rds (Value.int .i64) w A (Sets.nums l)) (j : Nat) (hj : j < l.length) : ∃ ad, A = some ad ∧ w.cell? (ad.add j) = some (.int .i64 (l.getD j 0 : Nat)) := by
  have hl : (Sets.nums l).length = l.length := by simp [Sets.nums]
  obtain ⟨ad, e, hc⟩ := h j (by omega)
  refine ⟨ad, e, ?_⟩
  rw [hc, ← nums_at, List.getD_eq_getElem?_getD, List.getElem?_eq_getElem (by omega)]
  rfl
theorem rdsI_val {w : World} {l : List Nat} {ad : Addr} (h : Rds (Value.int .i64) w (some ad) (Sets.nums l)) (j y : Nat) (hj : j < l.length ∧ l.getD j 0 = y) : w.cell? (ad.add j) = some (.int .i64 (y : Int)) := by
  obtain ⟨ad2, e, hc⟩ := rdsI_at h j hj.1
  injection e with e
  subst e
  rw [hc, hj.2]
end Go.Proofs.YtmjkgnlmdcmdbaaDoor.Pick
