/- hist.Early: whether a request was told ahead of another one's call; Find: the first event of a kind of a task. -/
import Derived.Test.YteeaimbinhmjfaaHist7
namespace Go.Proofs.Yteeaimbinhmjfaa.Hist
open Go.RowKit Go.Proofs.Yteeaimbinhmjfaa.Flat Go.Proofs.YteeaimbinhmjfaaW.PrintWords Go.Proofs.YteeaimbinhmjfaaW.PrintLast Go.Proofs.YteeaimbinhmjfaaW.PrintMore
set_option linter.unusedVariables false
set_option linter.unusedSimpArgs false
set_option maxRecDepth 100000
/-- where the last event of a kind of a task stands; -1: nowhere -/
def tl (z : List (List Value)) (k t : Int) : Nat → Int
  | 0 => -1
  | i + 1 => if knd z i = k ∧ tsk z i = t then (i : Int) else tl z k t i
theorem tl_lt (z : List (List Value)) (k t : Int) (n : Nat) : -1 ≤ tl z k t n ∧ tl z k t n < n := by
  induction n with
  | zero => simp [tl]
  | succ n ih => rw [tl]; split <;> omega
def early (z : List (List Value)) (a b : Int) : Bool := decide (0 ≤ tl z 3 a z.length) && decide (0 ≤ tl z 1 b z.length) && decide (tl z 3 a z.length < tl z 1 b z.length)
theorem wrapB {x y : Int} (e : x = y) (h1 : -9223372036854775808 ≤ x) (h2 : x ≤ 9223372036854775807) : wrap64 x = y ∧ IntKind.i64.wrap x = y := by
  subst e
  exact ⟨by unfold wrap64; omega, by rw [IntKind.wrap_i64]; omega⟩
set_option maxHeartbeats 4000000 in
theorem Early_any (A : Option Addr) (c : Nat) (z : List (List Value)) (a b : Int) (W : World) (hC : E24.C W A z.length z) (hn : z.length ≤ 64) :
    Calls Try.prog 16 #[.slice A z.length c, .int .i64 a, .int .i64 b] W fun e w' => e = .returned (.bool (early z a b)) ∧ Below W.heap.size W w' := by
  have HC := Lib.hid hC
  obtain ⟨n, hnz⟩ : ∃ n, z.length = n := ⟨_, rfl⟩
  have HEY : Hid (early z a b = (decide (0 ≤ tl z 3 a n) && decide (0 ≤ tl z 1 b n) && decide (tl z 3 a n < tl z 1 b n))) := Lib.hid (by rw [← hnz]; rfl)
  rw [hnz] at HC hn ⊢
  clear hC hnz
  go_enter Try.func16, Try.ntmps16
  go_wp2
  go_loopg [7, 8, 13] (n + 1) (fun kq v7 v8 v13 w' => ∃ i : Nat, v7 = .int .i64 (tl z 3 a i) ∧ v8 = .int .i64 (tl z 1 b i) ∧ v13 = .int .i64 i ∧ Aside0 (i + kq = n + 1 ∧ 1 ≤ kq) ∧ Aside0 (Below W.heap.size W w'))
  case atStart => exact ⟨0, rfl, rfl, rfl, ⟨by omega, by omega⟩, ⟨Below.refl _ _⟩⟩
  case round =>
    obtain ⟨i, rfl, rfl, rfl, HI, HB⟩ := hrel
    obtain ⟨k1, rfl⟩ : ∃ k1, gk = k1 + 1 := ⟨gk - 1, by have := HI.out; omega⟩
    by_cases ci : i < n
    · have d1 : decide ((i : Int) < (n : Int)) = true := decide_eq_true (by omega)
      have d2 : decide (i < n) = true := decide_eq_true ci
      have x0 : (0 ≤ (i : Int) ∧ (i : Int) < (n : Int)) = True := eq_true ⟨by omega, by omega⟩
      have y0 : ((i : Int) < (n : Int)) = True := eq_true (by omega)
      have xt : ((i : Int)).toNat = i := by omega
      obtain ⟨ad, hAd, hL, hc0⟩ := ev_at (Kd.C_below HC.out HB.out) i ci
      subst hAd
      have hcell : Hid (∀ j u, (z.getD i [])[j]? = some u → wr.cell? ((ad.add (i * 24)).add j) = some u) := Lib.hid (fun j u hu => by rw [add_add]; exact hc0 j u hu)
      have HLV := Lib.hid hL
      have HQ1 : Hid ((z.getD i [])[1]? = some (.int .i64 (knd z i))) := Lib.hid (iv_is hL 1 (by omega)).1
      have HQ2 : Hid ((z.getD i [])[2]? = some (.int .i64 (tsk z i))) := Lib.hid (iv_is hL 2 (by omega)).1
      have HT3 : Hid (tl z 3 a (i + 1) = if knd z i = 3 ∧ tsk z i = a then (i : Int) else tl z 3 a i) := Lib.hid rfl
      have HT1 : Hid (tl z 1 b (i + 1) = if knd z i = 1 ∧ tsk z i = b then (i : Int) else tl z 1 b i) := Lib.hid rfl
      clear hL hc0
      generalize z.getD i [] = e at hcell HLV HQ1 HQ2
      generalize knd z i = x at HQ1 HT3 HT1
      generalize tsk z i = y at HQ2 HT3 HT1
      go_upto_region 5 with (first
        | ((with_reducible refine gate_ (.load 31 (.tmp 16)) rfl ?_); refine ev_load rfl _ rfl e (Flat.Leaves.len HLV.out) rfl hcell.out ?_)
        | ((with_reducible refine gate_ (.alloc 31) rfl ?_); refine ev_alloc rfl (N := 10) rfl rfl ?_; intro ge W1 hg hb1 hbb; have BK := Lib.hid hb1; have HB2 := Lib.hid hbb; have HG := Lib.hid hg; clear hg hb1 hbb)
        | ((with_reducible refine gate_ (.store 31 (.tmp 10) (.tmp 17)) rfl ?_); refine ev_store rfl rfl _ _ rfl e HLV.out BK.out rfl rfl rfl ?_; intro W2 hb2 hbb; have BK2 := Lib.hid hb2; have HB3 := Lib.hid (below_step HB.out (HB2.out.grown hbb HB2.out.size (fun j hj => by cases hj; rw [HG.out]; exact Nat.le_refl _))); clear hb2 hbb HB2 BK HB HG))
      have f1 : W2.cell? ⟨ge, 1, none⟩ = some (.int .i64 x) := (blk_cell BK2.out 1).trans (by rw [List.getElem?_toArray]; exact HQ1.out)
      have f2 : W2.cell? ⟨ge, 2, none⟩ = some (.int .i64 y) := (blk_cell BK2.out 2).trans (by rw [List.getElem?_toArray]; exact HQ2.out)
      clear BK2 HQ1 HQ2 hcell HLV
      by_cases x3 : x = 3
      · subst x3
        by_cases ya : y = a
        · subst ya
          go_wp2
          go_roundg k1
          case measure => have := HI.out; omega
          case rel => exact ⟨i + 1, by rw [HT3.out, if_pos ⟨by trivial, by trivial⟩], by rw [HT1.out, if_neg (fun h => absurd h.1 (by decide))], by go_num, ⟨by have := HI.out; omega, by have := HI.out; omega⟩, ⟨HB3.out⟩⟩
        · have z1 : (y == a) = false := by simpa using ya
          go_wp2
          go_roundg k1
          case measure => have := HI.out; omega
          case rel => exact ⟨i + 1, by rw [HT3.out, if_neg (fun h => ya h.2)], by rw [HT1.out, if_neg (fun h => absurd h.1 (by decide))], by go_num, ⟨by have := HI.out; omega, by have := HI.out; omega⟩, ⟨HB3.out⟩⟩
      by_cases x1 : x = 1
      · subst x1
        by_cases yb : y = b
        · subst yb
          go_wp2
          go_roundg k1
          case measure => have := HI.out; omega
          case rel => exact ⟨i + 1, by rw [HT3.out, if_neg (fun h => absurd h.1 (by decide))], by rw [HT1.out, if_pos ⟨by trivial, by trivial⟩], by go_num, ⟨by have := HI.out; omega, by have := HI.out; omega⟩, ⟨HB3.out⟩⟩
        · have z1 : (y == b) = false := by simpa using yb
          go_wp2
          go_roundg k1
          case measure => have := HI.out; omega
          case rel => exact ⟨i + 1, by rw [HT3.out, if_neg (fun h => absurd h.1 (by decide))], by rw [HT1.out, if_neg (fun h => yb h.2)], by go_num, ⟨by have := HI.out; omega, by have := HI.out; omega⟩, ⟨HB3.out⟩⟩
      have z3 : (x == 3) = false := by simpa using x3
      have z1 : (x == 1) = false := by simpa using x1
      go_wp2
      go_roundg k1
      case measure => have := HI.out; omega
      case rel => exact ⟨i + 1, by rw [HT3.out, if_neg (fun h => x3 h.1)], by rw [HT1.out, if_neg (fun h => x1 h.1)], by go_num, ⟨by have := HI.out; omega, by have := HI.out; omega⟩, ⟨HB3.out⟩⟩
    · obtain rfl : i = n := by have := HI.out; omega
      have d1 : decide ((i : Int) < (i : Int)) = false := decide_eq_false (by omega)
      have d2 : decide (i < i) = false := decide_eq_false ci
      clear ci
      generalize tl z 3 a i = T at HEY ⊢
      generalize tl z 1 b i = C at HEY ⊢
      obtain ⟨p, hp⟩ : ∃ p, decide (0 ≤ T) = p := ⟨_, rfl⟩
      obtain ⟨q, hq⟩ : ∃ q, decide (0 ≤ C) = q := ⟨_, rfl⟩
      obtain ⟨r, hr⟩ : ∃ r, decide (T < C) = r := ⟨_, rfl⟩
      rw [hp, hq, hr] at HEY
      cases p with
      | false =>
        go_wp2
        go_ret
        exact ⟨by rw [HEY.out]; rfl, HB.out⟩
      | true =>
        cases q with
        | false =>
          go_wp2
          go_ret
          exact ⟨by rw [HEY.out]; rfl, HB.out⟩
        | true =>
          go_wp2
          go_ret
          exact ⟨by rw [HEY.out]; rfl, HB.out⟩
end Go.Proofs.Yteeaimbinhmjfaa.Hist
