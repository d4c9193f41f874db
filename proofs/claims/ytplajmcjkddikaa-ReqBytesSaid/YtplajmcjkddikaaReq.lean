/- The request's plain law: what Clean, Right, Bytes and Same compute, and that bytes are alike just where requests are the same. -/
import Derived.Test.YtplajmcjkddikaaApart10
import Derived.Test.YtplajmcjkddikaaWire
import Derived.OpenShut
import Derived.Handy
namespace Go.Proofs.Ytplajmcjkddikaa.Req
open Go.RowKit Go.Proofs.YtplajmcjkddikaaW.PrintWords Go.Proofs.YtplajmcjkddikaaW.PrintLast Go.Proofs.YtplajmcjkddikaaW.PrintMore Go.Proofs.Ytplajmcjkddikaa.Leb Go.Proofs.Ytplajmcjkddikaa.Wire Go.Proofs.Ytplajmcjkddikaa.PReqApart
set_option linter.unusedVariables false
set_option linter.unusedSimpArgs false

abbrev In64 (a : Int) : Prop := -9223372036854775808 ≤ a ∧ a ≤ 9223372036854775807

theorem sign_same : ∀ k xs u, PReqApart.wire_Sign.l0 k xs u = PWireBack.wire_Sign.l0 k xs u
  | 0, _, _ => rfl
  | k + 1, xs, u => by simp only [PReqApart.wire_Sign.l0, PWireBack.wire_Sign.l0, sign_same k]
theorem sign_k (k : Nat) (a : Int) (ha : In64 a) (xs : List Int) (hk : 18446744073709551616 ≤ k) (hl : xs.length ≤ 140737488355318) : PReqApart.wire_Sign.f k xs a = some (xs ++ sgn a) := by
  unfold PReqApart.wire_Sign.f
  rw [zig_bits a ha, sign_same]
  exact sign_l0 (zig a) _ xs (by have := zig_lt a ha; omega) (by have := enc_len10 (zig a) (zig_lt a ha); omega)

theorem in1 {a : Int} (h : In64 a) : ∀ b ∈ [a], In64 b := by
  intro b hb
  obtain rfl := List.mem_singleton.mp hb
  exact h
theorem in4 {a b c d : Int} (h1 : In64 a) (h2 : In64 b) (h3 : In64 c) (h4 : In64 d) : ∀ x ∈ [a, b, c, d], In64 x := by
  intro x hx
  simp only [List.mem_cons, List.not_mem_nil, or_false] at hx
  rcases hx with rfl | rfl | rfl | rfl <;> assumption
def sgns (l : List Int) : List Int := (l.map sgn).flatten
theorem sgn_len {a : Int} (h : In64 a) : (sgn a).length ≤ 10 := enc_len10 (zig a) (zig_lt a h)
theorem sgns_len : ∀ (l : List Int), (∀ a ∈ l, In64 a) → (sgns l).length ≤ 10 * l.length
  | [], _ => by simp [sgns]
  | a :: l, h => by
    have h1 := sgn_len (h a (by simp))
    have h2 := sgns_len l (fun b hb => h b (List.mem_cons_of_mem _ hb))
    simp only [sgns, List.map_cons, List.flatten_cons, List.length_append, List.length_cons] at h2 ⊢
    omega
theorem sgns_bytes (l : List Int) : ∀ c ∈ sgns l, 0 ≤ c ∧ c < 256 := by
  intro c hc
  simp only [sgns, List.mem_flatten, List.mem_map] at hc
  obtain ⟨_, ⟨a, _, rfl⟩, hc⟩ := hc
  exact sgn_bytes a c hc
theorem sgns_inj : ∀ (l m r s : List Int), l.length = m.length → (∀ a ∈ l, In64 a) → (∀ a ∈ m, In64 a) → sgns l ++ r = sgns m ++ s → l = m ∧ r = s
  | [], [], r, s, _, _, _, h => ⟨rfl, h⟩
  | a :: l, [], _, _, h, _, _, _ => by simp at h
  | [], b :: m, _, _, h, _, _, _ => by simp at h
  | a :: l, b :: m, r, s, hl, h1, h2, h => by
    simp only [sgns, List.map_cons, List.flatten_cons, List.append_assoc] at h
    have e := enc_inj (zig a) (zig b) (by rw [lim0]; exact zig_lt a (h1 a (by simp))) (by rw [lim0]; exact zig_lt b (h2 b (by simp))) _ _ h
    have e2 := sgns_inj l m r s (by simpa using hl) (fun b hb => h1 b (List.mem_cons_of_mem _ hb)) (fun b hb => h2 b (List.mem_cons_of_mem _ hb)) e.2
    exact ⟨by rw [zig_inj e.1, e2.1], e2.2⟩

theorem all_l0 (l : List Int) (hl : ∀ a ∈ l, In64 a) (hn : l.length < 1000) : ∀ (d i k : Nat) (xs : List Int), i + d = l.length → 18446744073709551616 + d < k → xs.length + 10 * d ≤ 140737488355318 →
    PReqApart.wire_All.l0 k xs l (l.length : Int) (i : Int) = some (xs ++ sgns (l.drop i))
  | 0, i, k, xs, hi, hk, hx => by
    obtain ⟨k, rfl⟩ : ∃ m, k = m + 1 := ⟨k - 1, by omega⟩
    rw [PReqApart.wire_All.l0, if_neg (by omega), List.drop_of_length_le (by omega)]
    simp [sgns]
  | d + 1, i, k, xs, hi, hk, hx => by
    obtain ⟨k, rfl⟩ : ∃ m, k = m + 1 := ⟨k - 1, by omega⟩
    have hlt : i < l.length := by omega
    have hr : rd l (i : Int) = l[i] := by simp [rd, List.getD_eq_getElem?_getD, hlt]
    have ha := hl l[i] (List.getElem_mem hlt)
    rw [PReqApart.wire_All.l0, if_pos (by omega), if_pos (by omega), if_pos (by omega), hr, sign_k k _ ha xs (by omega) (by omega)]
    have hw : wrap64 ((i : Int) + 1) = ((i + 1 : Nat) : Int) := by unfold wrap64; omega
    have hs := sgn_len ha
    simp only [Option.bind_some]
    rw [hw, all_l0 l hl hn d (i + 1) k _ (by omega) (by omega) (by simp only [List.length_append]; omega), List.drop_eq_getElem_cons hlt]
    simp only [sgns, List.map_cons, List.flatten_cons, List.append_assoc]
theorem all_k (l : List Int) (hl : ∀ a ∈ l, In64 a) (hn : l.length < 50) (k : Nat) (xs : List Int) (hk : 18446744073709551616 + 50 < k) (hx : xs.length ≤ 1000) :
    PReqApart.wire_All.f k xs l = some (xs ++ sgns l) := by
  have h := all_l0 l hl (by omega) l.length 0 k xs (by omega) (by omega) (by omega)
  rw [List.drop_zero] at h
  exact h

/-! ### the sum -/
theorem sum_l0 (xs : List Int) (hl : xs.length < 1000) : ∀ (d i k : Nat) (x : Int), i + d = xs.length → d < k → ∃ s, PReqApart.req_sum.l0 k x xs (xs.length : Int) (i : Int) = some s
  | 0, i, k, x, hi, hk => by
    obtain ⟨k, rfl⟩ : ∃ m, k = m + 1 := ⟨k - 1, by omega⟩
    exact ⟨x, by rw [PReqApart.req_sum.l0, if_neg (by omega)]⟩
  | d + 1, i, k, x, hi, hk => by
    obtain ⟨k, rfl⟩ : ∃ m, k = m + 1 := ⟨k - 1, by omega⟩
    have hw : wrap64 ((i : Int) + 1) = ((i + 1 : Nat) : Int) := by unfold wrap64; omega
    rw [PReqApart.req_sum.l0, if_pos (by omega), if_pos (by omega), if_pos (by omega), hw]
    exact sum_l0 xs hl d (i + 1) k _ (by omega) (by omega)
def sm (xs : List Int) : Int := (PReqApart.req_sum.f 1000 xs).getD 0
theorem sum_k (xs : List Int) (hl : xs.length < 900) (k : Nat) (hk : 1000 ≤ k) : PReqApart.req_sum.f k xs = some (sm xs) := by
  obtain ⟨s, h⟩ := sum_l0 xs (by omega) xs.length 0 1000 (((xs.length : Int)) % 256) (by omega) (by omega)
  have h2 : PReqApart.req_sum.f 1000 xs = some s := h
  have h3 : sm xs = s := by unfold sm; rw [h2]; rfl
  rw [h3]
  exact at_rounds (fun k => PReqApart.req_sum.mono xs k) hk h2

/-! ### the clean one -/
abbrev Q := Int × Int × Int × Int × Int × Int × Bool × Int × Int
noncomputable instance : DecidableEq Q := fun a b => Classical.propDecidable _
def cl : Q → Q := fun (a0, a1, a2, a3, a4, a5, a6, a7, a8) =>
  if a0 = 1 then (a0, 0, a2, a3, a4, a5, a6, 0, 0)
  else if a0 = 2 ∨ a0 = 3 ∨ a0 = 4 ∨ a0 = 5 ∨ a0 = 6 then (a0, a1, 0, 0, 0, 0, false, 0, 0)
  else if a0 = 7 ∨ a0 = 8 then (a0, 0, 0, 0, 0, 0, false, a7, 0)
  else if a0 = 9 then (a0, 0, 0, 0, 0, 0, false, 0, a8)
  else (a0, 0, 0, 0, 0, 0, false, 0, 0)
def rng : Q → Prop := fun (a0, a1, a2, a3, a4, a5, a6, a7, a8) => In64 a0 ∧ In64 a1 ∧ In64 a2 ∧ In64 a3 ∧ In64 a4 ∧ In64 a5 ∧ In64 a7 ∧ In64 a8
theorem clean_k (k : Nat) (hk : 2 ≤ k) (a0 a1 a2 a3 a4 a5 : Int) (a6 : Bool) (a7 a8 : Int) : PReqApart.rule_Clean.f k a0 a1 a2 a3 a4 a5 a6 a7 a8 = some (cl (a0, a1, a2, a3, a4, a5, a6, a7, a8)) := by
  obtain ⟨k, rfl⟩ : ∃ m, k = m + 2 := ⟨k - 2, by omega⟩
  unfold PReqApart.rule_Clean.f cl
  by_cases h1 : a0 = 1
  · subst h1; simp
  by_cases h2 : a0 = 2
  · subst h2; simp [PReqApart.rule_Clean.j0]
  by_cases h3 : a0 = 3
  · subst h3; simp [PReqApart.rule_Clean.j0]
  by_cases h4 : a0 = 4
  · subst h4; simp [PReqApart.rule_Clean.j0]
  by_cases h5 : a0 = 5
  · subst h5; simp [PReqApart.rule_Clean.j0]
  by_cases h6 : a0 = 6
  · subst h6; simp [PReqApart.rule_Clean.j0]
  by_cases h7 : a0 = 7
  · subst h7; simp [PReqApart.rule_Clean.j0, PReqApart.rule_Clean.j1]
  by_cases h8 : a0 = 8
  · subst h8; simp [PReqApart.rule_Clean.j0, PReqApart.rule_Clean.j1]
  by_cases h9 : a0 = 9
  · subst h9; simp [PReqApart.rule_Clean.j0, PReqApart.rule_Clean.j1]
  · simp [PReqApart.rule_Clean.j0, PReqApart.rule_Clean.j1, h1, h2, h3, h4, h5, h6, h7, h8, h9]
theorem cl_kind (q : Q) : (cl q).1 = q.1 := by
  obtain ⟨a0, a1, a2, a3, a4, a5, a6, a7, a8⟩ := q
  simp only [cl]; repeat' split
  all_goals rfl
theorem cl_cl (q : Q) : cl (cl q) = cl q := by
  obtain ⟨a0, a1, a2, a3, a4, a5, a6, a7, a8⟩ := q
  by_cases h1 : a0 = 1
  · simp [cl, h1]
  by_cases h2 : a0 = 2 ∨ a0 = 3 ∨ a0 = 4 ∨ a0 = 5 ∨ a0 = 6
  · simp [cl, h1, h2]
  by_cases h3 : a0 = 7 ∨ a0 = 8
  · simp [cl, h1, h2, h3]
  by_cases h4 : a0 = 9
  · simp [cl, h1, h2, h3, h4]
  · simp [cl, h1, h2, h3, h4]
theorem cl_rng (q : Q) (h : rng q) : rng (cl q) := by
  obtain ⟨a0, a1, a2, a3, a4, a5, a6, a7, a8⟩ := q
  obtain ⟨h0, h1, h2, h3, h4, h5, h7, h8⟩ := h
  have z : In64 0 := by unfold In64; omega
  simp only [cl]; repeat' split
  all_goals exact ⟨by assumption, by assumption, by assumption, by assumption, by assumption, by assumption, by assumption, by assumption⟩

theorem same_k (k : Nat) (hk : 2 ≤ k) (a0 a1 a2 a3 a4 a5 : Int) (a6 : Bool) (a7 a8 : Int) (b0 b1 b2 b3 b4 b5 : Int) (b6 : Bool) (b7 b8 : Int) :
    PReqApart.rule_Same.f k a0 a1 a2 a3 a4 a5 a6 a7 a8 b0 b1 b2 b3 b4 b5 b6 b7 b8 = some (decide (cl (a0, a1, a2, a3, a4, a5, a6, a7, a8) = cl (b0, b1, b2, b3, b4, b5, b6, b7, b8))) := by
  unfold PReqApart.rule_Same.f
  rw [clean_k k hk, clean_k k hk]
  generalize cl (a0, a1, a2, a3, a4, a5, a6, a7, a8) = q
  generalize cl (b0, b1, b2, b3, b4, b5, b6, b7, b8) = p
  obtain ⟨q0, q1, q2, q3, q4, q5, q6, q7, q8⟩ := q
  obtain ⟨p0, p1, p2, p3, p4, p5, p6, p7, p8⟩ := p
  simp only [Option.bind_some, Option.some.injEq]
  rw [Bool.eq_iff_iff]
  simp [Prod.mk.injEq]
def good (q : Q) : Prop := 1 ≤ q.1 ∧ q.1 ≤ 13 ∧ cl q = q
noncomputable instance (q : Q) : Decidable (good q) := Classical.propDecidable _
theorem right_k (k : Nat) (hk : 2 ≤ k) (a0 a1 a2 a3 a4 a5 : Int) (a6 : Bool) (a7 a8 : Int) :
    PReqApart.req_Right.f k a0 a1 a2 a3 a4 a5 a6 a7 a8 = some (decide (good (a0, a1, a2, a3, a4, a5, a6, a7, a8))) := by
  unfold PReqApart.req_Right.f PReqApart.rule_Is.f
  have hd : good (a0, a1, a2, a3, a4, a5, a6, a7, a8) ↔ (1 ≤ a0 ∧ a0 ≤ 13 ∧ cl (a0, a1, a2, a3, a4, a5, a6, a7, a8) = (a0, a1, a2, a3, a4, a5, a6, a7, a8)) := Iff.rfl
  rw [clean_k k hk]
  revert hd
  generalize hG : decide (good (a0, a1, a2, a3, a4, a5, a6, a7, a8)) = G
  intro hd
  have hd : G = true ↔ (1 ≤ a0 ∧ a0 ≤ 13 ∧ cl (a0, a1, a2, a3, a4, a5, a6, a7, a8) = (a0, a1, a2, a3, a4, a5, a6, a7, a8)) := by rw [← hG, decide_eq_true_iff]; exact hd
  clear hG
  generalize cl (a0, a1, a2, a3, a4, a5, a6, a7, a8) = q at *
  obtain ⟨q0, q1, q2, q3, q4, q5, q6, q7, q8⟩ := q
  by_cases h1 : 1 ≤ a0
  · by_cases h2 : a0 ≤ 13
    · rw [if_pos h1]
      simp only [Option.bind_some, decide_eq_true h2, if_true, Option.some.injEq]
      rw [Bool.eq_iff_iff]
      simp [Prod.mk.injEq, h1, h2, hd]
    · rw [if_pos h1]
      have : G = false := by
        cases G
        · rfl
        · have := hd.mp rfl; omega
      simp [h2, this]
  · rw [if_neg h1]
    have : G = false := by
      cases G
      · rfl
      · have := hd.mp rfl; omega
    simp [h1, this]

/-! ### the bytes -/
def body : Q → List Int := fun (a0, a1, a2, a3, a4, a5, a6, a7, a8) =>
  [183, a0 % 256] ++ (if a0 = 1 then sgns [a2, a3, a4, a5] ++ [if a6 = true then 1 else 0]
    else if a0 = 2 ∨ a0 = 3 ∨ a0 = 4 ∨ a0 = 5 ∨ a0 = 6 then sgns [a1]
    else if a0 = 7 ∨ a0 = 8 then sgns [a7]
    else if a0 = 9 then sgns [a8] else [])
theorem body_len (q : Q) (h : rng q) : (body q).length ≤ 43 := by
  obtain ⟨a0, a1, a2, a3, a4, a5, a6, a7, a8⟩ := q
  obtain ⟨h0, h1, h2, h3, h4, h5, h7, h8⟩ := h
  have e1 := sgns_len [a2, a3, a4, a5] (in4 h2 h3 h4 h5)
  have e2 := sgns_len [a1] (in1 h1)
  have e3 := sgns_len [a7] (in1 h7)
  have e4 := sgns_len [a8] (in1 h8)
  simp only [List.length_cons, List.length_nil] at e1 e2 e3 e4
  simp only [body]; repeat' split
  all_goals simp only [List.length_append, List.length_cons, List.length_nil]; omega
theorem one_k (k : Nat) (hk : 18446744073709551616 + 50 < k) (a : Int) (h : In64 a) (x y : Int) : PReqApart.wire_All.f k [x, y] [a] = some ([x, y] ++ sgns [a]) :=
  all_k [a] (in1 h) (by simp) k [x, y] hk (by simp)
set_option maxRecDepth 10000 in
theorem bytes_k (k : Nat) (hk : 18446744073709551616 + 1000 < k) (a0 a1 a2 a3 a4 a5 : Int) (a6 : Bool) (a7 a8 : Int) (h : rng (a0, a1, a2, a3, a4, a5, a6, a7, a8)) :
    PReqApart.req_Bytes.f k a0 a1 a2 a3 a4 a5 a6 a7 a8 = if good (a0, a1, a2, a3, a4, a5, a6, a7, a8) then some (body (a0, a1, a2, a3, a4, a5, a6, a7, a8) ++ [sm (body (a0, a1, a2, a3, a4, a5, a6, a7, a8))], 0) else some ([], 1) := by
  obtain ⟨k, rfl⟩ : ∃ m, k = m + 2 := ⟨k - 2, by omega⟩
  have hb := body_len _ h
  have hs := sum_k (body (a0, a1, a2, a3, a4, a5, a6, a7, a8)) (by omega)
  obtain ⟨h0, h1, h2, h3, h4, h5, h7, h8⟩ := h
  have s0 := hs k (by omega)
  have s1 := hs (k + 1) (by omega)
  have s2 := hs (k + 2) (by omega)
  clear hs
  unfold PReqApart.req_Bytes.f
  rw [right_k _ (by omega)]
  simp only [Option.bind_some]
  by_cases hg : good (a0, a1, a2, a3, a4, a5, a6, a7, a8)
  · rw [if_pos hg, decide_eq_true hg, if_pos rfl]
    by_cases c1 : a0 = 1
    · subst c1
      rw [if_pos rfl, all_k [a2, a3, a4, a5] (in4 h2 h3 h4 h5) (by simp) _ _ (by omega) (by simp)]
      simp only [Option.bind_some, PReqApart.wire_Bool.f]
      have hl : ([183, 1 % 256] ++ sgns [a2, a3, a4, a5]).length < 140737488355328 := by
        have := sgns_len [a2, a3, a4, a5] (in4 h2 h3 h4 h5); simp only [List.length_append, List.length_cons, List.length_nil] at this ⊢; omega
      cases a6
      · simp only [body, if_true, Bool.false_eq_true, if_false, ← List.append_assoc] at hb s2 ⊢
        rw [if_pos hl]
        simp only [Option.bind_some]
        rw [s2]
        simp only [Option.bind_some]
        rw [if_pos (by omega)]
      · simp only [body, if_true, ← List.append_assoc] at hb s2 ⊢
        rw [if_pos hl]
        simp only [Option.bind_some]
        rw [s2]
        simp only [Option.bind_some]
        rw [if_pos (by omega)]
    rw [if_neg c1]
    by_cases c2 : a0 = 2 ∨ a0 = 3 ∨ a0 = 4 ∨ a0 = 5 ∨ a0 = 6
    · have hj : PReqApart.req_Bytes.j0 (k + 2) [183, a0 % 256] a0 true a0 a1 a2 a3 a4 a5 a6 a7 a8 = some (body (a0, a1, a2, a3, a4, a5, a6, a7, a8) ++ [sm (body (a0, a1, a2, a3, a4, a5, a6, a7, a8))], 0) := by
        simp only [body, if_neg c1, if_pos c2] at hb s1 ⊢
        rw [PReqApart.req_Bytes.j0, if_pos rfl, one_k _ (by omega) a1 h1]
        simp only [Option.bind_some]
        rw [s1]
        simp only [Option.bind_some]
        rw [if_pos (by omega)]
      rcases c2 with e | e | e | e | e <;> (subst e; simpa using hj)
    · have hj : PReqApart.req_Bytes.j0 (k + 2) [183, a0 % 256] a0 (a0 == 6) a0 a1 a2 a3 a4 a5 a6 a7 a8 = some (body (a0, a1, a2, a3, a4, a5, a6, a7, a8) ++ [sm (body (a0, a1, a2, a3, a4, a5, a6, a7, a8))], 0) := by
        have c6 : (a0 == 6) = false := by simp; omega
        rw [c6, PReqApart.req_Bytes.j0, if_neg (by simp)]
        by_cases c7 : a0 = 7 ∨ a0 = 8
        · simp only [body, if_neg c1, if_neg c2, if_pos c7] at hb s0 ⊢
          have hi : PReqApart.req_Bytes.j1 (k + 1) [183, a0 % 256] a0 true a0 a1 a2 a3 a4 a5 a6 a7 a8 = some ([183, a0 % 256] ++ sgns [a7] ++ [sm ([183, a0 % 256] ++ sgns [a7])], 0) := by
            rw [PReqApart.req_Bytes.j1, if_pos rfl, one_k _ (by omega) a7 h7]
            simp only [Option.bind_some]
            rw [s0]
            simp only [Option.bind_some]
            rw [if_pos (by omega)]
          rcases c7 with e | e <;> (subst e; simpa using hi)
        · have c7' : a0 ≠ 7 := by omega
          have c8 : (a0 == 8) = false := by simp; omega
          rw [if_neg c7', c8, PReqApart.req_Bytes.j1, if_neg (by simp)]
          by_cases c9 : a0 = 9
          · simp only [body, if_neg c1, if_neg c2, if_neg c7, if_pos c9] at hb s0 ⊢
            rw [one_k _ (by omega) a8 h8]
            simp only [Option.bind_some]
            rw [s0]
            simp only [Option.bind_some]
            rw [if_pos (by omega)]
          · simp only [body, if_neg c1, if_neg c2, if_neg c7, if_neg c9, List.append_nil] at hb s0 ⊢
            rw [s0]
            simp only [Option.bind_some]
            rw [if_pos (by omega)]
      have d2 : a0 ≠ 2 := by omega
      have d3 : a0 ≠ 3 := by omega
      have d4 : a0 ≠ 4 := by omega
      have d5 : a0 ≠ 5 := by omega
      rw [if_neg d2, if_neg d3, if_neg d4, if_neg d5]
      exact hj
  · rw [if_neg hg, decide_eq_false hg, if_neg (by simp)]

theorem body_inj (q p : Q) (hq : rng q) (hp : rng p) (gq : good q) (gp : good p) (r s : List Int) (hrs : r.length = s.length) (h : body q ++ r = body p ++ s) : q = p ∧ r = s := by
  obtain ⟨a0, a1, a2, a3, a4, a5, a6, a7, a8⟩ := q
  obtain ⟨b0, b1, b2, b3, b4, b5, b6, b7, b8⟩ := p
  obtain ⟨_, h1, h2, h3, h4, h5, h7, h8⟩ := hq
  obtain ⟨_, i1, i2, i3, i4, i5, i7, i8⟩ := hp
  obtain ⟨ga, ga2, gc⟩ := gq
  obtain ⟨gb, gb2, gd⟩ := gp
  simp only at ga ga2 gb gb2
  simp only [body, List.cons_append, List.nil_append, List.cons.injEq, true_and] at h
  obtain ⟨hk, h⟩ := h
  obtain rfl : a0 = b0 := by omega
  by_cases c1 : a0 = 1
  · subst c1
    simp only [cl, if_true, Prod.mk.injEq] at gc gd
    simp only [if_true, List.append_assoc] at h
    have e := sgns_inj [a2, a3, a4, a5] [b2, b3, b4, b5] _ _ rfl (in4 h2 h3 h4 h5) (in4 i2 i3 i4 i5) h
    obtain ⟨e1, e2⟩ := e
    simp only [List.cons.injEq, and_true] at e1
    simp only [List.cons_append, List.nil_append, List.cons.injEq] at e2
    obtain ⟨e2, e3⟩ := e2
    have e6 : a6 = b6 := by cases a6 <;> cases b6 <;> simp at e2 ⊢
    exact ⟨by simp only [Prod.mk.injEq]; exact ⟨trivial, gc.2.1.symm.trans gd.2.1, e1.1, e1.2.1, e1.2.2.1, e1.2.2.2, e6, gc.2.2.2.2.2.2.2.1.symm.trans gd.2.2.2.2.2.2.2.1, gc.2.2.2.2.2.2.2.2.symm.trans gd.2.2.2.2.2.2.2.2⟩, e3⟩
  by_cases c2 : a0 = 2 ∨ a0 = 3 ∨ a0 = 4 ∨ a0 = 5 ∨ a0 = 6
  · simp only [cl, if_neg c1, if_pos c2] at gc gd
    simp only [if_neg c1, if_pos c2] at h
    have e := sgns_inj [a1] [b1] _ _ rfl (in1 h1) (in1 i1) h
    simp only [List.cons.injEq, and_true] at e
    rw [← gc, ← gd, e.1]
    exact ⟨rfl, e.2⟩
  by_cases c3 : a0 = 7 ∨ a0 = 8
  · simp only [cl, if_neg c1, if_neg c2, if_pos c3] at gc gd
    simp only [if_neg c1, if_neg c2, if_pos c3] at h
    have e := sgns_inj [a7] [b7] _ _ rfl (in1 h7) (in1 i7) h
    simp only [List.cons.injEq, and_true] at e
    rw [← gc, ← gd, e.1]
    exact ⟨rfl, e.2⟩
  by_cases c4 : a0 = 9
  · simp only [cl, if_neg c1, if_neg c2, if_neg c3, if_pos c4] at gc gd
    simp only [if_neg c1, if_neg c2, if_neg c3, if_pos c4] at h
    have e := sgns_inj [a8] [b8] _ _ rfl (in1 h8) (in1 i8) h
    simp only [List.cons.injEq, and_true] at e
    rw [← gc, ← gd, e.1]
    exact ⟨rfl, e.2⟩
  · simp only [cl, if_neg c1, if_neg c2, if_neg c3, if_neg c4] at gc gd
    simp only [if_neg c1, if_neg c2, if_neg c3, if_neg c4, List.nil_append] at h
    rw [← gc, ← gd]
    exact ⟨rfl, h⟩
theorem body_bytes (q : Q) : ∀ c ∈ body q, 0 ≤ c ∧ c < 256 := by
  obtain ⟨a0, a1, a2, a3, a4, a5, a6, a7, a8⟩ := q
  intro c hc
  simp only [body, List.mem_append, List.mem_cons, List.not_mem_nil, or_false] at hc
  rcases hc with (rfl | rfl) | hc
  · omega
  · omega
  · revert hc; repeat' split
    all_goals first
      | exact fun hc => sgns_bytes _ c hc
      | (intro hc; simp only [List.mem_append, List.mem_cons, List.not_mem_nil, or_false] at hc; rcases hc with hc | rfl; exact sgns_bytes _ c hc; omega)
      | (intro hc; simp at hc)

/-! ### the law -/
theorem awake_k (k : Nat) (hk : 400 ≤ k) : PReqApart.berthagelaw10_awake.f k = some true :=
  at_rounds (fun k => PReqApart.berthagelaw10_awake.mono k) hk (by decide +kernel : PReqApart.berthagelaw10_awake.f 400 = some true)
theorem strings_k (q p : Q) (hq : rng q) (hp : rng p) (gq : good q) (gp : good p) :
    ((strOfNums (body q ++ [sm (body q)])).toList == (strOfNums (body p ++ [sm (body p)])).toList) = decide (q = p) := by
  by_cases h : q = p
  · subst h; simp
  · rw [decide_eq_false h, str_list, str_list]
    rw [beq_eq_false_iff_ne]
    intro he
    rw [List.map_append, List.map_append] at he
    have e := List.append_inj' he (by simp)
    have e2 := map_inj _ _ (body_bytes q) (body_bytes p) e.1
    exact h (body_inj q p hq hp gq gp [] [] rfl (by rw [List.append_nil, List.append_nil, e2])).1
theorem law_k (k : Nat) (hk : 18446744073709551616 + 2000 < k) (a0 a1 a2 a3 a4 a5 : Int) (a6 : Bool) (a7 a8 : Int) (b0 b1 b2 b3 b4 b5 : Int) (b6 : Bool) (b7 b8 : Int)
    (ha : rng (a0, a1, a2, a3, a4, a5, a6, a7, a8)) (hb : rng (b0, b1, b2, b3, b4, b5, b6, b7, b8)) :
    PReqApart.berthagelaw10_ReqApart.f k a0 a1 a2 a3 a4 a5 a6 a7 a8 b0 b1 b2 b3 b4 b5 b6 b7 b8 = some true := by
  obtain ⟨k, rfl⟩ : ∃ m, k = m + 1 := ⟨k - 1, by omega⟩
  unfold PReqApart.berthagelaw10_ReqApart.f
  simp only [PReqApart.berthagelaw10_ReqApart.j0]
  rw [clean_k _ (by omega), clean_k _ (by omega), same_k _ (by omega), awake_k _ (by omega)]
  have hq := cl_rng _ ha
  have hp := cl_rng _ hb
  have eq := cl_cl (a0, a1, a2, a3, a4, a5, a6, a7, a8)
  have ep := cl_cl (b0, b1, b2, b3, b4, b5, b6, b7, b8)
  generalize cl (a0, a1, a2, a3, a4, a5, a6, a7, a8) = q at *
  generalize cl (b0, b1, b2, b3, b4, b5, b6, b7, b8) = p at *
  obtain ⟨q0, q1, q2, q3, q4, q5, q6, q7, q8⟩ := q
  obtain ⟨p0, p1, p2, p3, p4, p5, p6, p7, p8⟩ := p
  simp only [Option.bind_some]
  rw [bytes_k _ (by omega) _ _ _ _ _ _ _ _ _ hq, bytes_k _ (by omega) _ _ _ _ _ _ _ _ _ hp]
  by_cases gq : good (q0, q1, q2, q3, q4, q5, q6, q7, q8)
  · by_cases gp : good (p0, p1, p2, p3, p4, p5, p6, p7, p8)
    · rw [if_pos gq, if_pos gp]
      simp only [Option.bind_some, if_true]
      rw [strings_k _ _ hq hp gq gp]
      simp
    · rw [if_pos gq, if_neg gp]
      simp
  · rw [if_neg gq]
    by_cases gp : good (p0, p1, p2, p3, p4, p5, p6, p7, p8)
    · rw [if_pos gp]
      simp
    · rw [if_neg gp]
      simp
theorem ReqApart_any (a0 a1 a2 a3 a4 a5 : Int) (a6 : Bool) (a7 a8 : Int) (b0 b1 b2 b3 b4 b5 : Int) (b6 : Bool) (b7 b8 : Int) (w : World)
    (ha0 : (Lit.int .i64 a0).wf = true) (ha1 : (Lit.int .i64 a1).wf = true) (ha2 : (Lit.int .i64 a2).wf = true) (ha3 : (Lit.int .i64 a3).wf = true) (ha4 : (Lit.int .i64 a4).wf = true) (ha5 : (Lit.int .i64 a5).wf = true) (ha7 : (Lit.int .i64 a7).wf = true) (ha8 : (Lit.int .i64 a8).wf = true)
    (hb0 : (Lit.int .i64 b0).wf = true) (hb1 : (Lit.int .i64 b1).wf = true) (hb2 : (Lit.int .i64 b2).wf = true) (hb3 : (Lit.int .i64 b3).wf = true) (hb4 : (Lit.int .i64 b4).wf = true) (hb5 : (Lit.int .i64 b5).wf = true) (hb7 : (Lit.int .i64 b7).wf = true) (hb8 : (Lit.int .i64 b8).wf = true) :
    Calls Try.prog 19 #[.agg #[.int .i64 a0, .int .i64 a1, .int .i64 a2, .int .i64 a3, .int .i64 a4, .int .i64 a5, .bool a6, .int .i64 a7, .int .i64 a8], .agg #[.int .i64 b0, .int .i64 b1, .int .i64 b2, .int .i64 b3, .int .i64 b4, .int .i64 b5, .bool b6, .int .i64 b7, .int .i64 b8]] w fun e w' => e = .returned (.bool true) ∧ Below w.heap.size w w' :=
  PReqApart.berthagelaw10_ReqApart.calls (18446744073709551616 + 2001) a0 a1 a2 a3 a4 a5 a6 a7 a8 b0 b1 b2 b3 b4 b5 b6 b7 b8 true w
    (law_k _ (by omega) _ _ _ _ _ _ _ _ _ _ _ _ _ _ _ _ _ _ ⟨bounds_i64 ha0, bounds_i64 ha1, bounds_i64 ha2, bounds_i64 ha3, bounds_i64 ha4, bounds_i64 ha5, bounds_i64 ha7, bounds_i64 ha8⟩ ⟨bounds_i64 hb0, bounds_i64 hb1, bounds_i64 hb2, bounds_i64 hb3, bounds_i64 hb4, bounds_i64 hb5, bounds_i64 hb7, bounds_i64 hb8⟩)
end Go.Proofs.Ytplajmcjkddikaa.Req
