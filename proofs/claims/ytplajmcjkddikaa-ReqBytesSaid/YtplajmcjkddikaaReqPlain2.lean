/- The request's plain law: what is put is read again, and what is read was put. No walk in this text. -/
import Derived.Test.YtplajmcjkddikaaReqRead2
namespace Go.Proofs.Ytplajmcjkddikaa.ReqLaw
open Go.Proofs.Ytplajmcjkddikaa.Leb Go.Proofs.Ytplajmcjkddikaa.Wire Go.Proofs.Ytplajmcjkddikaa.Reader Go.Proofs.Ytplajmcjkddikaa.Req Go.Proofs.Ytplajmcjkddikaa.ReqRead
set_option linter.unusedVariables false
set_option linter.unusedSimpArgs false
theorem raw_sgn2 (v : Int) (h : In64 v) (rest : List Int) : rawS 0 (sgn v ++ rest) = (0, zig v, rest) := by
  unfold rawS sgn
  rw [if_pos rfl, raw_enc rest (zig v) 0 (by omega) (by rw [lim0]; exact zig_lt v h) (by omega)]
theorem fin_ok (q : Q) : ReqRead.fin q 0 [] = (q, 0) := rfl
theorem rd_one (q : Q) (v : Int) (h : In64 v) : ReqRead.fin q (rawS 0 (sgn v)).1 (rawS 0 (sgn v)).2.2 = (q, 0) ∧ zag (rawS 0 (sgn v)).2.1 = v := by
  have := raw_sgn2 v h []
  rw [List.append_nil] at this
  rw [this]
  exact ⟨rfl, zag_zig v⟩
theorem good_kind {q : Q} (h : good q) : 1 ≤ q.1 ∧ q.1 ≤ 13 := ⟨h.1, h.2.1⟩
/-- what stands between the head and the sum -/
def midB : Q → List Int := fun (a0, a1, a2, a3, a4, a5, a6, a7, a8) =>
  if a0 = 1 then sgns [a2, a3, a4, a5] ++ [if a6 = true then 1 else 0]
  else if a0 = 2 ∨ a0 = 3 ∨ a0 = 4 ∨ a0 = 5 ∨ a0 = 6 then sgns [a1]
  else if a0 = 7 ∨ a0 = 8 then sgns [a7]
  else if a0 = 9 then sgns [a8] else []
theorem body_mid (q : Q) (h : 1 ≤ q.1 ∧ q.1 ≤ 13) : body q = 183 :: q.1 :: midB q := by
  obtain ⟨a0, a1, a2, a3, a4, a5, a6, a7, a8⟩ := q
  simp only at h
  simp only [body, midB]
  rw [Int.emod_eq_of_lt (by omega) (by omega)]
  rfl
theorem sgns1 (a : Int) : sgns [a] = sgn a := by simp [sgns]
theorem boolS_bit (b : Bool) : boolS 0 [if b = true then 1 else 0] = (b, 0, []) := by cases b <;> rfl
theorem rd_mid (q : Q) (hq : rng q) (hg : good q) : rd q.1 (midB q) = (q, 0) := by
  obtain ⟨a0, a1, a2, a3, a4, a5, a6, a7, a8⟩ := q
  obtain ⟨h0, h1, h2, h3, h4, h5, h7, h8⟩ := hq
  obtain ⟨g1, g2, g3⟩ := hg
  simp only at g1 g2 g3
  simp only [rd, midB]
  by_cases c1 : a0 = 1
  · subst c1
    simp only [cl, if_true, Prod.mk.injEq] at g3
    obtain ⟨-, e1, -, -, -, -, -, e7, e8⟩ := g3
    subst e1 e7 e8
    simp only [if_true]
    have hs : sgns [a2, a3, a4, a5] ++ [if a6 = true then 1 else 0] = sgn a2 ++ (sgn a3 ++ (sgn a4 ++ (sgn a5 ++ [if a6 = true then 1 else 0]))) := by simp [sgns]
    rw [hs]
    unfold five
    rw [raw_sgn2 a2 h2]
    simp only
    rw [raw_sgn2 a3 h3]
    simp only
    rw [raw_sgn2 a4 h4]
    simp only
    rw [raw_sgn2 a5 h5]
    simp only
    rw [boolS_bit]
    simp only [zag_zig]
    rfl
  · rw [if_neg c1, if_neg c1]
    by_cases c2 : a0 = 2 ∨ a0 = 3 ∨ a0 = 4 ∨ a0 = 5 ∨ a0 = 6
    · rw [if_pos c2, if_pos c2, sgns1, (rd_one _ a1 h1).1, (rd_one (a0, a1, a2, a3, a4, a5, a6, a7, a8) a1 h1).2]
      simp only [cl, if_neg c1, if_pos c2] at g3
      rw [g3]
    · rw [if_neg c2, if_neg c2]
      by_cases c3 : a0 = 7 ∨ a0 = 8
      · rw [if_pos c3, if_pos c3, sgns1, (rd_one _ a7 h7).1, (rd_one (a0, a1, a2, a3, a4, a5, a6, a7, a8) a7 h7).2]
        simp only [cl, if_neg c1, if_neg c2, if_pos c3] at g3
        rw [g3]
      · rw [if_neg c3, if_neg c3]
        by_cases c4 : a0 = 9
        · rw [if_pos c4, if_pos c4, sgns1, (rd_one _ a8 h8).1, (rd_one (a0, a1, a2, a3, a4, a5, a6, a7, a8) a8 h8).2]
          simp only [cl, if_neg c1, if_neg c2, if_neg c3, if_pos c4] at g3
          rw [g3]
        · rw [if_neg c4, if_neg c4, fin_ok]
          simp only [cl, if_neg c1, if_neg c2, if_neg c3, if_neg c4] at g3
          rw [g3]
theorem rq_body (q : Q) (hq : rng q) (hg : good q) : rq (body q ++ [sm (body q)]) = (q, 0) := by
  have hl := body_len q hq
  have hb := body_mid q (good_kind hg)
  have hm : (midB q).length ≤ 41 := by rw [hb] at hl; simp only [List.length_cons] at hl; omega
  rw [hb, List.cons_append, List.cons_append, rq_three _ _ _ _ (by omega), if_neg, rd_mid q hq hg]
  rintro (h | h | h)
  · exact h rfl
  · exact h (good_kind hg)
  · exact h rfl
/-! ### back -/
theorem raw_inv (e : Int) (ys : List Int) (hb : ∀ c ∈ ys, 0 ≤ c ∧ c < 256) (h : (rawS e ys).1 = 0) :
    e = 0 ∧ ys = sgn (zag (rawS e ys).2.1) ++ (rawS e ys).2.2 ∧ In64 (zag (rawS e ys).2.1) := by
  have he : e = 0 := by
    apply Classical.byContradiction
    intro hn
    unfold rawS at h
    rw [if_neg hn] at h
    exact hn h
  subst he
  refine ⟨rfl, ?_⟩
  unfold rawS at h ⊢
  rw [if_pos rfl] at h ⊢
  have hr : raw 0 ys = (0, (raw 0 ys).2.1, (raw 0 ys).2.2) := by rw [← h]
  obtain ⟨h4, h5, _⟩ := raw_back ys 0 (raw 0 ys).2.1 (raw 0 ys).2.2 (by omega) hb hr
  rw [lim0] at h5
  refine ⟨?_, zag_range _ h5⟩
  rw [sgn, zig_zag]
  exact h4
theorem bool_inv (e : Int) (ys : List Int) (hb : ∀ c ∈ ys, 0 ≤ c ∧ c < 256) (h : (boolS e ys).2.1 = 0) : e = 0 ∧ ys = (if (boolS e ys).1 = true then 1 else 0) :: (boolS e ys).2.2 := by
  cases ys with
  | nil =>
    exfalso
    by_cases he : e = 0 <;> simp [boolS, byteS, he] at h
  | cons c t =>
    have hc := hb c (by simp)
    by_cases he : e = 0
    · subst he
      refine ⟨rfl, ?_⟩
      unfold boolS byteS at h ⊢
      simp only [if_true] at h ⊢
      by_cases h1 : c > 1
      · rw [if_pos h1] at h; simp at h
      · rw [if_neg h1]
        rcases (by omega : c = 0 ∨ c = 1) with rfl | rfl <;> rfl
    · exfalso
      unfold boolS byteS at h
      simp only [if_neg he] at h
      split at h
      · omega
      · exact he h
theorem fin_inv (q x : Q) (e : Int) (ys : List Int) (h : ReqRead.fin q e ys = (x, 0)) : x = q ∧ e = 0 ∧ ys = [] := by
  unfold ReqRead.fin at h
  split at h
  · rename_i he
    simp only [Prod.mk.injEq, and_true] at h
    unfold endS at he
    split at he
    · omega
    · rename_i hc
      exact ⟨h.symm, he, Classical.byContradiction fun hn => hc ⟨he, hn⟩⟩
  · simp at h
theorem In64_0 : In64 0 := by unfold In64; omega
theorem rd_inv (k : Int) (ys : List Int) (x : Q) (hk : 1 ≤ k ∧ k ≤ 13) (hb : ∀ c ∈ ys, 0 ≤ c ∧ c < 256) (h : rd k ys = (x, 0)) : x.1 = k ∧ good x ∧ rng x ∧ midB x = ys := by
  have hk64 : In64 k := by unfold In64; omega
  unfold rd at h
  by_cases c1 : k = 1
  · subst c1
    rw [if_pos rfl] at h
    obtain ⟨rfl, he, hy⟩ := fin_inv _ _ _ _ h
    clear h
    unfold five at he hy ⊢
    simp only at he hy ⊢
    obtain ⟨e5, e6⟩ := bool_inv _ _ (rawS_bytes _ (rawS_bytes _ (rawS_bytes _ (rawS_bytes _ hb 0) _) _) _) he
    obtain ⟨e4, f4, g4⟩ := raw_inv _ _ (rawS_bytes _ (rawS_bytes _ (rawS_bytes _ hb 0) _) _) e5
    obtain ⟨e3, f3, g3⟩ := raw_inv _ _ (rawS_bytes _ (rawS_bytes _ hb 0) _) e4
    obtain ⟨e2, f2, g2⟩ := raw_inv _ _ (rawS_bytes _ hb 0) e3
    obtain ⟨_, f1, g1⟩ := raw_inv 0 ys hb e2
    refine ⟨?_, ⟨by simp, by simp, by simp [cl]⟩, ⟨hk64, In64_0, g1, g2, g3, g4, In64_0, In64_0⟩, ?_⟩
    · first | rfl | trivial
    rw [hy] at e6
    simp only [midB, if_true]
    conv => rhs; rw [f1, f2, f3, f4, e6]
    simp [sgns]
  · rw [if_neg c1] at h
    by_cases c2 : k = 2 ∨ k = 3 ∨ k = 4 ∨ k = 5 ∨ k = 6
    · rw [if_pos c2] at h
      obtain ⟨rfl, he, hy⟩ := fin_inv _ _ _ _ h
      obtain ⟨_, f1, g1⟩ := raw_inv 0 ys hb he
      rw [hy, List.append_nil] at f1
      refine ⟨rfl, ⟨hk.1, hk.2, by simp only [cl]; rw [if_neg c1, if_pos c2]⟩, ⟨hk64, g1, In64_0, In64_0, In64_0, In64_0, In64_0, In64_0⟩, ?_⟩
      simp only [midB]
      rw [if_neg c1, if_pos c2, sgns1]
      exact f1.symm
    · rw [if_neg c2] at h
      by_cases c3 : k = 7 ∨ k = 8
      · rw [if_pos c3] at h
        obtain ⟨rfl, he, hy⟩ := fin_inv _ _ _ _ h
        obtain ⟨_, f1, g1⟩ := raw_inv 0 ys hb he
        rw [hy, List.append_nil] at f1
        refine ⟨rfl, ⟨hk.1, hk.2, by simp only [cl]; rw [if_neg c1, if_neg c2, if_pos c3]⟩, ⟨hk64, In64_0, In64_0, In64_0, In64_0, In64_0, g1, In64_0⟩, ?_⟩
        simp only [midB]
        rw [if_neg c1, if_neg c2, if_pos c3, sgns1]
        exact f1.symm
      · rw [if_neg c3] at h
        by_cases c4 : k = 9
        · rw [if_pos c4] at h
          obtain ⟨rfl, he, hy⟩ := fin_inv _ _ _ _ h
          obtain ⟨_, f1, g1⟩ := raw_inv 0 ys hb he
          rw [hy, List.append_nil] at f1
          refine ⟨rfl, ⟨hk.1, hk.2, by simp only [cl]; rw [if_neg c1, if_neg c2, if_neg c3, if_pos c4]⟩, ⟨hk64, In64_0, In64_0, In64_0, In64_0, In64_0, In64_0, g1⟩, ?_⟩
          simp only [midB]
          rw [if_neg c1, if_neg c2, if_neg c3, if_pos c4, sgns1]
          exact f1.symm
        · rw [if_neg c4] at h
          obtain ⟨rfl, he, hy⟩ := fin_inv _ _ _ _ h
          refine ⟨rfl, ⟨hk.1, hk.2, by simp only [cl]; rw [if_neg c1, if_neg c2, if_neg c3, if_neg c4]⟩, ⟨hk64, In64_0, In64_0, In64_0, In64_0, In64_0, In64_0, In64_0⟩, ?_⟩
          simp only [midB]
          rw [if_neg c1, if_neg c2, if_neg c3, if_neg c4]
          exact hy.symm
theorem rq_inv (b : List Int) (hb : ∀ c ∈ b, 0 ≤ c ∧ c < 256) (x : Q) (h : rq b = (x, 0)) : good x ∧ rng x ∧ body x ++ [sm (body x)] = b := by
  by_cases h1 : 64 < b.length
  · unfold rq at h; rw [if_pos h1] at h; simp at h
  by_cases h2 : b.length < 3
  · unfold rq at h; rw [if_neg h1, if_pos h2] at h; simp at h
  obtain ⟨b0, b1, mid, last, rfl⟩ := three_of b (by omega)
  have hl : (b0 :: b1 :: (mid ++ [last])).length = mid.length + 3 := by simp
  rw [rq_three b0 b1 last mid (by omega)] at h
  split at h
  · simp at h
  · rename_i hc
    have g1 : b0 = 183 := Classical.byContradiction fun h => hc (.inl h)
    have g2 : 1 ≤ b1 ∧ b1 ≤ 13 := Classical.byContradiction fun h => hc (.inr (.inl h))
    have g3 : sm (b0 :: b1 :: mid) = last := Classical.byContradiction fun h => hc (.inr (.inr h))
    obtain ⟨r1, r2, r3, r4⟩ := rd_inv b1 mid x g2 (fun c hm => hb c (by simp [hm])) h
    have hbm := body_mid x (by rw [r1]; exact g2)
    rw [r1, r4] at hbm
    refine ⟨r2, r3, ?_⟩
    rw [hbm, ← g1, g3]
    rfl
theorem rq_bad (b : List Int) (h1 : ¬ 64 < b.length) (h2 : ¬ b.length < 3) (h : (rq b).2 ≠ 0) : rq b = (q0, 4) := by
  obtain ⟨b0, b1, mid, last, rfl⟩ := three_of b (by omega)
  have hl : (b0 :: b1 :: (mid ++ [last])).length = mid.length + 3 := by simp
  rw [rq_three b0 b1 last mid (by omega)] at h ⊢
  split
  · rfl
  · rename_i hc
    rw [if_neg hc] at h
    have key : ∀ q e ys, (ReqRead.fin q e ys).2 ≠ 0 → ReqRead.fin q e ys = (q0, 4) := by
      intro q e ys h
      unfold ReqRead.fin at h ⊢
      split
      · rename_i he; rw [if_pos he] at h; exact absurd rfl h
      · rfl
    unfold rd at h ⊢
    by_cases c1 : b1 = 1
    · rw [if_pos c1] at h ⊢; exact key _ _ _ h
    rw [if_neg c1] at h ⊢
    by_cases c2 : b1 = 2 ∨ b1 = 3 ∨ b1 = 4 ∨ b1 = 5 ∨ b1 = 6
    · rw [if_pos c2] at h ⊢; exact key _ _ _ h
    rw [if_neg c2] at h ⊢
    by_cases c3 : b1 = 7 ∨ b1 = 8
    · rw [if_pos c3] at h ⊢; exact key _ _ _ h
    rw [if_neg c3] at h ⊢
    by_cases c4 : b1 = 9
    · rw [if_pos c4] at h ⊢; exact key _ _ _ h
    rw [if_neg c4] at h ⊢
    exact key _ _ _ h
end Go.Proofs.Ytplajmcjkddikaa.ReqLaw
