/- Law 39: Cost. -/
import Derived.Test.YtmjkgnlmdcmdbaaDoorHops
namespace Go.Proofs.YtmjkgnlmdcmdbaaDoor.Topo
open Go.RowKit Go.Proofs.YtmjkgnlmdcmdbaaDoorW.PrintWords Go.Proofs.YtmjkgnlmdcmdbaaDoorW.PrintLast Go.Proofs.YtmjkgnlmdcmdbaaDoorW.PrintMore Go.Proofs.YtmjkgnlmdcmdbaaDoor.Row Go.Proofs.YtmjkgnlmdcmdbaaDoor.Sets Go.Proofs.YtmjkgnlmdcmdbaaDoor.Node
set_option linter.unusedVariables false
set_option linter.unusedSimpArgs false
set_option maxRecDepth 100000
theorem rds_at {w : World} {A : Option Addr} {l : List Int} (h : Rds (Value.int .i64) w A l) (j : Nat) (hj : j < l.length) : ∃ ad, A = some ad ∧ w.cell? (ad.add j) = some (.int .i64 (l.getD j 0)) := by
  obtain ⟨ad, e, hc⟩ := h j hj
  refine ⟨ad, e, ?_⟩
  rw [hc, List.getD_eq_getElem?_getD, List.getElem?_eq_getElem hj]
  rfl
theorem rowS_succ (f : Int → Int → Int) (l : List Int) (i : Nat) (s : Int) (k : Nat) : rowS f l i s (k + 1) = addS (rowS f l i s k) (f (l.getD k 0) (l.getD i 0)) := rfl
theorem costS_succ (f : Int → Int → Int) (l : List Int) (i : Nat) : costS f l (i + 1) = rowS f l i (costS f l i) i := rfl
theorem row_bad (f : Int → Int → Int) (l : List Int) (i k N : Nat) (hk : k < i) (hi : i < N) (h : f (l.getD k 0) (l.getD i 0) < 0) : costS f l N = -1 := by
  refine costS_none f l (i + 1) ?_ N (by omega)
  rw [costS_succ]
  refine rowS_none f l i _ (k + 1) ?_ i (by omega)
  rw [rowS_succ]
  unfold addS
  rw [if_pos (.inl h)]
set_option maxHeartbeats 2000000 in
theorem Cost_any {w : World} {b n : Nat} {va vm vd : Value} {A D : List Int} {M : List Nat} (h : TT w b va vm vd A M D) (h0 : 0 < n) (hA : A.length = n) (hM : M.length = n) (hD : D.length = n) (hl : n ≤ 64) (hml : ∀ i, M.getD i 0 < 18446744073709551616) (hdp : ∀ i, i < n → 0 ≤ D.getD i 0 ∧ D.getD i 0 ≤ i)
    (s : Nat) (hs : s < 18446744073709551616) (hT : Tab w) :
    Calls Tryd.prog 80 #[.pointer (some ⟨b, 0, none⟩), .int .u64 (s : Int)] w fun e w' => e = .returned (.int .i64 (costS (hopsS M D n) (Sets.nums (nodes s)) (lenS s))) ∧ Below w.heap.size w w' := by
  have kl := list_any s w hs hT
  unfold ListIs at kl
  have KL := Lib.hid kl
  have KH : Hid (∀ (a c : Int) (W : World), TT W b va vm vd A M D → Calls Tryd.prog 78 #[.pointer (some ⟨b, 0, none⟩), .int .i64 a, .int .i64 c] W fun e w' => e = .returned (.int .i64 (hopsS M D n c a)) ∧ Below W.heap.size W w') := Lib.hid (fun a c W hW => by rw [hopsS_back]; exact Hops_full hW h0 hA hM hD hl hml hdp a c)
  have hfb : ∀ a c, -1 ≤ hopsS M D n a c ∧ hopsS M D n a c ≤ 200 := fun a c => hopsS_in M D n h0 hl hml hdp a c
  have HFB := Lib.hid hfb
  have HT := Lib.hid h
  have hlen : (Sets.nums (nodes s)).length = lenS s := by simp [Sets.nums, lenS]
  have hl64 := lenS_le s
  obtain ⟨l, hl1⟩ : ∃ l, Sets.nums (nodes s) = l := ⟨_, rfl⟩
  obtain ⟨N, hN⟩ : ∃ N, lenS s = N := ⟨_, rfl⟩
  obtain ⟨f, hf⟩ : ∃ f, hopsS M D n = f := ⟨_, rfl⟩
  rw [hl1, hN] at KL hlen
  rw [hN] at hl64
  rw [hl1, hN, hf]
  rw [hf] at KH HFB
  have HL := Lib.hid hlen
  clear kl h hA hM hD hml hdp hT hfb hl1 hN hf hlen
  go_enter Tryd.func80, Tryd.ntmps80
  go_wp2_with (go_at_call 25; refine KL.out.mono ?_; rintro e w2 ⟨Al, c, rfl, hc, hr, hb⟩; have HB := Lib.hid hb; have HR := Lib.hid hr; have HT1 := Lib.hid (HT.out.below hb); clear hb hr)
  clear HT KL
  have HT := HT1
  clear HT1
  go_loopg [6, 16] (N + 1) (fun kq v6 v16 w' => ∃ (i : Nat) (su : Int), v6 = .int .i64 su ∧ v16 = .int .i64 i ∧ Aside0 (i + kq = N + 1 ∧ 1 ≤ kq) ∧ Aside0 (su = costS f l i ∧ 0 ≤ su) ∧ Aside0 (TT w' b va vm vd A M D) ∧ Aside0 (Rds (Value.int .i64) w' Al l) ∧ Aside0 (Below w.heap.size w w'))
  case atStart => exact ⟨0, 0, rfl, rfl, ⟨by omega, by omega⟩, ⟨rfl, by omega⟩, ⟨HT.out⟩, ⟨HR.out⟩, ⟨HB.out⟩⟩
  case round =>
    clear HT HR HB
    obtain ⟨i, su, rfl, rfl, HI, HS, HT, HR, HB⟩ := hrel
    obtain ⟨k1, rfl⟩ : ∃ k1, gk = k1 + 1 := ⟨gk - 1, by have := HI.out; omega⟩
    by_cases c1 : i < N
    · have d1 : decide (i < N) = true := decide_eq_true c1
      have d2 : decide ((i : Int) < (N : Int)) = true := decide_eq_true (by omega)
      have HC1 := Lib.hid c1
      obtain ⟨ad, rfl, q0⟩ := rds_at HR.out i (by rw [HL.out]; exact c1)
      obtain ⟨x, hx⟩ : ∃ x, l.getD i 0 = x := ⟨_, rfl⟩
      rw [hx] at q0
      have HX := Lib.hid hx
      have x0 : (0 ≤ (i : Int) ∧ (i : Int) < (N : Int)) = True := eq_true ⟨by omega, by omega⟩
      have y0 : ((i : Int) < (N : Int)) = True := eq_true (by omega)
      have xt : ((i : Int)).toNat = i := by omega
      have s1 : decide ((i : Int) ≤ (c : Int)) = true := decide_eq_true (by omega)
      have s2 : (i ≤ c) = True := eq_true (by omega)
      have s3 : (c < i) = False := eq_false (by omega)
      have s4 : ((i : Int) ≤ (c : Int)) = True := eq_true (by omega)
      clear hx
      go_wp2
      go_loopg [6, 25] (N + 1) (fun kq v6 v25 w' => ∃ (k : Nat) (sk : Int), v6 = .int .i64 sk ∧ v25 = .int .i64 k ∧ Aside0 (k + kq = N + 1 ∧ 1 ≤ kq ∧ k ≤ i) ∧ Aside0 (sk = rowS f l i su k ∧ 0 ≤ sk) ∧ Aside0 (TT w' b va vm vd A M D) ∧ Aside0 (Rds (Value.int .i64) w' (some ad) l) ∧ Aside0 (Below w.heap.size w w'))
      case atStart => exact ⟨0, su, rfl, rfl, ⟨by omega, by omega, by omega⟩, ⟨rfl, HS.out.2⟩, ⟨HT.out⟩, ⟨HR.out⟩, ⟨HB.out⟩⟩
      case round =>
        clear HT HR HB
        obtain ⟨k, sk, rfl, rfl, HK, HSK, HT, HR, HB⟩ := hrel
        obtain ⟨k2, rfl⟩ : ∃ k2, gk = k2 + 1 := ⟨gk - 1, by have := HK.out; omega⟩
        by_cases c2 : k < i
        · have e1 : decide (k < i) = true := decide_eq_true c2
          have e2 : decide ((k : Int) < (i : Int)) = true := decide_eq_true (by omega)
          have HC2 := Lib.hid c2
          obtain ⟨ad2, hae, q1⟩ := rds_at HR.out k (by rw [HL.out]; omega)
          injection hae with hae
          subst hae
          obtain ⟨y, hy⟩ : ∃ y, l.getD k 0 = y := ⟨_, rfl⟩
          rw [hy] at q1
          have HY := Lib.hid hy
          have KX := Lib.hid (fun W hW => KH.out x y W hW)
          have hfb := HFB.out y x
          have hrow : rowS f l i su (k + 1) = addS sk (f y x) := by rw [rowS_succ, hy, HX.out, HSK.out.1]
          have hbad : f y x < 0 → costS f l N = -1 := fun hh => row_bad f l i k N c2 c1 (by rw [hy, HX.out]; exact hh)
          obtain ⟨z, hz⟩ : ∃ z, f y x = z := ⟨_, rfl⟩
          rw [hz] at KX hfb hrow hbad
          have HROW := Lib.hid hrow
          have HBAD := Lib.hid hbad
          have hsb := rowS_in f (fun a c => (HFB.out a c).2) l i su 819200 (by have h1 := costS_in f (fun a c => (HFB.out a c).2) l i (by omega); have h2 := HS.out; omega) (by omega) k
          rw [← HSK.out.1] at hsb
          have hsk0 := HSK.out.2
          have u0 : (0 ≤ (k : Int) ∧ (k : Int) < (i : Int)) = True := eq_true ⟨by omega, by omega⟩
          have v0 : ((k : Int) < (i : Int)) = True := eq_true (by omega)
          have kt : ((k : Int)).toNat = k := by omega
          have wr1 : wrap64 (sk + z) = sk + z := by unfold wrap64; omega
          have wr2 : IntKind.i64.wrap (sk + z) = sk + z := by rw [IntKind.wrap_i64]; omega
          clear hy hz hrow hbad
          by_cases cz : z < 0
          · have e3 : decide (z < 0) = true := decide_eq_true cz
            go_wp2_with (go_at_call 78; refine (KX.out _ HT.out).mono ?_; rintro e w3 ⟨rfl, hb⟩; have HB1 := Lib.hid (below_step HB.out hb); clear hb)
            go_ret
            exact ⟨by rw [HBAD.out cz]; rfl, HB1.out⟩
          · have e3 : decide (z < 0) = false := decide_eq_false cz
            go_wp2_with (go_at_call 78; refine (KX.out _ HT.out).mono ?_; rintro e w3 ⟨rfl, hb⟩; have HB1 := Lib.hid (below_step HB.out hb); have HT1 := Lib.hid (HT.out.below hb); have HR1 := Lib.hid (HR.out.below hb); clear hb)
            go_roundg k2
            case measure => have := HK.out; omega
            case rel => exact ⟨k + 1, sk + z, by go_num, by go_num, ⟨by have := HK.out; omega, by have := HK.out; have := HC2.out; have := HC1.out; omega, by have := HC2.out; omega⟩, ⟨by rw [HROW.out]; unfold addS; rw [if_neg (by omega)], by omega⟩, ⟨HT1.out⟩, ⟨HR1.out⟩, ⟨HB1.out⟩⟩
        · have e1 : decide (k < i) = false := decide_eq_false c2
          have e2 : decide ((k : Int) < (i : Int)) = false := decide_eq_false (by omega)
          obtain rfl : k = i := by have := HK.out; omega
          go_wp2
          go_roundg k1
          case measure => have := HI.out; omega
          case rel => exact ⟨k + 1, sk, by go_num, by go_num, ⟨by have := HI.out; omega, by have := HI.out; have := HC1.out; omega⟩, ⟨by rw [costS_succ, ← HS.out.1]; exact HSK.out.1, HSK.out.2⟩, ⟨HT.out⟩, ⟨HR.out⟩, ⟨HB.out⟩⟩
    · have d1 : decide (i < N) = false := decide_eq_false c1
      have d2 : decide ((i : Int) < (N : Int)) = false := decide_eq_false (by omega)
      obtain rfl : i = N := by have := HI.out; omega
      go_wp2
      go_ret
      exact ⟨by rw [← HS.out.1]; rfl, HB.out⟩
end Go.Proofs.YtmjkgnlmdcmdbaaDoor.Topo
