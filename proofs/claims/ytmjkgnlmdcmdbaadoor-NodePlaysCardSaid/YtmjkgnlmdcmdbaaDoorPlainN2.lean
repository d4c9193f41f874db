/- Law 6's plain table: nodes given back, turned, taken. -/
import Derived.Test.YtmjkgnlmdcmdbaaDoorPlainN
namespace Go.Proofs.YtmjkgnlmdcmdbaaDoor.Node
open Go.RowKit Go.Proofs.YtmjkgnlmdcmdbaaDoorW.PrintWords Go.Proofs.YtmjkgnlmdcmdbaaDoorW.PrintLast Go.Proofs.YtmjkgnlmdcmdbaaDoorW.PrintMore Go.Proofs.YtmjkgnlmdcmdbaaDoor.Row Go.Proofs.YtmjkgnlmdcmdbaaDoor.Sets
set_option linter.unusedVariables false
set_option linter.unusedSimpArgs false
set_option maxRecDepth 100000
theorem st2_3 (x y : Bool) : decide (st2 x y < 3) = !y := by cases x <;> cases y <;> rfl
theorem turn06_any (N bp g cap : Nat) (l : List Int) (u d : Nat) (n : Int) (dr : Bool) (w : World) (h : PL w bp g cap l) (hp : PI N u d l) (hN : N ≤ 64) (hd : d < 18446744073709551616) :
    Calls Tryd.prog 93 #[.pointer (some ⟨bp, 0, none⟩), .int .i64 n, .bool dr] w (After N u (turnD (allS N) d n dr) bp g cap (.int .i64 (turnE (allS N) d n dr)) w) := by
  have H := Lib.hid h
  have HP := Lib.hid hp
  have c := h.c
  rw [hp.len] at c
  by_cases hn : 0 ≤ n ∧ n < (N : Int)
  · obtain ⟨k, rfl⟩ := Int.eq_ofNat_of_zero_le hn.1
    have hk : k < N := by omega
    have hk64 : k < 64 := by omega
    have ha : hasS (allS N) (k : Int) = true := by rw [hasS_at _ k hk64, allS_bit _ _ hk64]; simp [hk]
    have hdk : hasS d (k : Int) = d.testBit k := hasS_at d k hk64
    have hst := hp.st k hk
    have q1 := h.at_ k (by rw [hp.len]; exact hk)
    have f1 := h.r.soft k
    rw [hst] at q1
    have e1 : turnE (allS N) d k dr = if d.testBit k = dr then 8 else 0 := by unfold turnE; rw [if_pos ha, hdk]
    have b1 : decide ((k : Int) < 0) = false := decide_eq_false (by omega)
    have b2 : decide (N ≤ k) = false := decide_eq_false (by omega)
    have key : ∀ (D : Nat) (v : Int), (∀ j, j < 64 → D.testBit j = if j = k then !d.testBit k else d.testBit j) → v = st2 (u.testBit k) (!d.testBit k) → PI N u D (l.set k v) := fun D v hD hv => ⟨by rw [List.length_set]; exact hp.len, fun j hj => by
      rw [List.getD_eq_getElem?_getD, List.getElem?_set, hD j (by omega)]
      by_cases hjk : k = j
      · subst hjk
        rw [if_pos rfl, if_pos (by rw [hp.len]; exact hk), if_pos rfl]
        exact hv
      · rw [if_neg hjk, ← List.getD_eq_getElem?_getD, hp.st j hj, if_neg (fun e => hjk e.symm)], fun j h1 h2 => by
      rw [hD j h2, if_neg (by omega)]
      exact hp.out j h1 h2⟩
    have HK := Lib.hid key
    have hW : ∀ j, j < 64 → d.testBit k = false → (withS d k).testBit j = if j = k then !d.testBit k else d.testBit j := fun j hj hb => by
      rw [withS_bit d k j hj]
      by_cases e : j = k
      · subst e; rw [if_pos rfl, hb]; simp
      · rw [if_neg e]; have : ¬ (j : Int) = (k : Int) := by omega
        simp [this]
    have hO : ∀ j, j < 64 → d.testBit k = true → (withoutS d k).testBit j = if j = k then !d.testBit k else d.testBit j := fun j hj hb => by
      rw [withoutS_bit d k j hj]
      by_cases e : j = k
      · subst e; rw [if_pos rfl, hb]; simp
      · rw [if_neg e]; have : ¬ (j : Int) = (k : Int) := by omega
        simp [this]
    have HWW := Lib.hid hW
    have HOO := Lib.hid hO
    have e2 : turnD (allS N) d k dr = if (if d.testBit k = dr then (8 : Int) else 0) = 0 then (if dr = true then withS d k else withoutS d k) else d := by unfold turnD; rw [e1]
    rw [e2, e1]
    obtain ⟨x, hx⟩ : ∃ x, u.testBit k = x := ⟨_, rfl⟩
    obtain ⟨y, hy⟩ : ∃ y, d.testBit k = y := ⟨_, rfl⟩
    rw [hx, hy] at HK q1
    simp only [hy] at HWW HOO
    rw [hy]
    clear e1 e2 h hp ha hdk hst hn key hW hO hx hy
    cases dr <;> cases x <;> cases y <;>
    · go_enter Tryd.func93, Tryd.ntmps93
      go_wp2
      go_ret
      first
        | exact ⟨rfl, l, H.out, HP.out, Upd.refl _ _⟩
        | ((refine ⟨rfl, l.set k _, H.out.put k _, HK.out _ _ (fun j hj => HWW.out j hj ?_) rfl, Upd.set _ _⟩); first | rfl | trivial)
        | ((refine ⟨rfl, l.set k _, H.out.put k _, HK.out _ _ (fun j hj => HOO.out j hj ?_) rfl, Upd.set _ _⟩); first | rfl | trivial)
  · have ha : hasS (allS N) n = false := by
      unfold hasS
      by_cases h0 : 0 ≤ n
      · by_cases h1 : n < 64
        · rw [allS_bit _ _ (by omega)]
          have : ¬ ((n.toNat : Int) < (N : Int)) := by omega
          rw [decide_eq_false this, Bool.and_false, Bool.and_false]
        · simp [h1]
      · simp [h0]
    have e1 : turnE (allS N) d n dr = 11 := by unfold turnE; rw [ha]; rfl
    have e2 : turnD (allS N) d n dr = d := by unfold turnD; rw [e1]; rfl
    rw [e1, e2]
    clear e1 e2 ha h hp
    by_cases h0 : n < 0
    · have b1 : decide (n < 0) = true := decide_eq_true h0
      clear hn
      go_enter Tryd.func93, Tryd.ntmps93
      go_wp2
      go_ret
      exact ⟨rfl, l, H.out, HP.out, Upd.refl _ _⟩
    · have b1 : decide (n < 0) = false := decide_eq_false h0
      have b2 : decide ((N : Int) ≤ n) = true := decide_eq_true (by omega)
      clear hn
      go_enter Tryd.func93, Tryd.ntmps93
      go_wp2
      go_ret
      exact ⟨rfl, l, H.out, HP.out, Upd.refl _ _⟩
theorem give_count (N u d s : Nat) (l : List Int) (hp : PI N u d l) (hN : N ≤ 64) (hd : d < 18446744073709551616) (hin : InIs l s 2 3) : rank (fun j => s.testBit j && decide (l.getD j 0 = 2)) N = lenS (minus s d) := by
  have e : lenS (minus s d) = rank (fun j => (minus s d).testBit j) 64 := rfl
  rw [e, rank_out (fun j => (minus s d).testBit j) N 64 hN (fun j h1 h2 => by
    rw [minus_bit s d j hd h2]
    cases hb : s.testBit j
    · rfl
    · have := (hin j h2 hb).1
      rw [hp.len] at this
      omega)]
  apply rank_congr
  intro j hj
  rw [minus_bit s d j hd (by omega)]
  cases hb : s.testBit j
  · rfl
  · have h3 := (hin j (by omega) hb).2
    rw [hp.st j hj] at h3 ⊢
    cases hub : u.testBit j <;> cases hdb : d.testBit j <;> rw [hub, hdb] at h3 <;> simp [st2] at h3 ⊢
theorem give06_any (N bp g cap : Nat) (l : List Int) (u d s : Nat) (w : World) (h : PL w bp g cap l) (hp : PI N u d l) (hN : N ≤ 64) (hu : u < 18446744073709551616) (hd : d < 18446744073709551616) (hs : s < 18446744073709551616) :
    Calls Tryd.prog 92 #[.pointer (some ⟨bp, 0, none⟩), .int .u64 s] w (After N (giveU u s) d bp g cap (.tuple #[.int .i64 (giveN u d s), .int .i64 (giveE u s)]) w) := by
  have H := Lib.hid h
  have HP := Lib.hid hp
  have hlen := hp.len
  have hl64 : l.length ≤ 64 := by omega
  have K := Lib.hid (in_any bp g cap l s 2 3 w h hs hl64)
  have hin := in_used N u d s l hp hN hu hs
  by_cases hq : minus s u = 0
  · have e1 : giveE u s = 0 := by unfold giveE; rw [if_pos hq]
    have e2 : giveU u s = minus u s := by unfold giveU; rw [if_pos hq]
    have e3 : giveN u d s = (lenS (minus s d) : Nat) := by unfold giveN; rw [if_pos hq]
    rw [e1, e2, e3]
    have hI := hin.2 hq
    have HIN := Lib.hid hI
    have HCT := Lib.hid (give_count N u d s l hp hN hd hI)
    clear e1 e2 e3 hq hI hin
    go_enter Tryd.func92, Tryd.ntmps92
    go_wp2_with (go_at_call 112; refine K.out.mono ?_; rintro e w2 ⟨q, rfl, hq, rfl⟩; obtain rfl : q = true := hq.2 HIN.out; clear hq)
    have HU0 := Lib.hid (Upd.refl g w)
    clear h hp hlen
    go_loopg [6, 7] (N + 1) (fun kq v6 v7 w' => ∃ (i m : Nat) (l' : List Int), v6 = .int .i64 m ∧ v7 = .int .i64 i ∧ Aside0 (i + kq = N + 1 ∧ 1 ≤ kq ∧ m = rank (fun j => s.testBit j && decide (l.getD j 0 = 2)) i) ∧ m ≤ i ∧ Aside0 (PL w' bp g cap l') ∧ Aside0 (l'.length = l.length ∧ ∀ j, j < l.length → l'.getD j 0 = if j < i ∧ s.testBit j = true then (if l.getD j 0 = 2 then 1 else 4) else l.getD j 0) ∧ Aside0 (Upd g w w'))
    case atStart => exact ⟨0, 0, l, rfl, rfl, ⟨by omega, by omega, rfl⟩, by omega, ⟨H.out⟩, ⟨rfl, fun j hj => by rw [if_neg (by omega)]⟩, ⟨HU0.out⟩⟩
    case round =>
      clear HU0
      obtain ⟨i, m, l', rfl, rfl, HI, hmi, HL, HG, HU⟩ := hrel
      obtain ⟨k1, rfl⟩ : ∃ k1, gk = k1 + 1 := ⟨gk - 1, by have := HI.out; omega⟩
      have c := HL.out.c
      rw [HG.out.1, HP.out.len] at c
      by_cases c1 : i < N
      · have b3 : decide (i < N) = true := decide_eq_true c1
        have hi : i < l.length := by rw [HP.out.len]; exact c1
        have hi64 : i < 64 := by omega
        have KH := Lib.hid (fun W => has06_any s (i : Int) W hs)
        rw [hasS_at s i hi64] at KH
        have ST := Lib.hid (claim_step (f := fun j => if l.getD j 0 = 2 then 1 else 4) HG.out hi)
        have hrk := rank_succ (fun j => s.testBit j && decide (l.getD j 0 = 2)) i
        have hcur : l'.getD i 0 = l.getD i 0 := by rw [HG.out.2 i hi, if_neg (by omega)]
        have qa := HL.out.at_ i (by rw [HG.out.1]; exact hi)
        rw [hcur] at qa
        have fa := HL.out.r.soft i
        have hinv := HIN.out i hi64
        obtain ⟨v, hv⟩ : ∃ v, l.getD i 0 = v := ⟨_, rfl⟩
        rw [hv] at qa hinv
        simp only [hv] at ST hrk
        obtain ⟨b, hb⟩ : ∃ b, s.testBit i = b := ⟨_, rfl⟩
        rw [hb] at KH ST hinv
        simp only [hb] at hrk
        have HRK := Lib.hid hrk
        have HIV := Lib.hid hinv
        clear hb hi hcur hv hrk hinv
        cases b with
        | false =>
          go_wp2_with (go_at_call 113; refine (KH.out _).mono ?_; rintro e w2 ⟨rfl, rfl⟩)
          go_roundg k1
          case measure => have := HI.out; omega
          case rel => exact ⟨i + 1, m, l', rfl, by go_num, ⟨by have := HI.out; omega, by have := HI.out; omega, by rw [HRK.out, ← HI.out.2.2]; simp⟩, by omega, ⟨HL.out⟩, ⟨ST.out.2 (by first | rfl | trivial)⟩, ⟨HU.out⟩⟩
        | true =>
          by_cases e2 : v = 2
          · have b4 : (v == 2) = true := by simpa using e2
            have E2 := Lib.hid e2
            clear e2
            go_wp2_with (go_at_call 113; refine (KH.out _).mono ?_; rintro e w2 ⟨rfl, rfl⟩)
            go_roundg k1
            case measure => have := HI.out; omega
            case rel => exact ⟨i + 1, m + 1, l'.set i 1, by go_num, by go_num, ⟨by have := HI.out; omega, by have := HI.out; omega, by rw [HRK.out, ← HI.out.2.2]; simp [E2.out]⟩, by omega, ⟨HL.out.put i 1⟩, ⟨by have := ST.out.1 (by first | rfl | trivial); rw [if_pos E2.out] at this; exact this⟩, ⟨HU.out.setCell i _⟩⟩
          · have b4 : (v == 2) = false := by simpa using e2
            have E2 := Lib.hid e2
            clear e2
            go_wp2_with (go_at_call 113; refine (KH.out _).mono ?_; rintro e w2 ⟨rfl, rfl⟩)
            go_roundg k1
            case measure => have := HI.out; omega
            case rel => exact ⟨i + 1, m, l'.set i 4, rfl, by go_num, ⟨by have := HI.out; omega, by have := HI.out; omega, by rw [HRK.out, ← HI.out.2.2]; simp [E2.out]⟩, by omega, ⟨HL.out.put i 4⟩, ⟨by have := ST.out.1 (by first | rfl | trivial); rw [if_neg E2.out] at this; exact this⟩, ⟨HU.out.setCell i _⟩⟩
      · have b3 : decide (i < N) = false := decide_eq_false c1
        obtain rfl : i = N := by have := HI.out; omega
        have hm : m = lenS (minus s d) := HI.out.2.2.trans HCT.out
        subst hm
        go_wp2
        go_ret2
        refine ⟨rfl, l', HL.out, ⟨HG.out.1.trans HP.out.len, fun j hj => ?_, fun j h1 h2 => ?_⟩, HU.out⟩
        · rw [HG.out.2 j (by rw [HP.out.len]; exact hj), minus_bit u s j hs (by omega)]
          cases hb : s.testBit j
          · rw [if_neg (fun h => by cases h.2), HP.out.st j hj]; simp
          · rw [if_pos ⟨hj, rfl⟩]
            have h3 := (HIN.out j (by omega) hb).2
            rw [HP.out.st j hj] at h3 ⊢
            cases hub : u.testBit j <;> cases hdb : d.testBit j <;> rw [hub, hdb] at h3 <;> simp [st2] at h3 ⊢
        · rw [minus_bit u s j hs h2]
          have h3 := HP.out.out j h1 h2
          rw [h3.1, h3.2]
          exact ⟨rfl, rfl⟩
  · have e1 : giveE u s = 11 := by unfold giveE; rw [if_neg hq]
    have e2 : giveU u s = u := by unfold giveU; rw [if_neg hq]
    have e3 : giveN u d s = 0 := by unfold giveN; rw [if_neg hq]
    rw [e1, e2, e3]
    have hI : ¬ InIs l s 2 3 := fun h => hq (hin.1 h)
    have HIN := Lib.hid hI
    clear e1 e2 e3 hq hI hin h hp hlen
    go_enter Tryd.func92, Tryd.ntmps92
    go_wp2_with (go_at_call 112; refine K.out.mono ?_; rintro e w2 ⟨q, rfl, hq, rfl⟩; obtain rfl : q = false := (by cases q with | true => exact absurd (hq.1 rfl) HIN.out | false => rfl); clear hq)
    go_ret2
    exact ⟨rfl, l, H.out, HP.out, Upd.refl _ _⟩
end Go.Proofs.YtmjkgnlmdcmdbaaDoor.Node
