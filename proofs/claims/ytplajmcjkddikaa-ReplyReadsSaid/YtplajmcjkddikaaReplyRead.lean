/- reply.Read: what it reads, for every bytes. -/
import Derived.Test.YtplajmcjkddikaaReply
import Derived.Test.YtplajmcjkddikaaReader3
import Derived.Deep.RegionHeld3
import Derived.Outline
namespace Go.Proofs.Ytplajmcjkddikaa.ReplyRead
open Go.RowKit Go.Proofs.YtplajmcjkddikaaW.PrintWords Go.Proofs.YtplajmcjkddikaaW.PrintLast Go.Proofs.YtplajmcjkddikaaW.PrintMore Go.Proofs.Ytplajmcjkddikaa.Leb Go.Proofs.Ytplajmcjkddikaa.Wire Go.Proofs.Ytplajmcjkddikaa.Reader Go.Proofs.Ytplajmcjkddikaa.Lock Go.Proofs.Ytplajmcjkddikaa.Reply
set_option linter.unusedVariables false
set_option linter.unusedSimpArgs false
theorem RS.far {w0 w : World} {g : Nat} {xs : List Int} {e : Int} (h : RS w0 w g xs e) {p : Addr} (hp : g ≠ p.block) (hb : w0.heap.size ≤ p.block) (v : Value) : RS w0 (w.setCell p v) g xs e := by
  obtain ⟨A, c, h1, h2, h3⟩ := h.ex
  exact ⟨⟨A, c, blk_far h1 hp v, h2, h3⟩, h.base, h.low.setCell hb v⟩
theorem Upd.blk {b g : Nat} {w w' : World} (h : Upd b w w') {o : Obj} (hb : w.heap[g]? = some o) (hne : g ≠ b) : w'.heap[g]? = some o := (h.1.2 g (blk_lt hb) hne).trans hb
theorem Upd.size {b : Nat} {w w' : World} (h : Upd b w w') : w.heap.size ≤ w'.heap.size := h.1.1
theorem rawS_lt (xs : List Int) (hx : ∀ c ∈ xs, 0 ≤ c ∧ c < 256) (e : Int) : (rawS e xs).2.1 < 18446744073709551616 := raw_lt xs hx e
/-- the first error, behind one more -/
def errS (e v : Int) : Int := if e = 0 then v else e
/-- one number of the nine -/
def stp (m i : Nat) (s : List Int × Int × List Int) : List Int × Int × List Int :=
  if m / 2 ^ i % 2 = 0 then s
  else (s.1.set i (zag (rawS s.2.1 s.2.2).2.1), if zag (rawS s.2.1 s.2.2).2.1 = 0 then errS (rawS s.2.1 s.2.2).1 4 else (rawS s.2.1 s.2.2).1, (rawS s.2.1 s.2.2).2.2)
def sts (m : Nat) (s : List Int × Int × List Int) : Nat → List Int × Int × List Int
  | 0 => s
  | n + 1 => stp m n (sts m s n)
def headE (xs : List Int) : Int := if (byteS 0 xs).1 ≠ 184 then errS (byteS 0 xs).2.1 4 else (byteS 0 xs).2.1
def maskN (xs : List Int) : Int × Int × List Int := numS (headE xs) (byteS 0 xs).2.2
def maskE (xs : List Int) : Int := if (maskN xs).1 ≥ 512 then errS (maskN xs).2.1 4 else (maskN xs).2.1
def nineS (xs : List Int) : List Int × Int × List Int := sts (maskN xs).1.toNat ([0, 0, 0, 0, 0, 0, 0, 0, 0], maskE xs, (maskN xs).2.2) 9
def readE (xs : List Int) : Int := endS (nineS xs).2.1 (nineS xs).2.2
def readR (xs : List Int) : List Int := if readE xs = 0 then (nineS xs).1 else [0, 0, 0, 0, 0, 0, 0, 0, 0]
theorem stp_len (m i : Nat) (s : List Int × Int × List Int) : (stp m i s).1.length = s.1.length := by unfold stp; split <;> simp
theorem sts_len (m : Nat) (s : List Int × Int × List Int) : ∀ n, (sts m s n).1.length = s.1.length
  | 0 => rfl
  | n + 1 => by rw [sts, stp_len, sts_len m s n]
theorem stp_bytes (m i : Nat) (s : List Int × Int × List Int) (h : ∀ c ∈ s.2.2, 0 ≤ c ∧ c < 256) : ∀ c ∈ (stp m i s).2.2, 0 ≤ c ∧ c < 256 := by
  unfold stp; split
  · exact h
  · exact rawS_bytes _ h _
theorem sts_bytes (m : Nat) (s : List Int × Int × List Int) (h : ∀ c ∈ s.2.2, 0 ≤ c ∧ c < 256) : ∀ n, ∀ c ∈ (sts m s n).2.2, 0 ≤ c ∧ c < 256
  | 0 => h
  | n + 1 => stp_bytes _ _ _ (sts_bytes m s h n)
theorem numS_bytes (xs : List Int) (hx : ∀ c ∈ xs, 0 ≤ c ∧ c < 256) (e : Int) : ∀ c ∈ (numS e xs).2.2, 0 ≤ c ∧ c < 256 := by
  unfold numS; split <;> exact rawS_bytes xs hx e
theorem numS_lt (xs : List Int) (e : Int) : (numS e xs).1 < 9223372036854775808 := by
  unfold numS; split
  · show ((rawS e xs).2.1 : Int) < _; omega
  · simp
/-- the nine numbers in a block -/
def cells9 (l : List Int) : Array Value := (l.map (Value.int .i64)).toArray
theorem cells9_get (l : List Int) (i : Nat) (h : i < l.length) : (cells9 l)[i]? = some (.int .i64 (l.getD i 0)) := by
  simp [cells9, List.getElem?_eq_getElem h, List.getD_eq_getElem?_getD]
theorem cells9_set (l : List Int) (i : Nat) (v : Int) : (cells9 l).setIfInBounds i (.int .i64 v) = cells9 (l.set i v) := by
  simp [cells9, List.map_set]
theorem and_1i (a : Nat) (h : a < 9223372036854775808) : Go.bits .and .i64 (a : Int) 1 = ((a % 2 : Nat) : Int) := by
  have h1 : (BitVec.ofInt 64 (a : Int)).toNat = a := by
    rw [BitVec.ofInt_natCast, BitVec.toNat_ofNat]; exact Nat.mod_eq_of_lt (by omega)
  show IntKind.i64.wrap ((BitVec.ofInt 64 (a : Int) &&& BitVec.ofInt 64 1).toNat : Int) = _
  rw [BitVec.toNat_and, h1, show (BitVec.ofInt 64 1).toNat = 1 from by decide, Nat.and_one_is_mod, IntKind.wrap_i64]
  omega
theorem nine_of : ∀ {l : List Int}, l.length = 9 → ∃ a0 a1 a2 a3 a4 a5 a6 a7 a8, l = [a0, a1, a2, a3, a4, a5, a6, a7, a8]
  | [a0, a1, a2, a3, a4, a5, a6, a7, a8], _ => ⟨a0, a1, a2, a3, a4, a5, a6, a7, a8, rfl⟩
set_option maxRecDepth 100000 in
set_option maxHeartbeats 3000000 in
theorem read_any (w : World) (A : Option Addr) (c : Nat) (xs : List Int) (hC : Kd.C (Kd.int .u8) w A xs.length xs) (hc : xs.length ≤ c) (hx : ∀ c ∈ xs, 0 ≤ c ∧ c < 256) :
    Calls Try.prog 80 #[.slice A xs.length c] w fun r w' => r = .returned (.tuple #[.agg (cells9 (readR xs)), .int .i64 (readE xs)]) ∧ Below w.heap.size w w' := by
  have hu1 := Try.underlying85
  have hu2 := Try.underlying128
  go_enter Try.func80, Try.ntmps80
  go_wp2_with fail
  have z1 : Below w.heap.size w (w.alloc (.cells #[.int .i64 0, .int .i64 0, .int .i64 0, .int .i64 0, .int .i64 0, .int .i64 0, .int .i64 0, .int .i64 0, .int .i64 0] 85)) := by go_grown
  have z2 := blk_new w (.cells #[.int .i64 0, .int .i64 0, .int .i64 0, .int .i64 0, .int .i64 0, .int .i64 0, .int .i64 0, .int .i64 0, .int .i64 0] 85)
  generalize w.alloc (.cells #[.int .i64 0, .int .i64 0, .int .i64 0, .int .i64 0, .int .i64 0, .int .i64 0, .int .i64 0, .int .i64 0, .int .i64 0] 85) = W at z1 z2 ⊢
  have Z1 := Lib.hid z1
  have Z2 := Lib.hid z2
  clear z1 z2
  refine (read_rd W A c xs (Kd.C_below hC Z1.out) hc).mono ?_
  rintro e w1 ⟨rfl, hr1⟩
  obtain ⟨g, hg⟩ : ∃ g, W.heap.size = g := ⟨_, rfl⟩
  have hb1 := byte_any W w1 g xs 0 (by rw [← hg]; exact hr1)
  have HG := Lib.hid hg
  have HZ : Hid (w.heap.size < W.heap.size) := Lib.hid (blk_lt Z2.out)
  rw [hg]
  have hcb := byteS_lt xs hx 0
  have HXB := Lib.hid (byteS_bytes xs hx 0)
  have HH : Hid (headE xs = if (byteS 0 xs).1 ≠ 184 then errS (byteS 0 xs).2.1 4 else (byteS 0 xs).2.1) := Lib.hid rfl
  have HM : Hid (maskN xs = numS (headE xs) (byteS 0 xs).2.2) := Lib.hid rfl
  generalize byteS 0 xs = r at hb1 hcb HXB HH HM
  obtain ⟨c0, e0, ys⟩ := r
  try simp only at hb1 hcb
  clear hg hr1
  go_upto_if 13 with (go_at_call 101; refine hb1.mono ?_; rintro e w2 ⟨rfl, hr2, hu2⟩)
  go_cut [4] (fun v4 wx => v4 = .pointer (some ⟨g, 0, none⟩) ∧ Aside0 (RS W wx g ys (headE xs)))
  case first =>
    by_cases h : c0 = 184
    · have b0 : (c0 != 184) = false := by simpa using h
      have hh := HH.out
      rw [if_neg (by omega)] at hh
      have HH2 := Lib.hid hh
      clear hh h
      go_wp2
      go_meet
      exact ⟨rfl, ⟨by rw [HH2.out]; exact hr2⟩⟩
    · have b0 : (c0 != 184) = true := by simpa using h
      have hh := HH.out
      rw [if_pos (by omega)] at hh
      have HH2 := Lib.hid hh
      have hF := fail_any W w2 g ys e0 4 hr2
      clear hh h
      go_wp2_with (go_at_call 100; refine hF.mono ?_; rintro e w3 ⟨rfl, hr3, hu3⟩)
      go_meet
      exact ⟨rfl, ⟨by rw [HH2.out]; exact hr3⟩⟩
  case rest =>
    obtain ⟨rfl, hr2⟩ := hcut
    have hn := num_rd W wc g ys (headE xs) HXB.out hr2.out
    have hmp := numS_pos (headE xs) ys
    have hml := numS_lt ys (headE xs)
    have HNB := Lib.hid (numS_bytes ys HXB.out (headE xs))
    have hm := HM.out
    try simp only at hm
    rw [← hm] at hn hmp hml HNB
    have HE : Hid (maskE xs = if (maskN xs).1 ≥ 512 then errS (maskN xs).2.1 4 else (maskN xs).2.1) := Lib.hid rfl
    have H9 : Hid (nineS xs = sts (maskN xs).1.toNat ([0, 0, 0, 0, 0, 0, 0, 0, 0], maskE xs, (maskN xs).2.2) 9) := Lib.hid rfl
    clear hm HM HH hcb
    generalize maskN xs = r at hn hmp hml HNB HE H9
    obtain ⟨m, e1, zs⟩ := r
    try simp only at hn hmp hml HNB
    have HMP := Lib.hid hmp
    clear hmp
    have HML := Lib.hid hml
    clear hml
    go_upto_if 19 with (go_at_call 50; refine hn.mono ?_; rintro e w2 ⟨rfl, hr3, hu3⟩)
    go_cut [4, 5] (fun v4 v5 wx => v4 = .pointer (some ⟨g, 0, none⟩) ∧ v5 = .int .i64 m ∧ Aside0 (RS W wx g zs (maskE xs)))
    case first =>
      by_cases h : m ≥ 512
      · have b0 : 512 ≤ m := h
        have hh := HE.out
        rw [if_pos h] at hh
        have HH2 := Lib.hid hh
        have hF := fail_any W w2 g zs e1 4 hr3
        clear hh h
        go_wp2_with (go_at_call 100; refine hF.mono ?_; rintro e w3 ⟨rfl, hr3, hu3⟩)
        go_meet
        exact ⟨rfl, rfl, ⟨by rw [HH2.out]; exact hr3⟩⟩
      · have b0 : m < 512 := by omega
        have hh := HE.out
        rw [if_neg h] at hh
        have HH2 := Lib.hid hh
        clear hh h
        go_wp2
        go_meet
        exact ⟨rfl, rfl, ⟨by rw [HH2.out]; exact hr3⟩⟩
    case rest =>
      obtain ⟨rfl, rfl, hr3⟩ := hcut
      have H9' := H9.out
      try simp only at H9'
      have HN9 := Lib.hid H9'
      clear H9 H9' HE HXB
      go_wp2_with fail
      have y1 := blk_new wc (.cells #[.int .i64 0, .int .i64 0, .int .i64 0, .int .i64 0, .int .i64 0, .int .i64 0, .int .i64 0, .int .i64 0, .int .i64 0] 128)
      have y2 := hr3.out.below ((Below.refl wc.heap.size wc).alloc (Nat.le_refl _) (.cells #[.int .i64 0, .int .i64 0, .int .i64 0, .int .i64 0, .int .i64 0, .int .i64 0, .int .i64 0, .int .i64 0, .int .i64 0] 128))
      have y3 : g < wc.heap.size := hr3.out.lt
      generalize wc.alloc (.cells #[.int .i64 0, .int .i64 0, .int .i64 0, .int .i64 0, .int .i64 0, .int .i64 0, .int .i64 0, .int .i64 0, .int .i64 0] 128) = wd at y1 y2 ⊢
      generalize wc.heap.size = q at y1 y3 ⊢
      have Y1 : Aside0 (wd.heap[q]? = some (.cells (cells9 [0, 0, 0, 0, 0, 0, 0, 0, 0]) 128 (0, 0))) := ⟨y1⟩
      have Y2 := Aside0.mk y2
      have Y3 := Lib.hid y3
      clear y1 y2 y3 hr3 hn
      go_loopw [7, 22] (fun v7 v22 w1 => ∃ n : Nat, n ≤ 9 ∧ v22 = .int .i64 n ∧ Aside0 (RS W w1 g (sts m.toNat ([0, 0, 0, 0, 0, 0, 0, 0, 0], maskE xs, zs) n).2.2 (sts m.toNat ([0, 0, 0, 0, 0, 0, 0, 0, 0], maskE xs, zs) n).2.1) ∧ Aside0 (w1.heap[q]? = some (.cells (cells9 (sts m.toNat ([0, 0, 0, 0, 0, 0, 0, 0, 0], maskE xs, zs) n).1) 128 (0, 0)))) (fun _ i _ => 9 - (intOf i).toNat)
      case atStart => exact ⟨0, by omega, rfl, Y2, Y1⟩
      case round =>
        clear Y1 Y2
        obtain ⟨n, hn, rfl, HR, HQ⟩ := hrel
        by_cases hlt : n < 9
        · have HS : Hid (sts m.toNat ([0, 0, 0, 0, 0, 0, 0, 0, 0], maskE xs, zs) (n + 1) = stp m.toNat n (sts m.toNat ([0, 0, 0, 0, 0, 0, 0, 0, 0], maskE xs, zs) n)) := Lib.hid rfl
          have hl9 : (sts m.toNat ([0, 0, 0, 0, 0, 0, 0, 0, 0], maskE xs, zs) n).1.length = 9 := sts_len _ _ _
          have hbs := Lib.hid (sts_bytes m.toNat ([0, 0, 0, 0, 0, 0, 0, 0, 0], maskE xs, zs) HNB.out n)
          have hand : Go.bits .and .i64 (m / 2 ^ n) 1 = ((m.toNat / 2 ^ n % 2 : Nat) : Int) := by
            have e := and_1i (m.toNat / 2 ^ n) (by have := Nat.div_le_self m.toNat (2 ^ n); have := HML.out; omega)
            rw [← e]
            have e2 : ((m.toNat / 2 ^ n : Nat) : Int) = m / 2 ^ n := by
              rw [Int.natCast_ediv, Int.toNat_of_nonneg HMP.out]; push_cast; rfl
            rw [e2]
          generalize sts m.toNat ([0, 0, 0, 0, 0, 0, 0, 0, 0], maskE xs, zs) n = S at HR HQ HS hl9 hbs
          obtain ⟨l, er, ys2⟩ := S
          try simp only at HR HQ hl9 hbs
          by_cases hbit : m.toNat / 2 ^ n % 2 = 0
          · have hb0 : (Go.bits .and .i64 (m / 2 ^ n) 1 == 0) = true := by rw [hand, hbit]; rfl
            have hs2 : sts m.toNat ([0, 0, 0, 0, 0, 0, 0, 0, 0], maskE xs, zs) (n + 1) = (l, er, ys2) := by rw [HS.out]; unfold stp; rw [if_pos hbit]
            have HS2 := Lib.hid hs2
            clear hand hbit hs2
            go_wp2
            go_roundw
            case rel => exact ⟨n + 1, by omega, by go_num, by rw [HS2.out]; exact HR, by rw [HS2.out]; exact HQ⟩
            case measure => simp [intOf]; omega
          · have hb0 : (Go.bits .and .i64 (m / 2 ^ n) 1 == 0) = false := by
              rw [hand]
              have : m.toNat / 2 ^ n % 2 = 1 := by omega
              rw [this]; rfl
            have hs2 : sts m.toNat ([0, 0, 0, 0, 0, 0, 0, 0, 0], maskE xs, zs) (n + 1) = (l.set n (zag (rawS er ys2).2.1), if zag (rawS er ys2).2.1 = 0 then errS (rawS er ys2).1 4 else (rawS er ys2).1, (rawS er ys2).2.2) := by rw [HS.out]; unfold stp; rw [if_neg hbit]
            have HS2 := Lib.hid hs2
            have hsg := sign_rd W wr g ys2 er hbs.out HR.out
            generalize rawS er ys2 = r at hsg HS2
            obtain ⟨e2, u, ys3⟩ := r
            try simp only at hsg HS2
            generalize zag u = v at hsg HS2
            have hqs : q < wr.heap.size := blk_lt HQ.out
            have hl : n < l.length := by omega
            have HL9 := Lib.hid hl9
            have Hlt := Lib.hid hl
            clear hand hbit hs2 hl9 hl
            by_cases hv : v = 0
            · have b1 : (v == 0) = true := by simpa using hv
              have h3 := HS2.out
              rw [if_pos hv] at h3
              have H3 := Lib.hid h3
              clear hv h3
              go_wp2_with (first
                | (go_at_call 49; refine hsg.mono ?_; rintro e w3 ⟨rfl, hr3, hu3⟩; have hq3 := Upd.blk hu3 HQ.out (by have := Y3.out; omega); have hc3 := (blk_cell hq3 n).trans (cells9_get l n Hlt.out); have hf3 := blk_frozen hq3 n)
                | (go_at_call 100; refine (fail_any W _ g ys3 e2 4 (RS.far hr3 (by show g ≠ q; have := Y3.out; omega) (by show W.heap.size ≤ q; have := Y3.out; have := HG.out; omega) _)).mono ?_; rintro e w4 ⟨rfl, hr4, hu4⟩))
              go_roundw
              case rel => exact ⟨n + 1, by omega, by go_num, by rw [H3.out]; exact ⟨hr4⟩, by rw [H3.out]; exact ⟨Upd.blk hu4 (by rw [← cells9_set]; exact blk_set hq3 n _) (by have := Y3.out; omega)⟩⟩
              case measure => simp [intOf]; omega
            · have b1 : (v == 0) = false := by simpa using hv
              have h3 := HS2.out
              rw [if_neg hv] at h3
              have H3 := Lib.hid h3
              clear hv h3
              go_wp2_with (first
                | (go_at_call 49; refine hsg.mono ?_; rintro e w3 ⟨rfl, hr3, hu3⟩; have hq3 := Upd.blk hu3 HQ.out (by have := Y3.out; omega); have hc3 := (blk_cell hq3 n).trans (cells9_get l n Hlt.out); have hf3 := blk_frozen hq3 n))
              go_roundw
              case rel => exact ⟨n + 1, by omega, by go_num, by rw [H3.out]; exact ⟨RS.far hr3 (by show g ≠ q; have := Y3.out; omega) (by show W.heap.size ≤ q; have := Y3.out; have := HG.out; omega) _⟩, by rw [H3.out]; exact ⟨by rw [← cells9_set]; exact blk_set hq3 n _⟩⟩
              case measure => simp [intOf]; omega
        · obtain rfl : n = 9 := by omega
          rw [← HN9.out] at HR HQ
          have hl9 : (nineS xs).1.length = 9 := by rw [HN9.out]; exact sts_len _ _ _
          have HE2 : Hid (readE xs = endS (nineS xs).2.1 (nineS xs).2.2) := Lib.hid rfl
          have HR2 : Hid (readR xs = if readE xs = 0 then (nineS xs).1 else [0, 0, 0, 0, 0, 0, 0, 0, 0]) := Lib.hid rfl
          generalize nineS xs = S at HR HQ hl9 HE2 HR2
          obtain ⟨l, er, ys2⟩ := S
          try simp only at HR HQ hl9 HE2 HR2
          have hen := end_rd W wr g ys2 er HR.out
          rw [← HE2.out] at hen
          have hR2 := HR2.out
          obtain ⟨ee, hee⟩ : ∃ ee, readE xs = ee := ⟨_, rfl⟩
          rw [hee] at hen hR2
          have HEE := Lib.hid hee
          clear hee
          obtain ⟨a0, a1, a2, a3, a4, a5, a6, a7, a8, rfl⟩ := nine_of hl9
          try simp only at hR2
          clear HR2 HE2 hl9 hlt hn
          have HZ1 := Lib.hid (fun (w' : World) (h : RS W w' g ys2 ee) => show w'.heap[w.heap.size]? = some (.cells #[.int .i64 0, .int .i64 0, .int .i64 0, .int .i64 0, .int .i64 0, .int .i64 0, .int .i64 0, .int .i64 0, .int .i64 0] 85 (0, 0)) from (h.low.block w.heap.size HZ.out).trans Z2.out)
          by_cases he : ee = 0
          · subst he
            rw [if_pos rfl] at hR2
            have HRR := Lib.hid hR2
            clear hR2
            have b1 : ((0 : Int) != 0) = false := rfl
            go_wp2_with (go_at_call 54; refine hen.mono ?_; rintro e w4 ⟨rfl, hr4, hu4⟩; have hq4 := Upd.blk hu4 HQ.out (by have := Y3.out; omega); have hz4 := HZ1.out w4 hr4; have hq40 : w4.cell? ⟨q, 0, none⟩ = some (.int .i64 a0) := (blk_cell hq4 0).trans rfl; have hz40 : w4.cell? ⟨w.heap.size, 0, none⟩ = some (.int .i64 0) := (blk_cell hz4 0).trans rfl; have hf40 := blk_frozen hz4 0; have hq41 : w4.cell? ⟨q, 1, none⟩ = some (.int .i64 a1) := (blk_cell hq4 1).trans rfl; have hz41 : w4.cell? ⟨w.heap.size, 1, none⟩ = some (.int .i64 0) := (blk_cell hz4 1).trans rfl; have hf41 := blk_frozen hz4 1; have hq42 : w4.cell? ⟨q, 2, none⟩ = some (.int .i64 a2) := (blk_cell hq4 2).trans rfl; have hz42 : w4.cell? ⟨w.heap.size, 2, none⟩ = some (.int .i64 0) := (blk_cell hz4 2).trans rfl; have hf42 := blk_frozen hz4 2; have hq43 : w4.cell? ⟨q, 3, none⟩ = some (.int .i64 a3) := (blk_cell hq4 3).trans rfl; have hz43 : w4.cell? ⟨w.heap.size, 3, none⟩ = some (.int .i64 0) := (blk_cell hz4 3).trans rfl; have hf43 := blk_frozen hz4 3; have hq44 : w4.cell? ⟨q, 4, none⟩ = some (.int .i64 a4) := (blk_cell hq4 4).trans rfl; have hz44 : w4.cell? ⟨w.heap.size, 4, none⟩ = some (.int .i64 0) := (blk_cell hz4 4).trans rfl; have hf44 := blk_frozen hz4 4; have hq45 : w4.cell? ⟨q, 5, none⟩ = some (.int .i64 a5) := (blk_cell hq4 5).trans rfl; have hz45 : w4.cell? ⟨w.heap.size, 5, none⟩ = some (.int .i64 0) := (blk_cell hz4 5).trans rfl; have hf45 := blk_frozen hz4 5; have hq46 : w4.cell? ⟨q, 6, none⟩ = some (.int .i64 a6) := (blk_cell hq4 6).trans rfl; have hz46 : w4.cell? ⟨w.heap.size, 6, none⟩ = some (.int .i64 0) := (blk_cell hz4 6).trans rfl; have hf46 := blk_frozen hz4 6; have hq47 : w4.cell? ⟨q, 7, none⟩ = some (.int .i64 a7) := (blk_cell hq4 7).trans rfl; have hz47 : w4.cell? ⟨w.heap.size, 7, none⟩ = some (.int .i64 0) := (blk_cell hz4 7).trans rfl; have hf47 := blk_frozen hz4 7; have hq48 : w4.cell? ⟨q, 8, none⟩ = some (.int .i64 a8) := (blk_cell hq4 8).trans rfl; have hz48 : w4.cell? ⟨w.heap.size, 8, none⟩ = some (.int .i64 0) := (blk_cell hz4 8).trans rfl; have hf48 := blk_frozen hz4 8)
            have s8 := (blk_set (blk_set (blk_set (blk_set (blk_set (blk_set (blk_set (blk_set (blk_set hz4 0 (.int .i64 a0)) 1 (.int .i64 a1)) 2 (.int .i64 a2)) 3 (.int .i64 a3)) 4 (.int .i64 a4)) 5 (.int .i64 a5)) 6 (.int .i64 a6)) 7 (.int .i64 a7)) 8 (.int .i64 a8))
            simp only [List.setIfInBounds_toArray, List.set_cons_zero, List.set_cons_succ] at s8
            rw [HEE.out, HRR.out]
            refine bodyPost_ret (results_ct (g := w.heap.size) Try.results80 _ _ 85 #[.int .i64 a0, .int .i64 a1, .int .i64 a2, .int .i64 a3, .int .i64 a4, .int .i64 a5, .int .i64 a6, .int .i64 a7, .int .i64 a8] (0, 0) _ rfl s8 hu1 rfl (by kernel_rfl)) rfl ⟨by rfl, ?_⟩
            exact (((((((((Z1.out.trans (hr4.low.mono Z1.out.size)).setCell (Nat.le_refl _) _).setCell (Nat.le_refl _) _).setCell (Nat.le_refl _) _).setCell (Nat.le_refl _) _).setCell (Nat.le_refl _) _).setCell (Nat.le_refl _) _).setCell (Nat.le_refl _) _).setCell (Nat.le_refl _) _).setCell (Nat.le_refl _) _
          · rw [if_neg he] at hR2
            have HRR := Lib.hid hR2
            clear hR2
            have b1 : (ee != 0) = true := by simpa using he
            go_wp2_with (go_at_call 54; refine hen.mono ?_; rintro e w4 ⟨rfl, hr4, hu4⟩; have hz4 := HZ1.out w4 hr4; have hz40 : w4.cell? ⟨w.heap.size, 0, none⟩ = some (.int .i64 0) := (blk_cell hz4 0).trans rfl; have hf40 := blk_frozen hz4 0; have hz41 : w4.cell? ⟨w.heap.size, 1, none⟩ = some (.int .i64 0) := (blk_cell hz4 1).trans rfl; have hf41 := blk_frozen hz4 1; have hz42 : w4.cell? ⟨w.heap.size, 2, none⟩ = some (.int .i64 0) := (blk_cell hz4 2).trans rfl; have hf42 := blk_frozen hz4 2; have hz43 : w4.cell? ⟨w.heap.size, 3, none⟩ = some (.int .i64 0) := (blk_cell hz4 3).trans rfl; have hf43 := blk_frozen hz4 3; have hz44 : w4.cell? ⟨w.heap.size, 4, none⟩ = some (.int .i64 0) := (blk_cell hz4 4).trans rfl; have hf44 := blk_frozen hz4 4; have hz45 : w4.cell? ⟨w.heap.size, 5, none⟩ = some (.int .i64 0) := (blk_cell hz4 5).trans rfl; have hf45 := blk_frozen hz4 5; have hz46 : w4.cell? ⟨w.heap.size, 6, none⟩ = some (.int .i64 0) := (blk_cell hz4 6).trans rfl; have hf46 := blk_frozen hz4 6; have hz47 : w4.cell? ⟨w.heap.size, 7, none⟩ = some (.int .i64 0) := (blk_cell hz4 7).trans rfl; have hf47 := blk_frozen hz4 7; have hz48 : w4.cell? ⟨w.heap.size, 8, none⟩ = some (.int .i64 0) := (blk_cell hz4 8).trans rfl; have hf48 := blk_frozen hz4 8)
            have s8 := (blk_set (blk_set (blk_set (blk_set (blk_set (blk_set (blk_set (blk_set (blk_set hz4 0 (.int .i64 0)) 1 (.int .i64 0)) 2 (.int .i64 0)) 3 (.int .i64 0)) 4 (.int .i64 0)) 5 (.int .i64 0)) 6 (.int .i64 0)) 7 (.int .i64 0)) 8 (.int .i64 0))
            simp only [List.setIfInBounds_toArray, List.set_cons_zero, List.set_cons_succ] at s8
            rw [HEE.out, HRR.out]
            refine bodyPost_ret (results_ct (g := w.heap.size) Try.results80 _ _ 85 #[.int .i64 0, .int .i64 0, .int .i64 0, .int .i64 0, .int .i64 0, .int .i64 0, .int .i64 0, .int .i64 0, .int .i64 0] (0, 0) _ rfl s8 hu1 rfl (by kernel_rfl)) rfl ⟨by rfl, ?_⟩
            exact (((((((((Z1.out.trans (hr4.low.mono Z1.out.size)).setCell (Nat.le_refl _) _).setCell (Nat.le_refl _) _).setCell (Nat.le_refl _) _).setCell (Nat.le_refl _) _).setCell (Nat.le_refl _) _).setCell (Nat.le_refl _) _).setCell (Nat.le_refl _) _).setCell (Nat.le_refl _) _).setCell (Nat.le_refl _) _
end Go.Proofs.Ytplajmcjkddikaa.ReplyRead
