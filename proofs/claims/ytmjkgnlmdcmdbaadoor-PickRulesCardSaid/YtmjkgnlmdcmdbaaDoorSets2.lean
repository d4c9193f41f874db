/- Package set, by hand walks: without a node, how many, the lowest, the highest, the first, rows, lists; the lowest asks for the library's table. -/
import Derived.Test.YtmjkgnlmdcmdbaaDoorSets
import Derived.Laws.BitsAllLaws
import Derived.Laws.Bits64
import Derived.Test.YtmjkgnlmdcmdbaaDoorSetsLen
namespace Go.Proofs.YtmjkgnlmdcmdbaaDoor.Sets
open Go.RowKit Go.Proofs.YtmjkgnlmdcmdbaaDoorW.PrintWords Go.Proofs.YtmjkgnlmdcmdbaaDoorW.PrintMore
set_option linter.unusedVariables false
set_option linter.unusedSimpArgs false
theorem without_any (s : Nat) (n : Int) (w : World) (hs : s < 18446744073709551616) :
    Calls Tryd.prog 31 #[.int .u64 s, .int .i64 n] w fun e w' => e = .returned (.int .u64 (withoutS s n : Nat)) ∧ w = w' := by
  rcases (by omega : n < 0 ∨ (0 ≤ n ∧ 64 ≤ n) ∨ (0 ≤ n ∧ n < 64)) with h | ⟨h0, h⟩ | ⟨h0, h1⟩
  · have e : withoutS s n = s := by unfold withoutS; rw [if_neg (by omega)]
    rw [e]
    clear e
    go_enter Tryd.func31, Tryd.ntmps31
    go_wp2; go_ret; exact ⟨rfl, rfl⟩
  · have e : withoutS s n = s := by unfold withoutS; rw [if_neg (by omega)]
    rw [e]
    clear e
    go_enter Tryd.func31, Tryd.ntmps31
    go_wp2; go_ret; exact ⟨rfl, rfl⟩
  · have e : bits .andNot .u64 (s : Int) (IntKind.u64.wrap (2 ^ n.toNat)) = (withoutS s n : Nat) := by
      unfold withoutS
      rw [if_pos ⟨h0, h1⟩, pow_wrap _ (by omega), u64_andNot_nat _ _ hs (pow_lt _ (by omega))]
    have E := Lib.hid e
    clear e
    go_enter Tryd.func31, Tryd.ntmps31
    go_wp2; go_ret; exact ⟨by rw [← E.out]; rfl, rfl⟩
/-- how many nodes -/
def lenS (s : Nat) : Nat := (nodes s).length
theorem lenS_le (s : Nat) : lenS s ≤ 64 := by
  have := List.length_filter_le (fun i => s.testBit i) (List.range 64)
  simpa [lenS, nodes] using this
theorem i64_and_nat (a b : Nat) (ha : a < 9223372036854775808) (hb : b < 9223372036854775808) : bits .and .i64 (a : Int) (b : Int) = ((a &&& b : Nat) : Int) := by
  have hx : a &&& b < 2 ^ 63 := Nat.and_lt_two_pow _ (by omega)
  have h1 : ∀ a : Nat, a < 9223372036854775808 → (BitVec.ofInt 64 (a : Int)).toNat = a := fun a ha => by
    rw [BitVec.ofInt_natCast, BitVec.toNat_ofNat]; exact Nat.mod_eq_of_lt (by omega)
  show IntKind.i64.wrap ((BitVec.ofInt 64 (a : Int) &&& BitVec.ofInt 64 (b : Int)).toNat : Int) = _
  rw [BitVec.toNat_and, h1 a ha, h1 b hb, IntKind.wrap_i64]
  omega
theorem u64w (n : Int) (h0 : 0 ≤ n) (h1 : n < 18446744073709551616) : IntKind.u64.wrap n = n := by rw [IntKind.wrap_u64]; omega
theorem ones_any (s : Nat) (w : World) (hs : s < 18446744073709551616) :
    Calls Tryd.prog 85 #[.int .u64 s] w fun e w' => e = .returned (.int .i64 (lenS s : Nat)) ∧ w = w' := by
  obtain ⟨a, b, y, ha, hal, hb, hbl, hb2, hy, h1, h2, h3, h4⟩ := swar s hs
  obtain ⟨y1, e1⟩ : ∃ y1, y + y / 256 = y1 := ⟨_, rfl⟩
  rw [e1] at h1 h2 h3 h4
  obtain ⟨y2, e2⟩ : ∃ y2, y1 + y1 / 65536 = y2 := ⟨_, rfl⟩
  rw [e2] at h2 h3 h4
  obtain ⟨y3, e3⟩ : ∃ y3, y2 + y2 / 4294967296 = y3 := ⟨_, rfl⟩
  rw [e3] at h3 h4
  have yl : y < 18446744073709551616 := by omega
  have A1 := bits_and_u64_nat (s / 2) 6148914691236517205 (by omega) (by omega)
  have A2 := bits_and_u64_nat s 6148914691236517205 hs (by omega)
  have B1 := bits_and_u64_nat (a / 4) 3689348814741910323 (by omega) (by omega)
  have B2 := bits_and_u64_nat a 3689348814741910323 hal (by omega)
  have C1 := bits_and_u64_nat (b / 16 + b) 1085102592571150095 hb2 (by omega)
  have D1 := i64_and_nat y3 127 h3 (by omega)
  have m7 : y3 &&& 127 = y3 % 128 := Nat.and_two_pow_sub_one_eq_mod y3 7
  have k1 : IntKind.u64.wrap (bits BinOp.and IntKind.u64 ((s : Int) / 2) 6148914691236517205 + bits BinOp.and IntKind.u64 (s : Int) 6148914691236517205) = (a : Int) := by
    have e : ((s : Int) / 2) = ((s / 2 : Nat) : Int) := by omega
    rw [e]
    rw [show ((6148914691236517205 : Nat) : Int) = 6148914691236517205 from rfl] at A1 A2
    rw [A1, A2, u64w _ (by omega) (by omega)]
    omega
  have k2 : IntKind.u64.wrap (bits BinOp.and IntKind.u64 ((a : Int) / 4) 3689348814741910323 + bits BinOp.and IntKind.u64 (a : Int) 3689348814741910323) = (b : Int) := by
    have e : ((a : Int) / 4) = ((a / 4 : Nat) : Int) := by omega
    rw [e]
    rw [show ((3689348814741910323 : Nat) : Int) = 3689348814741910323 from rfl] at B1 B2
    rw [B1, B2, u64w _ (by omega) (by omega)]
    omega
  have k3 : bits BinOp.and IntKind.u64 (IntKind.u64.wrap ((b : Int) / 16 + (b : Int))) 1085102592571150095 = (y : Int) := by
    have e : ((b : Int) / 16 + (b : Int)) = ((b / 16 + b : Nat) : Int) := by omega
    rw [u64w _ (by omega) (by omega), e]
    rw [show ((1085102592571150095 : Nat) : Int) = 1085102592571150095 from rfl] at C1
    rw [C1, hy]
  have k4 : IntKind.u64.wrap ((y : Int) + (y : Int) / 256) = (y1 : Int) := by rw [u64w _ (by omega) (by omega)]; omega
  have k5 : IntKind.u64.wrap ((y1 : Int) + (y1 : Int) / 65536) = (y2 : Int) := by rw [u64w _ (by omega) (by omega)]; omega
  have k6 : IntKind.u64.wrap ((y2 : Int) + (y2 : Int) / 4294967296) = (y3 : Int) := by rw [u64w _ (by omega) (by omega)]; omega
  have k7 : IntKind.i64.wrap (y3 : Int) = (y3 : Int) := by rw [IntKind.wrap_i64]; omega
  have k7' : wrap64 (y3 : Int) = (y3 : Int) := by unfold wrap64; omega
  have k8 : bits BinOp.and IntKind.i64 (y3 : Int) 127 = (lenS s : Nat) := by
    rw [show ((127 : Nat) : Int) = 127 from rfl] at D1
    rw [D1, m7, h4]
    rfl
  clear ha hal hb hbl hb2 hy h1 h2 h3 h4 e1 e2 e3 yl A1 A2 B1 B2 C1 D1 m7
  go_enter Tryd.func85, Tryd.ntmps85
  go_wp2
  go_ret
  exact ⟨by first | rfl | (simp [*]; done), rfl⟩
theorem len_any (s : Nat) (w : World) (hs : s < 18446744073709551616) :
    Calls Tryd.prog 32 #[.int .u64 s] w fun e w' => e = .returned (.int .i64 (lenS s : Nat)) ∧ w = w' := by
  go_enter Tryd.func32, Tryd.ntmps32
  go_wp2_with (go_at_call 85; refine (ones_any s _ hs).mono ?_; rintro e w2 ⟨rfl, rfl⟩)
  go_ret
  exact ⟨rfl, rfl⟩
/-- the first n nodes -/
def allS (n : Int) : Nat := if n ≤ 0 then 0 else if 64 ≤ n then 18446744073709551615 else 2 ^ n.toNat - 1
theorem allS_lt (n : Int) : allS n < 18446744073709551616 := by
  unfold allS
  split
  · omega
  split
  · omega
  · have := pow_lt n.toNat (by omega)
    omega
theorem allS_bit (n : Int) (i : Nat) (hi : i < 64) : (allS n).testBit i = decide ((i : Int) < n) := by
  unfold allS
  split
  · have : ¬ (i : Int) < n := by omega
    simp [this]
  split
  · have h := Nat.testBit_two_pow_sub_one 64 i
    rw [show 2 ^ 64 - 1 = 18446744073709551615 from rfl] at h
    rw [h]
    have : (i : Int) < n := by omega
    simp [this, hi]
  · rw [Nat.testBit_two_pow_sub_one]
    by_cases h : (i : Int) < n
    · have : i < n.toNat := by omega
      simp [h, this]
    · have : ¬ i < n.toNat := by omega
      simp [h, this]
/-- the library's table lies where it was laid -/
def Tab (w : World) : Prop := ∀ j, j < 64 → w.cell? ⟨0, j, none⟩ = some (.int .u8 (Lib.deBruijn64tab.getD j 0))
theorem Tab.below {w w' : World} {B : Nat} (h : Tab w) (hb : Below B w w') (hB : 0 < B) : Tab w' := fun j hj => (hb.cell (p := ⟨0, j, none⟩) hB).trans (h j hj)
theorem Tab.lt {w : World} (h : Tab w) : 0 < w.heap.size := World.block_lt_of_cell? w _ (h 0 (by omega))
theorem tz_key (x a : Nat) (hx : x < 18446744073709551616) (hx0 : x ≠ 0) (hlow : x &&& (18446744073709551616 - x) = a) :
    IntKind.u64.wrap (bits BinOp.and IntKind.u64 (x : Int) (IntKind.u64.wrap (-(x : Int))) * 285870213051353865) / 288230376151711744 = ((a * 285870213051353865 % 18446744073709551616 / 288230376151711744 : Nat) : Int) := by
  have e1 : IntKind.u64.wrap (-(x : Int)) = ((18446744073709551616 - x : Nat) : Int) := by rw [IntKind.wrap_u64]; omega
  rw [e1, bits_and_u64_nat x _ hx (by omega), hlow, IntKind.wrap_u64]
  omega
theorem tz_core (x k idx : Nat) (w : World) (hx0 : ((x : Int) == 0) = false)
    (key : IntKind.u64.wrap (bits BinOp.and IntKind.u64 (x : Int) (IntKind.u64.wrap (-(x : Int))) * 285870213051353865) / 288230376151711744 = (idx : Int))
    (hi : idx < 64) (hk : k < 64) (hcell : w.cell? ⟨0, idx, none⟩ = some (.int .u8 k)) :
    Calls Tryd.prog 86 #[.int .u64 x] w fun e w' => e = .returned (.int .i64 k) ∧ w = w' := by
  go_enter Tryd.func86, Tryd.ntmps86
  go_wp2_with (simp only [key])
  go_ret
  exact ⟨rfl, rfl⟩
theorem tz_any (x : Nat) (hx : x < 18446744073709551616) (h0 : x ≠ 0) (w : World) (hT : Tab w) :
    Calls Tryd.prog 86 #[.int .u64 x] w fun e w' => e = .returned (.int .i64 (Lib.ctz 64 x : Nat)) ∧ w = w' := by
  obtain ⟨hlow, hk⟩ := Lib.lowest_bit 64 x h0 hx
  obtain ⟨hi, htab⟩ := Lib.deBruijn64_at _ hk
  have hcell := hT _ hi
  rw [htab] at hcell
  exact tz_core x _ _ w (by simp; omega) (tz_key x _ hx h0 hlow) hi hk hcell
/-- the lowest node -/
def lowS (s : Nat) : Int := if s = 0 then -1 else (Lib.ctz 64 s : Nat)
theorem low_any (s : Nat) (w : World) (hs : s < 18446744073709551616) (hT : Tab w) :
    Calls Tryd.prog 33 #[.int .u64 s] w fun e w' => e = .returned (.int .i64 (lowS s)) ∧ w = w' := by
  by_cases h0 : s = 0
  · subst h0
    have e : lowS 0 = -1 := rfl
    rw [e]
    clear hT e
    go_enter Tryd.func33, Tryd.ntmps33
    go_wp2; go_ret; exact ⟨rfl, rfl⟩
  · have K := tz_any s hs h0 w hT
    have e : lowS s = (Lib.ctz 64 s : Nat) := by unfold lowS; rw [if_neg h0]
    rw [e]
    have b0 : ((s : Int) == 0) = false := by simp; omega
    have K := Lib.hid K
    clear hT e h0
    go_enter Tryd.func33, Tryd.ntmps33
    go_wp2_with (go_at_call 86; refine K.out.mono ?_; rintro e w2 ⟨rfl, rfl⟩)
    go_ret; exact ⟨rfl, rfl⟩
end Go.Proofs.YtmjkgnlmdcmdbaaDoor.Sets
