/- WirePuts' plain part: what law 1's raw and zig, and wire.All compute. -/
import Derived.Test.YtplajmcjkddikaaPutsP
import Derived.Test.YtplajmcjkddikaaWire2
import Derived.Lib.Hide
import Derived.OpenShut
import Derived.Handy
namespace Go.Proofs.Ytplajmcjkddikaa.Puts
open Go.RowKit Go.Proofs.YtplajmcjkddikaaW.PrintWords Go.Proofs.YtplajmcjkddikaaW.PrintLast Go.Proofs.YtplajmcjkddikaaW.PrintMore Go.Proofs.Ytplajmcjkddikaa.Leb Go.Proofs.Ytplajmcjkddikaa.Wire
set_option linter.unusedVariables false
set_option linter.unusedSimpArgs false
theorem str_app (a b : List Int) : strOfNums (a ++ b) = strOfNums a ++ strOfNums b := by
  apply ByteArray.ext
  apply Array.toList_inj.1
  rw [str_data]
  simp [ByteArray.data_append, Array.toList_append, str_data]
theorem app_assoc (a b c : ByteArray) : a ++ b ++ c = a ++ (b ++ c) := by
  apply ByteArray.ext
  apply Array.toList_inj.1
  simp [ByteArray.data_append, Array.toList_append]
theorem str_bytesOf (s : ByteArray) : strOfNums (bytesOf s) = s := by
  unfold strOfNums bytesOf
  rw [List.map_map]
  have : ((fun n : Int => UInt8.ofNat n.toNat) ∘ fun b : UInt8 => (b.toNat : Int)) = id := by
    funext b; simp
  rw [this, List.map_id]
theorem app_size (a b : ByteArray) : (a ++ b).size = a.size + b.size := by simp
theorem size1 (s : ByteArray) (c : Int) (n : Nat) (h : s.size + 10 * (n + 1) ≤ 9223372036854775807) : s.size + (strOfNums [c]).size ≤ 9223372036854775807 := by
  rw [str_size]; simp only [List.length_cons, List.length_nil]; omega
theorem size2 (s : ByteArray) (c : Int) (n : Nat) (h : s.size + 10 * (n + 1 + 1) ≤ 9223372036854775807) : (s ++ strOfNums [c]).size + 10 * (n + 1) ≤ 9223372036854775807 := by
  rw [app_size, str_size]; simp only [List.length_cons, List.length_nil]; omega
theorem raw_l0 : ∀ (d i k u : Nat) (s : ByteArray), i + d = 9 → d < k → u < lim i → s.size + 10 * (d + 1) ≤ 9223372036854775807 → PWirePuts.berthagelaw01_raw.l0 k (u : Int) s (i : Int) = some (s ++ strOfNums (enc u))
  | 0, i, k, u, s, hi, hk, hu, hs => by
    obtain ⟨k, rfl⟩ : ∃ m, k = m + 1 := ⟨k - 1, by omega⟩
    obtain rfl : i = 9 := by omega
    have h2 : u < 2 := by unfold lim at hu; simpa using hu
    rw [PWirePuts.berthagelaw01_raw.l0, if_neg (by omega)]
    simp only [Option.bind_some]
    rw [if_pos (size1 s _ _ hs), enc_small (by omega), Int.emod_eq_of_lt (by omega) (by omega)]
  | d + 1, i, k, u, s, hi, hk, hu, hs => by
    obtain ⟨k, rfl⟩ : ∃ m, k = m + 1 := ⟨k - 1, by omega⟩
    have hl : lim i ≤ 18446744073709551616 := by
      rw [← lim0]; unfold lim
      exact Nat.mul_le_mul_left 2 (Nat.pow_le_pow_right (by omega) (by omega))
    have hu64 : u < 18446744073709551616 := Nat.lt_of_lt_of_le hu hl
    have hls := lim_succ (i := i) (by omega)
    rw [hls] at hu
    have HN : Hid (u / 128 < lim (i + 1)) := Lib.hid (Nat.div_lt_of_lt_mul hu)
    clear hu hl hls
    rw [PWirePuts.berthagelaw01_raw.l0, if_pos (by omega)]
    by_cases h : (u : Int) ≥ 128
    · rw [if_pos h]
      simp only [Option.bind_some]
      have w64 : ∀ n : Int, IntKind.u64.wrap n = n % 18446744073709551616 := fun n => by simp [IntKind.wrap, IntKind.bits, IntKind.signed]
      have e1 : (IntKind.u64.wrap (Int.tmod (u : Int) 128 + 128)) % 256 = ((u % 128 + 128 : Nat) : Int) := by
        rw [w64, Int.tmod_eq_emod_of_nonneg (by omega)]; omega
      have e2 : IntKind.u64.wrap (Int.tdiv (u : Int) 128) = ((u / 128 : Nat) : Int) := by
        rw [w64, Int.tdiv_eq_ediv_of_nonneg (by omega)]; omega
      have e3 : wrap64 ((i : Int) + 1) = ((i + 1 : Nat) : Int) := by unfold wrap64; omega
      rw [if_pos (size1 s _ _ hs), e1, e2, e3]
      rw [raw_l0 d (i + 1) k (u / 128) _ (by omega) (by omega) HN.out (size2 s _ _ hs), enc_big (u := u) (by omega), app_assoc, ← str_app]
      rfl
    · rw [if_neg h]
      simp only [Option.bind_some]
      rw [if_pos (size1 s _ _ hs), enc_small (by omega), Int.emod_eq_of_lt (by omega) (by omega)]
theorem raw_any (u : Nat) (hu : u < 18446744073709551616) (w : World) : Calls Try.prog 42 #[.int .u64 (u : Int)] w fun e w' => e = .returned (.string (strOfNums (enc u))) ∧ Below w.heap.size w w' := by
  have h := raw_l0 9 0 100 u ⟨#[]⟩ (by omega) (by omega) (by rw [lim0]; exact hu) (by simp [ByteArray.size])
  have e : (⟨#[]⟩ : ByteArray) ++ strOfNums (enc u) = strOfNums (enc u) := by
    apply ByteArray.ext; apply Array.toList_inj.1; simp [ByteArray.data_append]
  rw [e] at h
  exact PWirePuts.berthagelaw01_raw.calls 100 (u : Int) _ w h
theorem zig_k (a : Int) (h : I64 a) : PWirePuts.berthagelaw01_zig.f a = some (zig a : Int) := by
  have w64 : ∀ n : Int, IntKind.u64.wrap n = n % 18446744073709551616 := fun n => by simp [IntKind.wrap, IntKind.bits, IntKind.signed]
  unfold I64 at h
  unfold PWirePuts.berthagelaw01_zig.f zig
  simp only [w64]
  split
  · congr 1
    have e1 : wrap64 (-(wrap64 (a + 1))) = -(a + 1) := by unfold wrap64; omega
    rw [e1]; omega
  · congr 1; omega
theorem zig_any (a : Int) (h : I64 a) (w : World) : Calls Try.prog 44 #[.int .i64 a] w fun e w' => e = .returned (.int .u64 (zig a : Int)) ∧ Below w.heap.size w w' :=
  (PWirePuts.berthagelaw01_zig.calls a _ w (zig_k a h)).mono fun e w' h => ⟨h.1, h.2.below⟩
theorem sign_k (k : Nat) (a : Int) (ha : I64 a) (xs : List Int) (hk : 18446744073709551616 ≤ k) (hl : xs.length ≤ 140737488355318) : PWireBack.wire_Sign.f k xs a = some (xs ++ sgn a) := by
  unfold PWireBack.wire_Sign.f
  rw [zig_bits a ha]
  exact sign_l0 (zig a) _ xs (by have := zig_lt a ha; omega) (by have := enc_len10 (zig a) (zig_lt a ha); omega)
theorem all_k (k : Nat) (a b : Int) (ha : I64 a) (hb : I64 b) (hk : 18446744073709551616 + 50 < k) : PWirePuts.wire_All.f k [120] [a, b] = some ([120] ++ sgn a ++ sgn b) := by
  obtain ⟨k, rfl⟩ : ∃ m, k = m + 3 := ⟨k - 3, by omega⟩
  have hla : (sgn a).length ≤ 10 := enc_len10 (zig a) (zig_lt a ha)
  have hw0 : wrap64 ((0 : Int) + 1) = 1 := by unfold wrap64; omega
  have hw1 : wrap64 ((1 : Int) + 1) = 2 := by unfold wrap64; omega
  unfold PWirePuts.wire_All.f
  rw [PWirePuts.wire_All.l0, if_pos (by simp), if_pos (by simp), if_pos (by simp), show rd [a, b] 0 = a from rfl, sign_k _ a ha [120] (by omega) (by simp)]
  simp only [Option.bind_some]
  rw [hw0, PWirePuts.wire_All.l0, if_pos (by simp), if_pos (by simp), if_pos (by simp), show rd [a, b] 1 = b from rfl, sign_k _ b hb _ (by omega) (by simp; omega)]
  simp only [Option.bind_some]
  rw [hw1, PWirePuts.wire_All.l0, if_neg (by simp)]
theorem all_own (g0 g1 : Nat) (hne : g0 ≠ g1) (a b : Int) (ha : I64 a) (hb : I64 b) (w0 w : World) (v : Value) (A : Option Addr) (c : Nat) (base : Nat) (hc : 2 ≤ c) (hB : Below w0.heap.size w0 w) (ho : Kd.R (Kd.int .u8) 5 w w0.heap.size (fun k => k = g0) v [120])
    (hg : Kd.R (Kd.int .i64) 2 w base (fun k => k = g1) (.slice A 2 c) [a, b]) :
    Calls Try.prog 45 #[v, .slice A 2 c] w fun e w' => ∃ v0 : Value, e = .returned v0 ∧ Kd.R (Kd.int .u8) 5 w' w0.heap.size (fun _ => True) v0 ([120] ++ sgn a ++ sgn b) ∧ Below w0.heap.size w0 w' := by
  refine (PWirePuts.wire_All.calls (18446744073709551616 + 51) (fun k => k = g0) v [120] A c [a, b] _ w0 w hB ho ?_ hc (all_k _ a b ha hb (by omega))).mono ?_
  · intro W hW
    exact (Kd.N_reads' (Kd.N_kept (Kd.R_N hg) hW (fun k hk he => by subst hk; exact hne he.symm))).2.2
  · rintro e w' ⟨v0, h1, h2, h3, h4⟩
    exact ⟨v0, h1, Kd.R_mono h2 (fun _ _ => trivial), h3⟩
theorem awake1_any (w : World) : Calls Try.prog 40 #[] w fun e w' => e = .returned (.bool true) ∧ Below w.heap.size w w' :=
  PWireBack.berthagelaw01_awake.calls 400 true w (by decide +kernel)
def cutS (s : ByteArray) : ByteArray := if (s.size : Int) > 200 then s.extract 0 200 else s
theorem cutS_len (s : ByteArray) : (cutS s).size ≤ 200 := by
  unfold cutS; split
  · simp [ByteArray.size_extract]; omega
  · omega
theorem cut_any (s : ByteArray) (w : World) : Calls Try.prog 41 #[.string s] w fun e w' => e = .returned (.string (cutS s)) ∧ Below w.heap.size w w' := by
  refine (PWireBack.berthagelaw01_cut.calls s (cutS s) w ?_).mono ?_
  · unfold PWireBack.berthagelaw01_cut.f cutS
    split
    · rw [if_pos (by omega), if_pos (by omega)]
    · rfl
  · rintro e w' ⟨h1, h2⟩
    exact ⟨h1, h2.below⟩
end Go.Proofs.Ytplajmcjkddikaa.Puts
