/- The T seat: what the texts on trees take from those on sets and tables. -/
import Derived.Test.YtmjkgnlmdcmdbaaSets
import Derived.Test.YtmjkgnlmdcmdbaaWKept
import Derived.Test.YtmjkgnlmdcmdbaaWLast
import Derived.Laws.BitsAllLaws
import Derived.Laws.Bits64b
import Derived.Handy
namespace Go.Proofs.Ytmjkgnlmdcmdbaa.Sets
open Go.RowKit Go.Proofs.YtmjkgnlmdcmdbaaW.PrintWords Go.Proofs.YtmjkgnlmdcmdbaaW.PrintMore Go.Proofs.YtmjkgnlmdcmdbaaW.PrintLast Go.Proofs.Ytmjkgnlmdcmdbaa.Row
set_option linter.unusedVariables false
set_option linter.unusedSimpArgs false
/-- how many nodes -/
def lenS (s : Nat) : Nat := (nodes s).length
theorem lenS_le (s : Nat) : lenS s ≤ 64 := by
  have := List.length_filter_le (fun i => s.testBit i) (List.range 64)
  simpa [lenS, nodes] using this
theorem info_int : (Try.prog.info? 3).map (fun i => (i.zero, i.size, i.bytes)) = some (some (.int .i64 0), 1, 8) := by kernel_rfl
theorem info_set : (Try.prog.info? 34).map (fun i => (i.zero, i.size, i.bytes)) = some (some (.int .u64 0), 1, 8) := by kernel_rfl
def nums (l : List Nat) : List Int := l.map Int.ofNat
theorem lit_row (w : World) (l : List Int) : Rds (Value.int .i64) (w.alloc (.cells (l.map (Value.int .i64)).toArray 3)) (some ⟨w.heap.size, 0, none⟩) l :=
  (GRow.new (e := 3) w _ (fun j hj => by simp [hj])).rds
theorem of_lit (l : List Int) (W : World) (N : Nat) (h : W.heap.size = N) (hl : l.length ≤ 140737488351232) :
    Calls Try.prog 16 #[.slice (some ⟨N, 0, none⟩) l.length l.length] (W.alloc (.cells (l.map (Value.int .i64)).toArray 3)) fun e w' => e = .returned (.int .u64 (ofS l : Nat)) ∧ W.alloc (.cells (l.map (Value.int .i64)).toArray 3) = w' := by
  subst h
  exact of_any _ _ l _ (lit_row W l) hl
theorem u64_out (x : Int) (h : (Lit.int .u64 x).wf = true) : ∃ s : Nat, x = (s : Int) ∧ s < 18446744073709551616 := by
  have hb : 0 ≤ x ∧ x ≤ 18446744073709551615 := bounds_u64 h
  exact ⟨x.toNat, by omega, by omega⟩
end Go.Proofs.Ytmjkgnlmdcmdbaa.Sets
namespace Go.Proofs.Ytmjkgnlmdcmdbaa.Node
open Go.RowKit Go.Proofs.YtmjkgnlmdcmdbaaW.PrintWords Go.Proofs.YtmjkgnlmdcmdbaaW.PrintMore Go.Proofs.YtmjkgnlmdcmdbaaW.PrintLast Go.Proofs.Ytmjkgnlmdcmdbaa.Row Go.Proofs.Ytmjkgnlmdcmdbaa.Sets
set_option linter.unusedVariables false
set_option linter.unusedSimpArgs false
/-- what is in the one, not in the other -/
def minus (a b : Nat) : Nat := a &&& (18446744073709551615 - b)
theorem minus_lt (a b : Nat) (h : a < 18446744073709551616) : minus a b < 18446744073709551616 := Nat.lt_of_le_of_lt Nat.and_le_left h
theorem minus_bit (a b i : Nat) (hb : b < 18446744073709551616) (hi : i < 64) : (minus a b).testBit i = (a.testBit i && !b.testBit i) := by
  unfold minus
  have h := Nat.testBit_two_pow_sub_succ (x := b) (n := 64) (by omega) i
  have e : 2 ^ 64 - (b + 1) = 18446744073709551615 - b := by omega
  rw [e] at h
  rw [Nat.testBit_and, h]
  simp [hi]
theorem minus_val (a b : Nat) (ha : a < 18446744073709551616) (hb : b < 18446744073709551616) : bits .andNot .u64 (a : Int) (b : Int) = (minus a b : Nat) := u64_andNot_nat a b ha hb
theorem or_lt (a b : Nat) (ha : a < 18446744073709551616) (hb : b < 18446744073709551616) : a ||| b < 18446744073709551616 := by
  have := Nat.or_lt_two_pow (x := a) (y := b) (n := 64) (by omega) (by omega)
  omega
theorem neq_b (x : Nat) (h : x ≠ 0) : ((x : Int) != 0) = true ∧ ((x : Int) == 0) = false := ⟨by simp; omega, by simp; omega⟩
theorem eq_b (x : Nat) (h : x = 0) : ((x : Int) != 0) = false ∧ ((x : Int) == 0) = true := by subst h; exact ⟨rfl, rfl⟩
end Go.Proofs.Ytmjkgnlmdcmdbaa.Node
