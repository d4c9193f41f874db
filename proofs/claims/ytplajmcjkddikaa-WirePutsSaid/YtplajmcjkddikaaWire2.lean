/- Package wire's putting of truths and texts; numbers that may be below 0. -/
import Derived.Test.YtplajmcjkddikaaWire
import Derived.Lib.Hide
import Derived.Lib.AppendStr
import Derived.OpenShut
namespace Go.Proofs.Ytplajmcjkddikaa.Wire
open Go.RowKit Go.Proofs.YtplajmcjkddikaaW.PrintWords Go.Proofs.YtplajmcjkddikaaW.PrintLast Go.Proofs.YtplajmcjkddikaaW.PrintMore Go.Proofs.Ytplajmcjkddikaa.Leb
set_option linter.unusedVariables false
abbrev I64 (a : Int) : Prop := -9223372036854775808 ≤ a ∧ a ≤ 9223372036854775807
/-- the bytes of a number that is put: none, if it is below 0 -/
def putB (a : Int) : List Int := if a < 0 then [] else enc a.toNat
theorem putB_len (a : Int) (h : I64 a) : (putB a).length ≤ 10 := by
  unfold putB; split
  · simp
  · exact enc_len10 _ (by omega)
theorem put_same1 : ∀ k xs u, PWireBack.wire_Put.l0 k xs u = PWireBack.wire_Sign.l0 k xs u
  | 0, _, _ => rfl
  | k + 1, xs, u => by simp only [PWireBack.wire_Put.l0, PWireBack.wire_Sign.l0, put_same1 k]
theorem put_f (a : Int) (h : I64 a) (xs : List Int) (hl : xs.length ≤ 140737488355318) : PWireBack.wire_Put.f (a.toNat + 1) xs a = some (xs ++ putB a) := by
  unfold PWireBack.wire_Put.f putB
  split
  · rw [List.append_nil]
  · rw [put_same1]
    have e : a = ((a.toNat : Nat) : Int) := by omega
    have := sign_l0 a.toNat (a.toNat + 1) xs (by omega) (by have := enc_len10 a.toNat (by omega); omega)
    rw [← e] at this
    exact this
theorem put_own (v : Value) (xs : List Int) (a : Int) (h : I64 a) (w0 w : World) (hB : Below w0.heap.size w0 w) (ho : Kd.R (Kd.int .u8) 5 w w0.heap.size (fun _ => True) v xs) (hl : xs.length ≤ 140737488355318) :
    Calls Try.prog 43 #[v, .int .i64 a] w fun e w' => ∃ v0 : Value, e = .returned v0 ∧ Kd.R (Kd.int .u8) 5 w' w0.heap.size (fun _ => True) v0 (xs ++ putB a) ∧ Below w0.heap.size w0 w' :=
  (PWireBack.wire_Put.calls _ (fun _ => True) v xs a _ w0 w hB ho (put_f a h xs hl)).mono fun e w' ⟨v0, h1, h2, h3, _⟩ => ⟨v0, h1, Kd.R_mono h2 (fun _ _ => trivial), h3⟩
theorem sign_own (v : Value) (xs : List Int) (a : Int) (h : I64 a) (w0 w : World) (hB : Below w0.heap.size w0 w) (ho : Kd.R (Kd.int .u8) 5 w w0.heap.size (fun _ => True) v xs) (hl : xs.length ≤ 140737488355318) :
    Calls Try.prog 39 #[v, .int .i64 a] w fun e w' => ∃ v0 : Value, e = .returned v0 ∧ Kd.R (Kd.int .u8) 5 w' w0.heap.size (fun _ => True) v0 (xs ++ sgn a) ∧ Below w0.heap.size w0 w' :=
  (sign_any (fun _ => True) v xs a w0 w hB ho h hl).mono fun e w' ⟨v0, h1, h2, h3, _⟩ => ⟨v0, h1, Kd.R_mono h2 (fun _ _ => trivial), h3⟩
def boolB (b : Bool) : Int := if b then 1 else 0
theorem bool_own (v : Value) (xs : List Int) (b : Bool) (w0 w : World) (hB : Below w0.heap.size w0 w) (ho : Kd.R (Kd.int .u8) 5 w w0.heap.size (fun _ => True) v xs) (hl : xs.length ≤ 140737488355318) :
    Calls Try.prog 46 #[v, .bool b] w fun e w' => ∃ v0 : Value, e = .returned v0 ∧ Kd.R (Kd.int .u8) 5 w' w0.heap.size (fun _ => True) v0 (xs ++ [boolB b]) ∧ Below w0.heap.size w0 w' := by
  have hf : PWireBack.wire_Bool.f xs b = some (xs ++ [boolB b]) := by
    unfold PWireBack.wire_Bool.f boolB
    cases b <;> simp <;> omega
  exact (PWireBack.wire_Bool.calls (fun _ => True) v xs b _ w0 w hB ho hf).mono fun e w' ⟨v0, h1, h2, h3, _⟩ => ⟨v0, h1, Kd.R_mono h2 (fun _ _ => trivial), h3⟩
set_option maxRecDepth 100000 in
theorem text_own (v : Value) (xs : List Int) (s : ByteArray) (hs : s.size ≤ 1000000) (w0 w : World) (hB : Below w0.heap.size w0 w) (ho : Kd.R (Kd.int .u8) 5 w w0.heap.size (fun _ => True) v xs) (hl : xs.length ≤ 140737486355318) :
    Calls Try.prog 47 #[v, .string s] w fun e w' => ∃ v0 : Value, e = .returned v0 ∧ Kd.R (Kd.int .u8) 5 w' w0.heap.size (fun _ => True) v0 (xs ++ putB s.size ++ bytesOf s) ∧ Below w0.heap.size w0 w' := by
  have hp := put_own v xs (s.size : Int) (by unfold I64; omega) w0 w hB ho (by omega)
  have hpl := putB_len (s.size : Int) (by unfold I64; omega)
  have hn : (xs ++ putB (s.size : Int)).length ≤ 140737486355328 := by rw [List.length_append]; omega
  generalize xs ++ putB (s.size : Int) = ys at hp hn ⊢
  have U1 := Try.underlying38
  have U2 := Try.underlying9
  have HS := Lib.hid hs
  clear hpl hl hs
  go_enter Try.func47, Try.ntmps47
  go_wp2_with (first
    | (go_at_call 43; refine hp.mono ?_; rintro e w1 ⟨v1, rfl, ho1, hb1⟩)
    | (at_builtin; refine print_append_str (w0 := w0) w0.heap.size rfl (.tmp 8) (.tmp 9) 38 9 5 rfl U1 U2 (by kernel_rfl) v1 ys s (by rfl) (by rfl) (Kd.own_of_R ho1) hb1 hb1.size (by have := HS.out; omega) ?_; intro v2 w2 hown2 hb2 hg2))
  go_ret
  exact ⟨v2, rfl, Kd.R_of_own hown2 (fun _ _ => trivial), hb2⟩
end Go.Proofs.Ytplajmcjkddikaa.Wire
