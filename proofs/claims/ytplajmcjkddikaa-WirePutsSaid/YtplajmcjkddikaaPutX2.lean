/- wire.Bool, wire.Text and wire.All upon the bytes of a constant text; the conversion that marks them. -/
import Derived.Test.YtplajmcjkddikaaPutX
import Derived.OpenShut
import Derived.Handy
namespace Go.Proofs.Ytplajmcjkddikaa.Puts
open Go.RowKit Go.Proofs.YtplajmcjkddikaaW.PrintWords Go.Proofs.YtplajmcjkddikaaW.PrintLast Go.Proofs.YtplajmcjkddikaaW.PrintMore Go.Proofs.Ytplajmcjkddikaa.Leb Go.Proofs.Ytplajmcjkddikaa.Wire
set_option linter.unusedVariables false
set_option linter.unusedSimpArgs false
theorem conv_mark (w : World) (g : Nat) (hm : w.heap[g]? = some (.cells #[.int .u8 120] 5 (0, 0))) :
    ∃ w', (convert 38 38 (.slice (some ⟨g, 0, none⟩) 1 1)).run Try.prog w = .ok (.slice (some ⟨g, 0, none⟩) 1 1) w' ∧ w'.heap[g]? = some (.cells #[.int .u8 120] 5 (1, 2)) ∧ Below g w w' ∧ Kept w w' (fun k => k = g) := by
  have hsh : w.shape? g = some (5, 1) := by
    unfold World.shape?
    rw [hm]
    rfl
  refine ⟨w.freeze ⟨g, 1, none⟩ 1, ?_, ?_, ?_, ?_⟩
  · simp [convert, run_underlying Try.underlying38, run_underlying Try.underlying5, markStringish, hsh]
  · unfold World.freeze
    rw [if_neg (by decide)]
    simp [Array.getElem?_modify, hm]
  · unfold World.freeze
    rw [if_neg (by decide)]
    refine ⟨rfl, rfl, rfl, by simp, fun k hk => ?_⟩
    show (w.heap.modify g _)[k]? = _
    rw [Array.getElem?_modify, if_neg (by omega)]
  · unfold World.freeze
    rw [if_neg (by decide)]
    refine ⟨by simp, fun k hk hne => ?_⟩
    show (w.heap.modify g _)[k]? = _
    rw [Array.getElem?_modify, if_neg (by omega)]
theorem bool_x (v : Value) (b : Bool) (xs : List Int) (hl : xs.length < 1000) (w0 w : World) (hB : Below w0.heap.size w0 w) (hv : AX w w0.heap.size v xs) :
    Calls Try.prog 46 #[v, .bool b] w fun e w' => ∃ v0 : Value, e = .returned v0 ∧ AX w' w0.heap.size v0 (xs ++ [boolB b]) ∧ Below w0.heap.size w0 w' := by
  have HB := Lib.hid hB
  have HV := Lib.hid hv
  have HL := Lib.hid (show xs.length < 140737488355328 by omega)
  clear hB hv hl
  cases b
  · go_enter Try.func46, Try.ntmps46
    go_wp2_with (at_builtin; refine app_x (w0 := w0) rfl (.tmp 9) (.tmp 10) rfl v xs 0 rfl rfl HV.out HB.out HL.out ?_; intro v1 w1 hv1 hb1)
    go_ret
    exact ⟨_, rfl, hv1, hb1⟩
  · go_enter Try.func46, Try.ntmps46
    go_wp2_with (at_builtin; refine app_x (w0 := w0) rfl (.tmp 6) (.tmp 7) rfl v xs 1 rfl rfl HV.out HB.out HL.out ?_; intro v1 w1 hv1 hb1)
    go_ret
    exact ⟨_, rfl, hv1, hb1⟩
theorem text_x (v : Value) (s : ByteArray) (hs : s.size ≤ 1000000) (w0 w : World) (hB : Below w0.heap.size w0 w) (hv : AX w w0.heap.size v [120]) :
    Calls Try.prog 47 #[v, .string s] w fun e w' => ∃ v0 : Value, e = .returned v0 ∧ AX w' w0.heap.size v0 ([120] ++ putB s.size ++ bytesOf s) ∧ Below w0.heap.size w0 w' := by
  have hI : I64 (s.size : Int) := by unfold I64; omega
  have hp := put_x v [120] (s.size : Int) _ _ w0 w hB hv (put_f (s.size : Int) hI [120] (by simp))
  have hpl := putB_len (s.size : Int) hI
  have hp0 : 0 < (putB (s.size : Int)).length := by unfold putB; rw [if_neg (by omega)]; exact enc_pos _
  have hn : ([120] ++ putB (s.size : Int)).length ≤ 140737486355328 := by rw [List.length_append]; simp; omega
  have hn2 : 2 ≤ ([120] ++ putB (s.size : Int)).length := by rw [List.length_append]; simp; omega
  generalize [120] ++ putB (s.size : Int) = ys at hp hn hn2 ⊢
  have U1 := Try.underlying38
  have U2 := Try.underlying9
  have HS := Lib.hid hs
  have HN := Lib.hid hn
  have HN2 := Lib.hid hn2
  clear hpl hp0 hs hn hn2 hI
  go_enter Try.func47, Try.ntmps47
  go_wp2_with (first
    | (go_at_call 43; refine hp.mono ?_; rintro e w1 ⟨v1, rfl, ho1, hb1⟩; have hr1 := ho1.resolve_right (fun h => by have := HN2.out; rw [h.1] at this; simp at this))
    | (at_builtin; refine print_append_str (w0 := w0) w0.heap.size rfl (.tmp 8) (.tmp 9) 38 9 5 rfl U1 U2 (by kernel_rfl) v1 ys s (by rfl) (by rfl) (Kd.own_of_R hr1) hb1 hb1.size (by have := HS.out; have := HN.out; omega) ?_; intro v2 w2 hown2 hb2 hg2))
  go_ret
  exact ⟨v2, rfl, .inl (Kd.R_of_own hown2 (fun _ _ => trivial)), hb2⟩
set_option maxRecDepth 100000 in
theorem all_x (v : Value) (a b : Int) (ha : I64 a) (hb : I64 b) (A : Option Addr) (c : Nat) (w : World) (hv : AX w w.heap.size v [120]) (hC : Kd.C (Kd.int .i64) w A 2 [a, b]) :
    Calls Try.prog 45 #[v, .slice A 2 c] w fun e w' => ∃ v0 : Value, e = .returned v0 ∧ AX w' w.heap.size v0 ([120] ++ sgn a ++ sgn b) ∧ Below w.heap.size w w' := by
  have hS1 := sign_x v [120] a _ _ w w (Below.refl _ _) hv (sign_k 18446744073709551616 a ha [120] (by omega) (by simp))
  have hla : (sgn a).length ≤ 10 := enc_len10 (zig a) (zig_lt a ha)
  have HS2 := Lib.hid (fun (v1 : Value) (w1 : World) (h1 : AX w1 w.heap.size v1 ([120] ++ sgn a)) (hb1 : Below w.heap.size w w1) => sign_x v1 _ b _ _ w w1 hb1 h1 (sign_k 18446744073709551616 b hb _ (by omega) (by simp; omega)))
  obtain ⟨ad, rfl, h0⟩ := Kd.at_int hC 0 (by omega) (by omega)
  obtain ⟨ad', e', h1⟩ := Kd.at_int hC 1 (by omega) (by omega)
  obtain rfl := Option.some.inj e'
  have ez : ad.add 0 = ad := rfl
  have h0' : w.cell? ad = some (.int .i64 a) := by rw [← ez]; exact h0
  clear ez
  have h1' : w.cell? (ad.add 1) = some (.int .i64 b) := h1
  have e1 : ad.add 1 = ⟨ad.block, ad.off + 1, none⟩ := rfl
  rw [e1] at h1'
  have HC2 := Lib.hid (fun (w' : World) (h : Below w.heap.size w w') => (h.cell (p := ⟨ad.block, ad.off + 1, none⟩) (World.block_lt_of_cell? w _ h1')).trans h1')
  clear e1
  have HS1 := Lib.hid hS1
  clear hS1 h0 h1 hC hla ha hb hv
  go_enter Try.func45, Try.ntmps45
  go_wp2
  refine wp_loop_rounds 3 ?_
  rw [rounds_succ]
  go_wp2_with (go_at_call 39; refine HS1.out.mono ?_; rintro e w1 ⟨v1, rfl, ho1, hb1⟩; have hx1 := HC2.out w1 hb1)
  rw [rounds_succ]
  go_wp2_with (go_at_call 39; refine (HS2.out v1 w1 ho1 hb1).mono ?_; rintro e w2 ⟨v2, rfl, ho2, hb2⟩)
  rw [rounds_succ]
  go_wp2
  go_ret
  exact ⟨_, rfl, by simpa using ho2, hb2⟩
end Go.Proofs.Ytplajmcjkddikaa.Puts
