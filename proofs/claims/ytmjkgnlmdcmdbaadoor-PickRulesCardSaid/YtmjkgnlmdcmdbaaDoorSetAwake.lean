/- A set's list; law 3's example. -/
import Derived.Test.YtmjkgnlmdcmdbaaDoorSet03
namespace Go.Proofs.YtmjkgnlmdcmdbaaDoor.Sets
open Go.RowKit Go.Proofs.YtmjkgnlmdcmdbaaDoorW.PrintWords Go.Proofs.YtmjkgnlmdcmdbaaDoorW.PrintLast Go.Proofs.YtmjkgnlmdcmdbaaDoorW.PrintMore Go.Proofs.YtmjkgnlmdcmdbaaDoor.Row
set_option linter.unusedVariables false
set_option linter.unusedSimpArgs false
def nums (l : List Nat) : List Int := l.map Int.ofNat
/-- a set's nodes came back, rising -/
def ListIs (s : Nat) (w : World) (e : Ending) (w' : World) : Prop := ∃ A c, e = .returned (.slice A (lenS s) c) ∧ lenS s ≤ c ∧ Rds (Value.int .i64) w' A (nums (nodes s)) ∧ Below w.heap.size w w'
set_option maxRecDepth 100000 in
theorem list_any (s : Nat) (w : World) (hs : s < 18446744073709551616) (hT : Tab w) : Calls Tryd.prog 25 #[.int .u64 s] w (ListIs s w) := by
  have HB := Aside0.mk (Below.refl w.heap.size w)
  have HT := Lib.hid hT
  clear hT
  have hl := lenS_le s
  go_enter Tryd.func25, Tryd.ntmps25
  go_wp2
  go_loopg [0, 3] 66 (fun kq v0 v3 w' => ∃ (t i : Nat), v0 = .int .u64 t ∧ Aside0 (i + kq = 66 ∧ 1 ≤ kq ∧ i ≤ lenS s ∧ t < 18446744073709551616 ∧ nodes t = (nodes s).drop i) ∧ Aside0 (Kd.R (Kd.int .i64) 3 w' w.heap.size (fun _ => True) v3 (nums ((nodes s).take i))) ∧ Aside0 (Below w.heap.size w w'))
  case atStart => exact ⟨s, 0, rfl, ⟨by omega, by omega, by omega, hs, rfl⟩, ⟨Kd.R_nil _ _ _ _ _⟩, ⟨HB.out⟩⟩
  case round =>
    clear HB
    obtain ⟨t, i, rfl, HI, HO, HB⟩ := hrel
    obtain ⟨k1, rfl⟩ : ∃ k1, gk = k1 + 1 := ⟨gk - 1, by have := HI.out; omega⟩
    have ht := HI.out.2.2.2.1
    by_cases h0 : t = 0
    · subst h0
      have hn : i = lenS s := by
        have h1 := HI.out.2.2.2.2
        rw [nodes_zero] at h1
        have h2 := congrArg List.length h1
        rw [List.length_drop] at h2
        have h3 := HI.out.2.2.1
        simp [lenS] at h2 h3 ⊢
        omega
      have hO := HO.out
      have hO2 : Kd.R (Kd.int .i64) 3 wr w.heap.size (fun _ => True) u3 (nums (nodes s)) := by
        have := HO.out
        rwa [hn, lenS, List.take_length] at this
      obtain ⟨A, c, hv, hc, hC⟩ := Kd.R_reads hO2
      have hlen : (nums (nodes s)).length = lenS s := by simp [nums, lenS]
      have HR := Lib.hid (Rds.ofC hC)
      rw [hlen] at hv hc
      subst hv
      clear hO hO2 hC HO hn hlen
      go_wp2
      go_ret
      exact ⟨A, c, rfl, hc, HR.out, HB.out⟩
    · have b0 : ((t : Int) != 0) = true := by simp; omega
      have b0' : ((t : Int) == 0) = false := by simp; omega
      have hi : i < lenS s := by
        rcases Nat.lt_or_ge i (lenS s) with h | h
        · exact h
        · have h1 := HI.out.2.2.2.2
          rw [List.drop_eq_nil_of_le h] at h1
          exact absurd ((nodes_eq_nil t ht).1 h1) h0
      have KW := Lib.hid (fun W (h : Tab W) => low_any t W ht h)
      rw [lowS_at t h0] at KW
      have hk : i < (nodes s).length := hi
      have hd := nodes_low t h0 ht
      rw [HI.out.2.2.2.2, List.drop_eq_getElem_cons hk] at hd
      injection hd with d1 d2
      have HN : Hid (nums ((nodes s).take (i + 1)) = nums ((nodes s).take i) ++ [((Lib.ctz 64 t : Nat) : Int)]) := Lib.hid (by rw [List.take_succ_eq_append_getElem hk, d1]; simp [nums])
      have HD := Lib.hid d2
      have LM : Hid ((nums ((nodes s).take i)).length ≤ 64) := Lib.hid (by simp [nums]; omega)
      have hA : Hid (bits BinOp.and IntKind.u64 (t : Int) ((t : Int) - 1) = ((t &&& (t - 1) : Nat) : Int)) := Lib.hid (by
        have e : ((t : Int) - 1) = ((t - 1 : Nat) : Int) := by omega
        rw [e, bits_and_u64_nat t (t - 1) ht (by omega)])
      have w1 : IntKind.u64.wrap ((t : Int) - 1) = (t : Int) - 1 := by rw [IntKind.wrap_u64]; omega
      have e1 := hA.out
      have hal : t &&& (t - 1) < 18446744073709551616 := Nat.lt_of_le_of_lt Nat.and_le_left ht
      have HAL := Lib.hid hal
      clear d1 d2 hk h0 hal
      generalize t &&& (t - 1) = t' at e1 HD HAL
      clear hA
      go_wp2_with (first
        | (go_at_call 33; refine (KW.out _ (HT.out.below HB.out HT.out.lt)).mono ?_; rintro e w2 ⟨rfl, rfl⟩)
        | ((with_reducible refine gate_builtin (b := .append) (xs := #[.tmp 10, .tmp 13]) rfl ?_); at_builtin; refine Kd.R_append (Kd.int .i64) (w0 := w) w.heap.size rfl (.tmp 10) (.tmp 13) 30 3 (.int .i64 0) 8 rfl Tryd.underlying30 info_int rfl (by decide) (by omega) _ (nums ((nodes s).take i)) ((Lib.ctz 64 t : Nat) : Int) [.int .i64 ((Lib.ctz 64 t : Nat) : Int)] (fun _ => True) (fun _ => False) rfl rfl ?aP (fun _ hk => hk.elim) ?aF ?aO ?aB ?aS ?aL ?_; (case aP => exact rfl); (case aB => exact HB.out); (case aF => exact (fun _ _ => trivial)); (case aO => exact HO.out); (case aS => exact below_size HB.out); (case aL => have := LM.out; omega); intro v113 w5 ho hb hg hat; have HB1 := Lib.hid hb; have HO1 := Lib.hid ho; clear hb ho hg hat))
      go_roundg k1
      case measure => have := HI.out; omega
      case rel => exact ⟨t', i + 1, rfl, ⟨by have := HI.out; omega, by have := HI.out; omega, hi, HAL.out, HD.out.symm⟩, ⟨by rw [HN.out]; exact HO1.out⟩, ⟨HB1.out⟩⟩
theorem lit_row (w : World) (l : List Int) : Rds (Value.int .i64) (w.alloc (.cells (l.map (Value.int .i64)).toArray 3)) (some ⟨w.heap.size, 0, none⟩) l :=
  (GRow.new (e := 3) w _ (fun j hj => by simp [hj])).rds
theorem of_lit (l : List Int) (W : World) (N : Nat) (h : W.heap.size = N) (hl : l.length ≤ 140737488351232) :
    Calls Tryd.prog 24 #[.slice (some ⟨N, 0, none⟩) l.length l.length] (W.alloc (.cells (l.map (Value.int .i64)).toArray 3)) fun e w' => e = .returned (.int .u64 (ofS l : Nat)) ∧ W.alloc (.cells (l.map (Value.int .i64)).toArray 3) = w' := by
  subst h
  exact of_any _ _ l _ (lit_row W l) hl
end Go.Proofs.YtmjkgnlmdcmdbaaDoor.Sets
