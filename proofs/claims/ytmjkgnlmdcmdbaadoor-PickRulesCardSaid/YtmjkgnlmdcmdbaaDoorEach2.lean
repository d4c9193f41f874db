/- Each hands over a set's nodes, rising. -/
import Derived.Test.YtmjkgnlmdcmdbaaDoorEach
import Derived.Test.YtmjkgnlmdcmdbaaDoorSetAwake
namespace Go.Proofs.YtmjkgnlmdcmdbaaDoor.Each
open Go.RowKit Go.Shelf Go.Proofs.YtmjkgnlmdcmdbaaDoorW.PrintWords Go.Proofs.YtmjkgnlmdcmdbaaDoorW.PrintMore Go.Proofs.YtmjkgnlmdcmdbaaDoor.Sets
set_option linter.unusedVariables false
set_option linter.unusedSimpArgs false
attribute [local go_sem] Oper.semAt_some
def vals (s : Nat) : List Value := (nodes s).map fun (i : Nat) => Value.int .i64 (i : Int)
theorem vals_len (s : Nat) : (vals s).length = lenS s := by simp [vals, lenS]
set_option maxRecDepth 100000 in
set_option maxHeartbeats 1000000 in
theorem each_hands (s n : Nat) (hs : s < 18446744073709551616) (hn : 1 ≤ n) : Hands n Tryd.prog 95 #[.int .u64 (s : Int)] Tab (vals s) := fun l K W hT hY h0 => by
  have HT := Lib.hid hT
  have HY := Lib.hid hY
  clear hT hY
  have hl : (vals s).length = lenS s := vals_len s
  refine callsIn_of_wp Tryd.func95 rfl trivial ?_ rfl
  simp only [Tryd.ntmps95, List.size_toArray, List.length_cons, List.length_nil, Nat.reduceAdd, Nat.reduceSub, Array.replicate_succ, Array.replicate_zero, List.push_toArray, List.append_toArray, List.nil_append, List.cons_append]
  gi_wp2
  gi_loopw [0] (fun v wr => ∃ (t k : Nat), v = .int .u64 (t : Int) ∧ Aside0 (k ≤ lenS s ∧ t < 18446744073709551616 ∧ nodes t = (nodes s).drop k) ∧ Aside0 (K k wr))
    (fun v wr => lenS (match v with | .int _ x => x.toNat | _ => 0))
  case atStart => exact ⟨s, 0, rfl, ⟨by omega, hs, rfl⟩, ⟨h0⟩⟩
  case round =>
    obtain ⟨t, i, rfl, HI, HK⟩ := hrel
    have ht := HI.out.2.1
    by_cases h0 : t = 0
    · subst h0
      have hn : i = lenS s := by
        have h1 := HI.out.2.2
        rw [nodes_zero] at h1
        have h2 := congrArg List.length h1
        rw [List.length_drop] at h2
        have h3 := HI.out.1
        simp [lenS] at h2 h3 ⊢
        omega
      gi_wp2
      go_end0
      exact ⟨⟨_, rfl⟩, by rw [hl, ← hn]; exact HK.out⟩
    · have b0 : ((t : Int) != 0) = true := by simp; omega
      have hi : i < lenS s := by
        rcases Nat.lt_or_ge i (lenS s) with h | h
        · exact h
        · have h1 := HI.out.2.2
          rw [List.drop_eq_nil_of_le h] at h1
          exact absurd ((nodes_eq_nil t ht).1 h1) h0
      have hk : i < (nodes s).length := hi
      have hd := nodes_low t h0 ht
      rw [HI.out.2.2, List.drop_eq_getElem_cons hk] at hd
      injection hd with d1 d2
      have KW := low_any t wr ht (HT.out i wr HK.out)
      rw [lowS_at t h0, ← d1] at KW
      have hv : (vals s)[i]? = some (.int .i64 ((nodes s)[i] : Int)) := by
        unfold vals
        rw [List.getElem?_map, List.getElem?_eq_getElem hk]
        rfl
      obtain ⟨fn, tmps, assign, body, hy, hR⟩ := HY.out i wr _ hv HK.out
      generalize (nodes s)[i] = x at KW hy hR d1 d2
      have hA : bits BinOp.and IntKind.u64 (t : Int) ((t : Int) - 1) = ((t &&& (t - 1) : Nat) : Int) := by
        have e : ((t : Int) - 1) = ((t - 1 : Nat) : Int) := by omega
        rw [e, bits_and_u64_nat t (t - 1) ht (by omega)]
      have w1 : IntKind.u64.wrap ((t : Int) - 1) = (t : Int) - 1 := by rw [IntKind.wrap_u64]; omega
      have hal : t &&& (t - 1) < 18446744073709551616 := Nat.lt_of_le_of_lt Nat.and_le_left ht
      have KL := Lib.hid KW
      have HR := Lib.hid hR
      have hm : lenS (t &&& (t - 1)) < lenS t := by
        have h1 := congrArg List.length d2
        have h2 := congrArg List.length HI.out.2.2
        rw [List.length_drop] at h1 h2
        simp only [lenS] at hi ⊢
        omega
      have HM := Lib.hid hm
      have HD := Lib.hid d2
      clear KW hR hm d1 d2 hv
      generalize t &&& (t - 1) = t' at hA hal HM HD
      gi_wp2_with (refine ⟨trivial, ?_⟩; gi_at_call 33; refine (callsIn_wide.2 KL.out).mono ?_; rintro e w2 ⟨rfl, rfl⟩)
      refine HR.out.mono ?_
      rintro e W3 ⟨rfl, hK3⟩
      gi_wp2
      go_roundw
      case rel => exact ⟨t', i + 1, rfl, ⟨by omega, hal, HD.out.symm⟩, ⟨hK3⟩⟩
      case measure => exact HM.out
end Go.Proofs.YtmjkgnlmdcmdbaaDoor.Each
