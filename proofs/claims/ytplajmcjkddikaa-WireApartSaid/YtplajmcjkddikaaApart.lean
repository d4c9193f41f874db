/- WireApart: unlike numbers have unlike bytes, none of which is the beginning of the other's; the law's walk, for every two int64. -/
import Derived.Test.YtplajmcjkddikaaWire
import Derived.Lib.Hide
import Derived.RegionTactic
import Derived.Deep.RegionWith
import Derived.Deep.DeepCutAuto
import Derived.Deep.CutBlock
import Derived.OpenShut
import Derived.StillTailTactics
import Derived.Handy
namespace Go.Proofs.Ytplajmcjkddikaa.Wire
open Go.RowKit Go.Proofs.YtplajmcjkddikaaW.PrintWords Go.Proofs.YtplajmcjkddikaaW.PrintLast Go.Proofs.YtplajmcjkddikaaW.PrintMore Go.Proofs.Ytplajmcjkddikaa.Leb
set_option linter.unusedVariables false

theorem awake1_any (w : World) : Calls Try.prog 40 #[] w fun e w' => e = .returned (.bool true) ∧ Below w.heap.size w w' :=
  PWireBack.berthagelaw01_awake.calls 400 true w (by decide +kernel)

set_option maxRecDepth 100000 in
set_option maxHeartbeats 2000000 in
theorem WireApart_any (a b : Int) (w : World) (wa : (Lit.int .i64 a).wf = true) (wb : (Lit.int .i64 b).wf = true) :
    Calls Try.prog 7 #[.int .i64 a, .int .i64 b] w fun e w' => e = .returned (.bool true) ∧ Below w.heap.size w w' := by
  have ha := bounds_i64 wa
  have hb := bounds_i64 wb
  clear wa wb
  have U1 := Try.underlying38
  have U2 := Try.underlying5
  have U3 := Try.underlying9
  go_enter Try.func7, Try.ntmps7
  go_upto_region 1 with fail
  go_cut [5, 6] (fun s t wx => s = .string (strOfNums (sgn a)) ∧ t = .string (strOfNums (sgn b)) ∧ Below w.heap.size w wx)
  case first =>
    go_region_with (first
      | (go_at_call_of 39 (Value.int IntKind.i64 a); refine (sign_nil a _ ha).mono ?_; rintro e w1 ⟨v1, rfl, ho1, hb1⟩; have hcv1 := own_string (P := Try.prog) Try.underlying38 Try.underlying5 Try.underlying9 (Kd.own_of_R ho1))
      | (go_at_call_of 39 (Value.int IntKind.i64 b); refine (sign_nil b _ hb).mono ?_; rintro e w2 ⟨v2, rfl, ho2, hb2⟩; have hcv2 := own_string (P := Try.prog) Try.underlying38 Try.underlying5 Try.underlying9 (Kd.own_of_R ho2); have hcv3 := own_string (P := Try.prog) Try.underlying38 Try.underlying5 Try.underlying9 (Kd.own_of_R (Kd.R_below ho1 hb2))))
    all_goals
      go_wp2_with fail
      go_meet
      exact ⟨rfl, rfl, below_step (below_step (by repeat (first | exact Below.refl _ _ | apply below_alloc | apply below_drew1)) hb1) hb2⟩
  case rest =>
    obtain ⟨rfl, rfl, hb0⟩ := hcut
    have HB := Lib.hid hb0
    clear hb0
    by_cases hab : a = b
    · subst hab
      go_wp2_with (go_at_call 40; refine (awake1_any _).mono ?_; rintro e w1 ⟨rfl, hb1⟩)
      go_ret
      exact ⟨rfl, below_step HB.out hb1⟩
    · have hab0 : (a == b) = false := by simpa using hab
      have hpa : 0 < (sgn a).length := enc_pos _
      have hpb : 0 < (sgn b).length := enc_pos _
      have hsa := str_size (sgn a)
      have hsb := str_size (sgn b)
      have hla := enc_len10 (zig a) (zig_lt a ha)
      have hlb := enc_len10 (zig b) (zig_lt b hb)
      by_cases hl : (sgn b).length < (sgn a).length
      · have hne := fun h => sgn_apart b a hb ha (fun e => hab e.symm) (by omega) (Eq.symm h)
        generalize strOfNums (sgn a) = s at *
        generalize strOfNums (sgn b) = t at *
        change (sgn a).length ≤ 10 at hla
        change (sgn b).length ≤ 10 at hlb
        generalize (sgn a).length = la at *
        generalize (sgn b).length = lb at *
        subst hsa hsb
        have hne2 : ¬ (s.extract 0 t.size).toList = t.toList := by simpa using hne
        have hq : ((s.extract 0 t.size).toList == t.toList) = false := by simpa using hne2
        have hq' : ((s.extract 0 t.size).toList != t.toList) = true := by simpa using hne2
        have hsz : t.size ≤ s.size := by omega
        have hsz' : (t.size : Int) ≤ (s.size : Int) := by omega
        have hlt : (t.size : Int) < (s.size : Int) := by omega
        have hpos : (0 : Int) < (t.size : Int) := by omega
        clear hne hne2 hab
        go_upto_region 7 with fail
        go_still_tail 12, (by kernel_rfl)
        change wpList _ _ _ _ _ wc.drew
        have HB2 := Lib.hid (below_drew1 HB.out)
        clear HB
        generalize wc.drew = w2 at HB2 ⊢
        go_wp2_with (go_at_call 40; refine (awake1_any _).mono ?_; rintro e w1 ⟨rfl, hb1⟩)
        go_ret
        exact ⟨rfl, below_step HB2.out hb1⟩
      · have hne := sgn_apart a b ha hb hab (by omega)
        generalize strOfNums (sgn a) = s at *
        generalize strOfNums (sgn b) = t at *
        change (sgn a).length ≤ 10 at hla
        change (sgn b).length ≤ 10 at hlb
        generalize (sgn a).length = la at *
        generalize (sgn b).length = lb at *
        subst hsa hsb
        have hne2 : ¬ s.toList = (t.extract 0 s.size).toList := by simpa using hne
        have hq : (s.toList == (t.extract 0 s.size).toList) = false := by simpa using hne2
        have hq' : (s.toList != (t.extract 0 s.size).toList) = true := by simpa using hne2
        have hsz : s.size ≤ t.size := by omega
        have hsz' : (s.size : Int) ≤ (t.size : Int) := by omega
        have hlt : ¬ (t.size : Int) < (s.size : Int) := by omega
        have hpos : (0 : Int) < (s.size : Int) := by omega
        clear hne hne2 hab
        go_upto_region 7 with fail
        go_still_tail 12, (by kernel_rfl)
        change wpList _ _ _ _ _ wc.drew
        have HB2 := Lib.hid (below_drew1 HB.out)
        clear HB
        generalize wc.drew = w2 at HB2 ⊢
        go_wp2_with (go_at_call 40; refine (awake1_any _).mono ?_; rintro e w1 ⟨rfl, hb1⟩)
        go_ret
        exact ⟨rfl, below_step HB2.out hb1⟩
end Go.Proofs.Ytplajmcjkddikaa.Wire
