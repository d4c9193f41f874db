/- Package wire's putting upon the bytes of a constant text: their row is full and has the run-time's mark behind it, so the first append lays a new one. -/
import Derived.Test.YtplajmcjkddikaaPuts
import Derived.ArgAppend
import Derived.Lib.AppendStr
import Derived.Lib.SlBytesConst
import Derived.RegionTactic
import Derived.Deep.RegionWith
import Derived.Deep.DeepCutAuto
import Derived.StillTailTactics
namespace Go.Proofs.Ytplajmcjkddikaa.Puts
open Go.RowKit Go.Proofs.YtplajmcjkddikaaW.PrintWords Go.Proofs.YtplajmcjkddikaaW.PrintLast Go.Proofs.YtplajmcjkddikaaW.PrintMore Go.Proofs.Ytplajmcjkddikaa.Leb Go.Proofs.Ytplajmcjkddikaa.Wire
set_option linter.unusedVariables false
set_option linter.unusedSimpArgs false
/-- the one byte, marked -/
def MX (w : World) (v : Value) : Prop := ∃ g, v = .slice (some ⟨g, 0, none⟩) 1 1 ∧ w.heap[g]? = some (.cells #[.int .u8 120] 5 (1, 2))
def AX (w : World) (base : Nat) (v : Value) (xs : List Int) : Prop := Kd.R (Kd.int .u8) 5 w base (fun _ => True) v xs ∨ (xs = [120] ∧ MX w v)
theorem MX.below {w w' : World} {v : Value} (h : MX w v) (hb : Below w.heap.size w w') : MX w' v := by
  obtain ⟨g, h1, h2⟩ := h
  exact ⟨g, h1, blk_below h2 hb⟩
theorem AX.reads {w : World} {base : Nat} {v : Value} {xs : List Int} (h : AX w base v xs) : ∃ A c, v = .slice A xs.length c ∧ xs.length ≤ c ∧ Kd.C (Kd.int .u8) w A xs.length xs := by
  rcases h with h | ⟨rfl, g, rfl, h⟩
  · obtain ⟨A, c, h1, h2, h3⟩ := Kd.N_reads (Kd.R_N h)
    exact ⟨A, c, h1, h2, h3⟩
  · refine ⟨_, 1, rfl, Nat.le_refl _, rfl, by simp, fun _ => ⟨⟨g, 0, none⟩, rfl, fun j p hj => ⟨[.int .u8 p], rfl, rfl, fun i u hu => ?_⟩⟩⟩
    have hj0 : j = 0 := by
      have := (List.getElem?_eq_some_iff.1 hj).1
      simpa using this
    have hi0 : i = 0 := by
      have := (List.getElem?_eq_some_iff.1 hu).1
      simpa using this
    subst hj0 hi0
    have hp : p = 120 := by simpa using hj.symm
    have hv : u = .int .u8 p := by simpa using hu.symm
    subst hv hp
    have hq : w.cell? ⟨g, 0, none⟩ = some (.int .u8 120) := by simp [World.cell?, h]
    exact hq
theorem app_x {ops : Array Oper} {rest : List Oper} {o : Oper} {a : Act} {Q : Exit → Act → World → Prop} {w0 W : World} (hgd : o.guard = none) (s x : Operand)
    (ho : o.op = .call { callee := .builtin .append, args := #[s, x], argTypes := #[38, 38] }) (v : Value) (xs : List Int) (p : Int) (hs : a.eval s = v) (hx : a.eval x = .slice (some ⟨W.heap.size, 0, none⟩) 1 1)
    (HO : AX W w0.heap.size v xs) (HB : Below w0.heap.size w0 W) (hl : xs.length < 140737488355328)
    (h : ∀ v1 w1, AX w1 w0.heap.size v1 (xs ++ [p]) → Below w0.heap.size w0 w1 → wpList Try.prog ops Q rest (a.put o.dst v1) w1) :
    wpList Try.prog ops Q (o :: rest) a (W.alloc (.cells #[.int .u8 p] 5)) := by
  rcases HO with HO | ⟨rfl, g, rfl, hm⟩
  · exact Kd.R_append (Kd.int .u8) (w0 := w0) w0.heap.size hgd s x 38 5 (.int .u8 0) 1 ho Try.underlying38 PWireBack.info5 rfl (by decide) (by omega) v xs p [.int .u8 p] (fun _ => True) (fun _ => False) hs hx rfl (fun _ hk => hk.elim) (fun _ _ => trivial) HO HB HB.size (by omega) (fun v1 w1 h1 h2 _ _ => h v1 w1 (.inl h1) h2)
  · obtain ⟨i, hi, hi2⟩ := Option.map_eq_some_iff.1 PWireBack.info5
    simp only [Prod.mk.injEq] at hi2
    obtain ⟨hz, hsz, hby⟩ := hi2
    have hm2 := blk_alloc hm (.cells #[.int .u8 p] 5)
    have hm3 := heap_alloc_new W (.cells #[.int .u8 p] 5)
    refine wpList_append_arg (W.alloc (.cells #[.int .u8 p] 5)) hgd s x 38 ho 5 i (.int .u8 0) 1 1 Try.underlying38 hi hz hsz hby rfl (by omega) g 0 1 1 [.int .u8 120] hs rfl ?_ ⟨W.heap.size, 0, none⟩ 1 1 [.int .u8 p] hx rfl ?_ ?_ (fun hh => absurd hh (by omega)) (by unfold maxLen; omega) (by omega) (fun hh => absurd hh (by omega)) ?_
    · intro j u hj
      have hj0 : j = 0 := by
        have := (List.getElem?_eq_some_iff.1 hj).1
        simpa using this
      subst hj0
      have hv : u = .int .u8 120 := by simpa using hj.symm
      subst hv
      have hq : (W.alloc (.cells #[.int .u8 p] 5)).cell? ⟨g, 0, none⟩ = some (.int .u8 120) := by simp [World.cell?, hm2]
      exact hq
    · intro j u hj
      have hj0 : j = 0 := by
        have := (List.getElem?_eq_some_iff.1 hj).1
        simpa using this
      subst hj0
      have hv : u = .int .u8 p := by simpa using hj.symm
      subst hv
      have hq : (W.alloc (.cells #[.int .u8 p] 5)).cell? ⟨W.heap.size, 0, none⟩ = some (.int .u8 p) := by simp
      exact hq
    · intro u hu
      obtain rfl := List.mem_singleton.1 hu
      rfl
    · intro _ v' w' h1 h2
      have hBA := HB.alloc HB.size (.cells #[.int .u8 p] 5)
      refine h v' w' (.inl (Kd.R_lower (Kd.R_of_own (enc := Value.int .u8) (h1 := fun _ => rfl) (xs := [120, p]) h1 (fun _ _ => trivial)) ?_)) (hBA.grown h2 (by have := HB.size; simp; omega) (fun k hk => by simp at hk))
      have := HB.size
      simp; omega

set_option maxRecDepth 100000 in
set_option maxHeartbeats 2000000 in
theorem put_x (v : Value) (xs : List Int) (a : Int) (k : Nat) (r : List Int) (w0 w : World) (hB : Below w0.heap.size w0 w) (hv : AX w w0.heap.size v xs) (h : PWireBack.wire_Put.f k xs a = some r) :
    Calls Try.prog 43 #[v, .int .i64 a] w fun e w' => ∃ v0 : Value, e = .returned v0 ∧ AX w' w0.heap.size v0 r ∧ Below w0.heap.size w0 w' := by
  have HB := Lib.hid hB
  have HV := Lib.hid hv
  clear hB hv
  have H : Hid (a < 0 ∧ r = xs ∨ ¬ a < 0 ∧ PWireBack.wire_Put.l0 k xs a = some r) := Lib.hid (by
    unfold PWireBack.wire_Put.f at h
    by_cases c : a < 0
    · rw [if_pos c] at h; exact .inl ⟨c, (Option.some.inj h).symm⟩
    · rw [if_neg c] at h; exact .inr ⟨c, h⟩)
  clear h
  by_cases c3 : a < 0
  · obtain rfl : r = xs := by rcases H.out with h | h <;> first | exact h.2 | exact absurd c3 h.1
    have c3b0 : decide (a < 0) = true := decide_eq_true c3
    clear c3
    go_enter Try.func43, Try.ntmps43
    go_wp2
    go_ret
    exact ⟨v, rfl, HV.out, HB.out⟩
  have H2 := H.out.resolve_left (fun h => c3 h.1)
  clear H
  have H := Lib.hid H2.2
  have c3b0 : decide (a < 0) = false := decide_eq_false c3
  clear c3 H2
  go_enter Try.func43, Try.ntmps43
  go_wp2
  go_loopg [0, 1] k (fun kq v0 v1 w' => ∃ (x0 : List Int) (x1 : Int), v1 = .int .i64 x1 ∧ Aside0 (PWireBack.wire_Put.l0 kq x0 x1 = some r) ∧ Aside0 (kq ≤ k) ∧ Aside0 (AX w' w0.heap.size v0 x0) ∧ Aside0 (Below w0.heap.size w0 w'))
  case atStart => exact ⟨xs, _, rfl, ⟨H.out⟩, ⟨Nat.le_refl _⟩, ⟨HV.out⟩, ⟨HB.out⟩⟩
  case round =>
    clear H HV HB
    obtain ⟨x0, x1, rfl, HA, HK1, HV, HB⟩ := hrel
    cases gk with
    | zero => exact absurd HA.out (by simp [PWireBack.wire_Put.l0])
    | succ k1 =>
      have H := HA.out
      clear HA
      simp only [PWireBack.wire_Put.l0] at H
      by_cases c4 : x1 ≥ 128
      · rw [if_pos c4] at H
        have c4b0 : decide (128 ≤ x1) = true := decide_eq_true c4
        clear c4
        by_cases c5 : x0.length < 140737488355328
        · rw [if_pos c5] at H
          have HL := Lib.hid c5
          have HH := Lib.hid H
          clear c5 H
          go_wp2_with (at_builtin; refine app_x (w0 := w0) rfl (.tmp 10) (.tmp 14) rfl u0 x0 (Go.bits .or .u8 ((x1) % 256) 128) rfl rfl HV.out HB.out HL.out ?_; intro v1 w1 hv1 hb1)
          go_roundg k1
          case measure => have := HK1.out; omega
          case rel => exact ⟨_, x1 / 128, (by first | rfl | (simp; done) | (simp [*]; done)), ⟨HH.out⟩, ⟨by have := HK1.out; omega⟩, ⟨hv1⟩, ⟨hb1⟩⟩
        · rw [if_neg c5] at H
          exact absurd H (by simp)
      · rw [if_neg c4] at H
        have c4b0 : decide (128 ≤ x1) = false := decide_eq_false c4
        clear c4
        by_cases c5 : x0.length < 140737488355328
        · rw [if_pos c5] at H
          have HL := Lib.hid c5
          obtain rfl := Option.some.inj H
          clear c5 H
          go_wp2_with (at_builtin; refine app_x (w0 := w0) rfl (.tmp 18) (.tmp 21) rfl u0 x0 ((x1) % 256) rfl rfl HV.out HB.out HL.out ?_; intro v1 w1 hv1 hb1)
          go_ret
          exact ⟨_, rfl, hv1, hb1⟩
        · rw [if_neg c5] at H
          exact absurd H (by simp)

set_option maxRecDepth 100000 in
set_option maxHeartbeats 2000000 in
theorem sign_x (v : Value) (xs : List Int) (a : Int) (k : Nat) (r : List Int) (w0 w : World) (hB : Below w0.heap.size w0 w) (hv : AX w w0.heap.size v xs) (h : PWireBack.wire_Sign.f k xs a = some r) :
    Calls Try.prog 39 #[v, .int .i64 a] w fun e w' => ∃ v0 : Value, e = .returned v0 ∧ AX w' w0.heap.size v0 r ∧ Below w0.heap.size w0 w' := by
  have HB := Lib.hid hB
  have HV := Lib.hid hv
  clear hB hv
  have H : Hid (PWireBack.wire_Sign.l0 k xs (Go.bits .xor .u64 (IntKind.u64.wrap ((IntKind.u64.wrap (a)) * 2)) (IntKind.u64.wrap (a / 9223372036854775808))) = some r) := Lib.hid h
  clear h
  go_enter Try.func39, Try.ntmps39
  go_wp2
  go_loopg [0, 5] k (fun kq v0 v1 w' => ∃ (x0 : List Int) (x1 : Int), v1 = .int .u64 x1 ∧ Aside0 (PWireBack.wire_Sign.l0 kq x0 x1 = some r) ∧ Aside0 (kq ≤ k) ∧ Aside0 (AX w' w0.heap.size v0 x0) ∧ Aside0 (Below w0.heap.size w0 w'))
  case atStart => exact ⟨xs, _, rfl, ⟨H.out⟩, ⟨Nat.le_refl _⟩, ⟨HV.out⟩, ⟨HB.out⟩⟩
  case round =>
    clear H HV HB
    obtain ⟨x0, x1, rfl, HA, HK1, HV, HB⟩ := hrel
    cases gk with
    | zero => exact absurd HA.out (by simp [PWireBack.wire_Sign.l0])
    | succ k1 =>
      have H := HA.out
      clear HA
      simp only [PWireBack.wire_Sign.l0] at H
      by_cases c4 : x1 ≥ 128
      · rw [if_pos c4] at H
        have c4b0 : decide (128 ≤ x1) = true := decide_eq_true c4
        clear c4
        by_cases c5 : x0.length < 140737488355328
        · rw [if_pos c5] at H
          have HL := Lib.hid c5
          have HH := Lib.hid H
          clear c5 H
          go_wp2_with (at_builtin; refine app_x (w0 := w0) rfl (.tmp 15) (.tmp 19) rfl u0 x0 (Go.bits .or .u8 ((x1) % 256) 128) rfl rfl HV.out HB.out HL.out ?_; intro v1 w1 hv1 hb1)
          go_roundg k1
          case measure => have := HK1.out; omega
          case rel => exact ⟨_, x1 / 128, (by first | rfl | (simp; done) | (simp [*]; done)), ⟨HH.out⟩, ⟨by have := HK1.out; omega⟩, ⟨hv1⟩, ⟨hb1⟩⟩
        · rw [if_neg c5] at H
          exact absurd H (by simp)
      · rw [if_neg c4] at H
        have c4b0 : decide (128 ≤ x1) = false := decide_eq_false c4
        clear c4
        by_cases c5 : x0.length < 140737488355328
        · rw [if_pos c5] at H
          have HL := Lib.hid c5
          obtain rfl := Option.some.inj H
          clear c5 H
          go_wp2_with (at_builtin; refine app_x (w0 := w0) rfl (.tmp 23) (.tmp 26) rfl u0 x0 ((x1) % 256) rfl rfl HV.out HB.out HL.out ?_; intro v1 w1 hv1 hb1)
          go_ret
          exact ⟨_, rfl, hv1, hb1⟩
        · rw [if_neg c5] at H
          exact absurd H (by simp)
end Go.Proofs.Ytplajmcjkddikaa.Puts
