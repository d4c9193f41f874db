/- reply.Bytes: what it computes, for every reply. -/
import Derived.Test.YtplajmcjkddikaaPReplyTellsx2
import Derived.Test.YtplajmcjkddikaaWire
import Derived.Lib.Hide
import Derived.RegionTactic
import Derived.Deep.RegionWith
import Derived.Deep.DeepCutAuto
import Derived.Deep.CutBlock
import Derived.OpenShut
import Derived.StillTailTactics
import Derived.Handy
namespace Go.Proofs.Ytplajmcjkddikaa.Reply
open Go.RowKit Go.Proofs.YtplajmcjkddikaaW.PrintWords Go.Proofs.YtplajmcjkddikaaW.PrintLast Go.Proofs.YtplajmcjkddikaaW.PrintMore Go.Proofs.Ytplajmcjkddikaa.Leb Go.Proofs.Ytplajmcjkddikaa.Wire
set_option linter.unusedVariables false
set_option linter.unusedSimpArgs false

abbrev In64 (a : Int) : Prop := -9223372036854775808 ≤ a ∧ a ≤ 9223372036854775807
def nine (x0 x1 x2 x3 x4 x5 x6 x7 x8 : Int) : List Int := [x0, x1, x2, x3, x4, x5, x6, x7, x8]
def mk (x : List Int) : Nat → Nat
  | 0 => 0
  | n + 1 => mk x n + (if x.getD n 0 = 0 then 0 else 2 ^ n)
theorem mk_lt (x : List Int) : ∀ n, mk x n < 2 ^ n
  | 0 => by simp [mk]
  | n + 1 => by
    have := mk_lt x n
    simp only [mk, Nat.pow_succ]
    split <;> omega
def out (x : List Int) : Nat → List Int
  | 0 => 184 :: enc (mk x 9)
  | n + 1 => out x n ++ (if x.getD n 0 = 0 then [] else sgn (x.getD n 0))
theorem or_bit (m n : Nat) (h : m < 2 ^ n) (hn : n < 9) : Go.bits .or .i64 (m : Int) (wrap64 (2 ^ n)) = ((m + 2 ^ n : Nat) : Int) := by
  have key : ∀ n, n < 9 → ∀ m : Nat, m < 2 ^ n → Go.bits .or .i64 (m : Int) (wrap64 (2 ^ n)) = ((m + 2 ^ n : Nat) : Int) := by decide +kernel
  exact key n hn m h
theorem out_len (x : List Int) (h : ∀ n, In64 (x.getD n 0)) : ∀ n, (out x n).length ≤ 11 + 10 * n
  | 0 => by
    have h1 := mk_lt x 9
    have := enc_len10 (mk x 9) (by omega)
    simp only [out, List.length_cons]; omega
  | n + 1 => by
    have h1 := out_len x h n
    have := enc_len10 (zig (x.getD n 0)) (zig_lt _ (h n))
    simp only [out, List.length_append]
    split
    · simp; omega
    · change _ + (enc (zig (x.getD n 0))).length ≤ _; omega

theorem put_same : ∀ k xs u, PReplyTells.wire_Put.l0 k xs u = PWireBack.wire_Sign.l0 k xs u
  | 0, _, _ => rfl
  | k + 1, xs, u => by simp only [PReplyTells.wire_Put.l0, PWireBack.wire_Sign.l0, put_same k]
theorem put_k (u : Nat) (hu : u < 18446744073709551616) (xs : List Int) (hl : xs.length ≤ 140737488355318) : PReplyTells.wire_Put.f (u + 1) xs (u : Int) = some (xs ++ enc u) := by
  unfold PReplyTells.wire_Put.f
  rw [if_neg (by omega), put_same]
  exact sign_l0 u _ xs (by omega) (by have := enc_len10 u hu; omega)
theorem put_any (P0 : Nat → Prop) (v : Value) (xs : List Int) (u : Nat) (hu : u < 18446744073709551616) (w0 w : World) (hB : Below w0.heap.size w0 w) (ho : Kd.R (Kd.int .u8) 5 w w0.heap.size P0 v xs)
    (hl : xs.length ≤ 140737488355318) :
    Calls Try.prog 43 #[v, .int .i64 u] w fun e w' => ∃ v0 : Value, e = .returned v0 ∧ Kd.R (Kd.int .u8) 5 w' w0.heap.size (fun k => P0 k ∨ w.heap.size ≤ k) v0 (xs ++ enc u) ∧ Below w0.heap.size w0 w' ∧ Kept w w' P0 :=
  PReplyTells.wire_Put.calls (u + 1) P0 v xs u _ w0 w hB ho (put_k u hu xs hl)

set_option maxRecDepth 100000 in
set_option maxHeartbeats 2000000 in
theorem list_any (x0 x1 x2 x3 x4 x5 x6 x7 x8 : Int) (w : World) :
    Calls Try.prog 106 #[.agg #[.int .i64 x0, .int .i64 x1, .int .i64 x2, .int .i64 x3, .int .i64 x4, .int .i64 x5, .int .i64 x6, .int .i64 x7, .int .i64 x8]] w fun e w' => e = .returned (.agg #[.int .i64 x0, .int .i64 x1, .int .i64 x2, .int .i64 x3, .int .i64 x4, .int .i64 x5, .int .i64 x6, .int .i64 x7, .int .i64 x8]) ∧ Below w.heap.size w w' := by
  have hu1 := Try.underlying85
  have hu2 := Try.underlying128
  go_enter Try.func106, Try.ntmps106
  go_wp2
  go_returns
  exact ⟨rfl, by go_grown⟩

set_option maxRecDepth 100000 in
set_option maxHeartbeats 4000000 in
theorem bytes_any (x0 x1 x2 x3 x4 x5 x6 x7 x8 : Int) (h : ∀ n, In64 ((nine x0 x1 x2 x3 x4 x5 x6 x7 x8).getD n 0)) (w : World) :
    Calls Try.prog 79 #[.agg #[.int .i64 x0, .int .i64 x1, .int .i64 x2, .int .i64 x3, .int .i64 x4, .int .i64 x5, .int .i64 x6, .int .i64 x7, .int .i64 x8]] w fun e w' =>
      ∃ v : Value, e = .returned v ∧ Kd.R (Kd.int .u8) 5 w' w.heap.size (fun _ => True) v (out (nine x0 x1 x2 x3 x4 x5 x6 x7 x8) 9) ∧ Below w.heap.size w w' := by
  have hu1 := Try.underlying85
  have hu2 := Try.underlying128
  go_enter Try.func79, Try.ntmps79
  go_upto_region 2 with (go_at_call 106; refine (list_any _ _ _ _ _ _ _ _ _ _).mono ?_; rintro e w1 ⟨rfl, hb1⟩)
  go_cut [3, 4] (fun v3 v4 wb => v4 = .int .i64 0 ∧ ∃ g, v3 = .pointer (some ⟨g, 0, none⟩) ∧ Aside0 (wb.heap[g]? = some (.cells #[.int .i64 x0, .int .i64 x1, .int .i64 x2, .int .i64 x3, .int .i64 x4, .int .i64 x5, .int .i64 x6, .int .i64 x7, .int .i64 x8] 128)) ∧ Aside0 (Below w.heap.size w wb))
  case first =>
    go_wp2
    go_meet
    exact ⟨rfl, _, rfl, ⟨heap_alloc_new _ _⟩, ⟨below_alloc (below_step (below_alloc (Below.refl _ _) _) hb1) _⟩⟩
  case rest =>
    obtain ⟨rfl, g, rfl, BK, HB⟩ := hcut
    have hcz0 : wc.cell? ⟨g, 0, none⟩ = some (.int .i64 x0) := (blk_cell BK.out 0).trans rfl
    have hcz1 : wc.cell? ⟨g, 1, none⟩ = some (.int .i64 x1) := (blk_cell BK.out 1).trans rfl
    have hcz2 : wc.cell? ⟨g, 2, none⟩ = some (.int .i64 x2) := (blk_cell BK.out 2).trans rfl
    have hcz3 : wc.cell? ⟨g, 3, none⟩ = some (.int .i64 x3) := (blk_cell BK.out 3).trans rfl
    have hcz4 : wc.cell? ⟨g, 4, none⟩ = some (.int .i64 x4) := (blk_cell BK.out 4).trans rfl
    have hcz5 : wc.cell? ⟨g, 5, none⟩ = some (.int .i64 x5) := (blk_cell BK.out 5).trans rfl
    have hcz6 : wc.cell? ⟨g, 6, none⟩ = some (.int .i64 x6) := (blk_cell BK.out 6).trans rfl
    have hcz7 : wc.cell? ⟨g, 7, none⟩ = some (.int .i64 x7) := (blk_cell BK.out 7).trans rfl
    have hcz8 : wc.cell? ⟨g, 8, none⟩ = some (.int .i64 x8) := (blk_cell BK.out 8).trans rfl
    go_wp2
    clear hcz0 hcz1 hcz2 hcz3 hcz4 hcz5 hcz6 hcz7 hcz8 hb1 w1
    go_loop [4, 13] (fun m i => ∃ n : Nat, n ≤ 9 ∧ i = .int .i64 n ∧ m = .int .i64 (mk (nine x0 x1 x2 x3 x4 x5 x6 x7 x8) n)) (fun _ i => 9 - (intOf i).toNat)
    case atStart => exact ⟨0, by omega, rfl, rfl⟩
    case round =>
      obtain ⟨n, hn, rfl, rfl⟩ := hrel
      have hm := mk_lt (nine x0 x1 x2 x3 x4 x5 x6 x7 x8) n
      by_cases hlt : n < 9
      · have hidx : ∀ w, (Instr.index 128 (.agg #[.int .i64 x0, .int .i64 x1, .int .i64 x2, .int .i64 x3, .int .i64 x4, .int .i64 x5, .int .i64 x6, .int .i64 x7, .int .i64 x8]) (.int .i64 (n : Int))).run Try.prog w = .ok (.int .i64 ((nine x0 x1 x2 x3 x4 x5 x6 x7 x8).getD n 0)) w := by
          intro w
          rcases (by omega : n = 0 ∨ n = 1 ∨ n = 2 ∨ n = 3 ∨ n = 4 ∨ n = 5 ∨ n = 6 ∨ n = 7 ∨ n = 8) with rfl | rfl | rfl | rfl | rfl | rfl | rfl | rfl | rfl <;> kernel_rfl
        have hmk : Aside0 (mk (nine x0 x1 x2 x3 x4 x5 x6 x7 x8) (n + 1) = mk (nine x0 x1 x2 x3 x4 x5 x6 x7 x8) n + (if (nine x0 x1 x2 x3 x4 x5 x6 x7 x8).getD n 0 = 0 then 0 else 2 ^ n)) := ⟨rfl⟩
        have hor := or_bit (mk (nine x0 x1 x2 x3 x4 x5 x6 x7 x8) n) n hm hlt
        generalize (nine x0 x1 x2 x3 x4 x5 x6 x7 x8).getD n 0 = v at hidx hmk
        generalize mk (nine x0 x1 x2 x3 x4 x5 x6 x7 x8) n = m at hm hmk hor ⊢
        by_cases hv : v = 0
        · have hv0 : (v == 0) = true := by simpa using hv
          have hv1 : (v != 0) = false := by simpa using hv
          go_wp2
          go_round
          case rel => exact ⟨n + 1, by omega, by go_num, by rw [hmk.out, if_pos hv]; rfl⟩
          case measure => simp [intOf]; omega
        · have hv0 : (v == 0) = false := by simpa using hv
          have hv1 : (v != 0) = true := by simpa using hv
          go_wp2
          go_round
          case rel => exact ⟨n + 1, by omega, by go_num, by rw [hmk.out, if_neg hv]; first | rw [hor] | rfl⟩
          case measure => simp [intOf]; omega
      · have he : n = 9 := by omega
        rw [he]
        rw [he] at hm
        have hx : decide (((9 : Nat) : Int) < 9) = false := by decide
        go_wp2_with (first
          | ((with_reducible refine gate_dst (N := 24) rfl ?_); refine Kd.R_lit (Kd.int .u8) _ 5 ?hg (N := 24) ?hd (xs := ([184] : List Int)) (inner := [.int .u8 184]) (ok := fun _ => True) (okp := fun _ => True) ?hr ?hp (fun _ hk => hk) trivial (Below.refl _ _) (Nat.le_refl _) (by simp) ?_; (case hd => rfl); (case hg => rfl); (case hr => first | (go_simp; done) | (go_simp; rfl)); (case hp => exact (Reps.one (show Kd.M (Kd.int .u8) _ _ _ 184 [.int .u8 184] from rfl) (Reps.none _ _))); intro v24 w24 ho24 hb24 hg_ hnew_; clear hg_ hnew_)
          | (go_at_call 43; refine (put_any _ _ [184] (mk (nine x0 x1 x2 x3 x4 x5 x6 x7 x8) 9) (by omega) wc _ hb24 ho24 (by simp)).mono ?_; rintro e w26 ⟨v26, rfl, ho26, hb26, hk26⟩; have hcy0 : w26.cell? ⟨g, 0, none⟩ = some (.int .i64 x0) := (blk_cell (blk_below BK.out hb26) 0).trans rfl; have hcy1 : w26.cell? ⟨g, 1, none⟩ = some (.int .i64 x1) := (blk_cell (blk_below BK.out hb26) 1).trans rfl; have hcy2 : w26.cell? ⟨g, 2, none⟩ = some (.int .i64 x2) := (blk_cell (blk_below BK.out hb26) 2).trans rfl; have hcy3 : w26.cell? ⟨g, 3, none⟩ = some (.int .i64 x3) := (blk_cell (blk_below BK.out hb26) 3).trans rfl; have hcy4 : w26.cell? ⟨g, 4, none⟩ = some (.int .i64 x4) := (blk_cell (blk_below BK.out hb26) 4).trans rfl; have hcy5 : w26.cell? ⟨g, 5, none⟩ = some (.int .i64 x5) := (blk_cell (blk_below BK.out hb26) 5).trans rfl; have hcy6 : w26.cell? ⟨g, 6, none⟩ = some (.int .i64 x6) := (blk_cell (blk_below BK.out hb26) 6).trans rfl; have hcy7 : w26.cell? ⟨g, 7, none⟩ = some (.int .i64 x7) := (blk_cell (blk_below BK.out hb26) 7).trans rfl; have hcy8 : w26.cell? ⟨g, 8, none⟩ = some (.int .i64 x8) := (blk_cell (blk_below BK.out hb26) 8).trans rfl))
        have ho26' : Kd.R (Kd.int .u8) 5 w26 wc.heap.size (fun _ => True) v26 (out (nine x0 x1 x2 x3 x4 x5 x6 x7 x8) 0) := Kd.R_mono ho26 (fun _ _ => trivial)
        clear hk26 ho26 hm he hx hn hlt hcy0 hcy1 hcy2 hcy3 hcy4 hcy5 hcy6 hcy7 hcy8
        have HO := Lib.hid ho26'
        have HB2 := Lib.hid hb26
        clear ho26' hb26 ho24 hb24
        go_loopw [7, 28] (fun v i w2 => ∃ n : Nat, n ≤ 9 ∧ i = .int .i64 n ∧ Aside0 (Kd.R (Kd.int .u8) 5 w2 wc.heap.size (fun _ => True) v (out (nine x0 x1 x2 x3 x4 x5 x6 x7 x8) n)) ∧ Aside0 (Below wc.heap.size wc w2)) (fun _ i _ => 9 - (intOf i).toNat)
        case atStart => exact ⟨0, by omega, rfl, ⟨HO.out⟩, ⟨HB2.out⟩⟩
        case round =>
          clear HO HB2
          obtain ⟨n, hn, rfl, HO, HB2⟩ := hrel
          by_cases hlt : n < 9
          · have hidx : ∀ w, (Instr.index 128 (.agg #[.int .i64 x0, .int .i64 x1, .int .i64 x2, .int .i64 x3, .int .i64 x4, .int .i64 x5, .int .i64 x6, .int .i64 x7, .int .i64 x8]) (.int .i64 (n : Int))).run Try.prog w = .ok (.int .i64 ((nine x0 x1 x2 x3 x4 x5 x6 x7 x8).getD n 0)) w := by
              intro w
              rcases (by omega : n = 0 ∨ n = 1 ∨ n = 2 ∨ n = 3 ∨ n = 4 ∨ n = 5 ∨ n = 6 ∨ n = 7 ∨ n = 8) with rfl | rfl | rfl | rfl | rfl | rfl | rfl | rfl | rfl <;> kernel_rfl
            have hout : Aside0 (out (nine x0 x1 x2 x3 x4 x5 x6 x7 x8) (n + 1) = out (nine x0 x1 x2 x3 x4 x5 x6 x7 x8) n ++ (if (nine x0 x1 x2 x3 x4 x5 x6 x7 x8).getD n 0 = 0 then [] else sgn ((nine x0 x1 x2 x3 x4 x5 x6 x7 x8).getD n 0))) := ⟨rfl⟩
            have hv64 := Lib.hid (h n)
            have hlen := out_len (nine x0 x1 x2 x3 x4 x5 x6 x7 x8) h n
            generalize (nine x0 x1 x2 x3 x4 x5 x6 x7 x8).getD n 0 = v at hidx hout hv64
            by_cases hv : v = 0
            · have hv0 : (v == 0) = true := by simpa using hv
              have hv1 : (v != 0) = false := by simpa using hv
              go_wp2
              go_round
              case rel => exact ⟨n + 1, by omega, by go_num, ⟨by rw [hout.out, if_pos hv, List.append_nil]; exact HO.out⟩, HB2⟩
              case measure => simp [intOf]; omega
            · have hv0 : (v == 0) = false := by simpa using hv
              have hv1 : (v != 0) = true := by simpa using hv
              go_wp2_with (go_at_call 39; refine (sign_any (fun _ => True) _ _ v wc _ HB2.out HO.out hv64.out (by omega)).mono ?_; rintro e w35 ⟨v35, rfl, ho35, hb35, hk35⟩)
              go_round
              case rel => exact ⟨n + 1, by omega, by go_num, ⟨by rw [hout.out, if_neg hv]; exact Kd.R_mono ho35 (fun _ _ => trivial)⟩, ⟨hb35⟩⟩
              case measure => simp [intOf]; omega
          · have he : n = 9 := by omega
            rw [he] at HO
            rw [he]
            have hx : decide (((9 : Nat) : Int) < 9) = false := by decide
            go_wp2
            go_ret
            exact ⟨_, rfl, Kd.R_lower HO.out (below_size HB.out), below_step HB.out HB2.out⟩
end Go.Proofs.Ytplajmcjkddikaa.Reply
