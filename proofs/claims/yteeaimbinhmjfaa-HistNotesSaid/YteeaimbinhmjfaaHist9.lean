/- hist.Log.Find: the first event of a kind of a task. -/
import Derived.Test.YteeaimbinhmjfaaHist8
namespace Go.Proofs.Yteeaimbinhmjfaa.Hist
open Go.RowKit Go.Proofs.Yteeaimbinhmjfaa.Flat Go.Proofs.YteeaimbinhmjfaaW.PrintWords Go.Proofs.YteeaimbinhmjfaaW.PrintLast Go.Proofs.YteeaimbinhmjfaaW.PrintMore
set_option linter.unusedVariables false
set_option linter.unusedSimpArgs false
set_option maxRecDepth 100000
def fnd (k t : Int) (c : List Value) : Bool := iv c 1 == k && iv c 2 == t
theorem find_at {p : List Value → Bool} {l : List (List Value)} {i : Nat} {e : List Value} (h : (l.take i).find? p = none) (hi : l[i]? = some e) (he : p e = true) : l.find? p = some e := by
  obtain ⟨hlt, rfl⟩ := List.getElem?_eq_some_iff.1 hi
  conv => lhs; rw [← List.take_append_drop i l]
  rw [List.find?_append, h, Option.none_or, List.drop_eq_getElem_cons hlt, List.find?_cons_of_pos he]
theorem find_step {p : List Value → Bool} {l : List (List Value)} {i : Nat} {e : List Value} (h : (l.take i).find? p = none) (hi : l[i]? = some e) (he : p e = false) : (l.take (i + 1)).find? p = none := by
  rw [List.take_add_one, hi, List.find?_append, h, Option.none_or]
  show [e].find? p = none
  rw [List.find?_cons_of_neg (by rw [he]; decide), List.find?_nil]
theorem exec_zev {ρ : Operand → Value} {oi : Oper} {W : World} (ho : oi.op = .build 31 #[]) : (execOp ρ oi).run Try.prog W = .ok (.value (.agg zev.toArray)) W := by
  have hrun : (Instr.build 31 #[]).run Try.prog W = .ok (.agg zev.toArray) W := by kernel_rfl
  unfold execOp
  simp only [ho, List.map_toArray, List.map_nil, Sem.run_bind, hrun, Result.andThen_ok, Sem.run_pure]
theorem ev_zero {ops : Array Oper} {rest : List Oper} {o : Oper} {a : Act} {Q : Exit → Act → World → Prop} {W : World} (hgd : o.guard = none) (ho : o.op = .build 31 #[])
    (h : ∀ e, e = zev → Flat.Leaves EL e → wpList Try.prog ops Q rest (a.put o.dst (.agg e.toArray)) W) : wpList Try.prog ops Q (o :: rest) a W := Kd.event_run hgd (exec_zev ho) (h _ rfl zev_ok)
theorem res_of {c : List Value} (h : Flat.Leaves EL c) : (Try.prog.info? 31).map (·.size) = some c.toArray.size := by
  have hl : c.length = 24 := Flat.Leaves.len h
  rw [List.size_toArray, hl]
  exact ev_size
def found (l : List (List Value)) (a b : Int) : List Value := (l.find? (fnd a b)).getD zev
set_option maxHeartbeats 4000000 in
theorem Find_any (p : Value) (W : World) (a b : Int) (l : List (List Value)) (hE : ∀ W', Below W.heap.size W W' → Calls Try.prog 11 #[p] W' fun e w' => ∃ v', e = .returned v' ∧ E24.R 31 w' W'.heap.size (fun _ => True) v' l ∧ Below W'.heap.size W' w') (hl : l.length ≤ 128) :
    Calls Try.prog 15 #[p, .int .i64 a, .int .i64 b] W fun e w' => e = .returned (.tuple #[.agg (found l a b).toArray, .bool (l.find? (fnd a b)).isSome]) ∧ Below W.heap.size W w' := by
  have HE := Lib.hid hE
  obtain ⟨n, hn⟩ : ∃ n, l.length = n := ⟨_, rfl⟩
  have HN := Lib.hid hn
  have hn128 : n ≤ 128 := by omega
  clear hE hn hl
  go_enter Try.func15, Try.ntmps15
  go_upto_region 2 with (first
    | ((with_reducible refine gate_ (.alloc 31) rfl ?_); refine ev_alloc rfl (N := 6) rfl rfl ?_; intro g0 W1 hg hb1 hbb; have BK0 := Lib.hid hb1; have HB0 := Lib.hid hbb; have HG := Lib.hid hg; clear hg hb1 hbb)
    | (go_at_call 11; refine (HE.out _ HB0.out).mono ?_; rintro e w1 ⟨v1, rfl, hr, hb⟩; have HR1 := Lib.hid hr; have HB1 := Lib.hid (below_step HB0.out hb); have BK1 := Lib.hid (blk_below BK0.out hb); clear hr hb BK0 HB0; (obtain ⟨A1, c1, hv, hc1, hC1⟩ := Kd.R_reads HR1.out); rw [HN.out] at hv hc1; subst hv; have HE1 := Lib.hid hC1; clear hC1 HR1 hc1))
  have HF0 : Hid ((l.take 0).find? (fnd a b) = none) := Lib.hid (by rw [List.take_zero]; rfl)
  go_wp2
  go_loopg [13] (n + 1) (fun kq v13 w' => ∃ i : Nat, v13 = .int .i64 i ∧ Aside0 (i + kq = n + 1 ∧ 1 ≤ kq) ∧ Aside0 ((l.take i).find? (fnd a b) = none) ∧ Aside0 (Below w1.heap.size w1 w'))
  case atStart => exact ⟨0, rfl, ⟨by omega, by omega⟩, ⟨HF0.out⟩, ⟨Below.refl _ _⟩⟩
  case round =>
    clear HF0
    obtain ⟨i, rfl, HI, HF, HB⟩ := hrel
    obtain ⟨k1, rfl⟩ : ∃ k1, gk = k1 + 1 := ⟨gk - 1, by have := HI.out; omega⟩
    by_cases ci : i < n
    · have d1 : decide ((i : Int) < (n : Int)) = true := decide_eq_true (by omega)
      have d2 : decide (i < n) = true := decide_eq_true ci
      have x0 : (0 ≤ (i : Int) ∧ (i : Int) < (n : Int)) = True := eq_true ⟨by omega, by omega⟩
      have y0 : ((i : Int) < (n : Int)) = True := eq_true (by omega)
      have xt : ((i : Int)).toNat = i := by omega
      obtain ⟨ad, hAd, hL, hc0⟩ := ev_at (Kd.C_below HE1.out HB.out) i (by rw [HN.out]; exact ci)
      subst hAd
      have hcell : Hid (∀ j u, (l.getD i [])[j]? = some u → wr.cell? ((ad.add (i * 24)).add j) = some u) := Lib.hid (fun j u hu => by rw [add_add]; exact hc0 j u hu)
      have HLV := Lib.hid hL
      have HIL : Hid (l[i]? = some (l.getD i [])) := Lib.hid (by
        have hil : i < l.length := by have := HN.out; omega
        rw [List.getD_eq_getElem?_getD, List.getElem?_eq_getElem hil]; rfl)
      clear hL hc0
      generalize l.getD i [] = e at hcell HLV HIL
      obtain ⟨x, hx⟩ : ∃ x, iv e 1 = x := ⟨_, rfl⟩
      obtain ⟨y, hy⟩ : ∃ y, iv e 2 = y := ⟨_, rfl⟩
      have HFE : Hid (fnd a b e = (x == a && y == b)) := Lib.hid (by unfold fnd; rw [hx, hy])
      have HQ1 : Hid (e[1]? = some (.int .i64 x)) := Lib.hid (by rw [← hx]; exact (iv_is HLV.out 1 (by omega)).1)
      have HQ2 : Hid (e[2]? = some (.int .i64 y)) := Lib.hid (by rw [← hy]; exact (iv_is HLV.out 2 (by omega)).1)
      clear hx hy
      go_upto_region 4 with (first
        | ((with_reducible refine gate_ (.load 31 (.tmp 15)) rfl ?_); refine ev_load rfl _ rfl e (Flat.Leaves.len HLV.out) rfl hcell.out ?_)
        | ((with_reducible refine gate_ (.alloc 31) rfl ?_); refine ev_alloc rfl (N := 9) rfl rfl ?_; intro ge W1 hg hb1 hbb; have BK := Lib.hid hb1; have HB2 := Lib.hid hbb; have HG := Lib.hid hg; clear hg hb1 hbb)
        | ((with_reducible refine gate_ (.store 31 (.tmp 9) (.tmp 16)) rfl ?_); refine ev_store rfl rfl _ _ rfl e HLV.out BK.out rfl rfl rfl ?_; intro W2 hb2 hbb; have BK2 := Lib.hid hb2; have HB3 := Lib.hid (below_step HB.out (HB2.out.grown hbb HB2.out.size (fun j hj => by cases hj; rw [HG.out]; exact Nat.le_refl _))); clear hb2 hbb HB2 BK HB HG))
      have f1 : W2.cell? ⟨ge, 1, none⟩ = some (.int .i64 x) := (blk_cell BK2.out 1).trans (by rw [List.getElem?_toArray]; exact HQ1.out)
      have f2 : W2.cell? ⟨ge, 2, none⟩ = some (.int .i64 y) := (blk_cell BK2.out 2).trans (by rw [List.getElem?_toArray]; exact HQ2.out)
      have BK3 := Lib.hid (blk_below BK1.out HB3.out)
      clear HQ1 HQ2 hcell
      by_cases xa : x = a
      · by_cases yb : y = b
        · have z1 : (x == a) = true := by simpa using xa
          have z2 : (y == b) = true := by simpa using yb
          have HFF : Hid (l.find? (fnd a b) = some e) := Lib.hid (find_at HF.out HIL.out (by rw [HFE.out, z1, z2]; rfl))
          clear xa yb
          go_wp2_with (first
            | ((with_reducible refine gate_ (.load 31 (.tmp 9)) rfl ?_); refine ev_load rfl _ rfl e (Flat.Leaves.len HLV.out) rfl (blk_cells BK2.out) ?_)
            | ((with_reducible refine gate_ (.store 31 (.tmp 6) (.tmp 27)) rfl ?_); refine ev_store rfl rfl _ _ rfl e HLV.out BK3.out rfl rfl rfl ?_; intro W3 hb3 hbb; have BK4 := Lib.hid hb3; have HB4 := Lib.hid ((below_step HB1.out HB3.out).grown hbb (below_step HB1.out HB3.out).size (fun j hj => by cases hj; rw [HG.out]; exact Nat.le_refl _)); clear hb3 hbb f1 f2))
          refine bodyPost_ret (results_ct (g := g0) Try.results15 _ _ 31 e.toArray (0, 0) _ rfl BK4.out Try.underlying31 rfl (res_of HLV.out)) rfl ?_
          exact ⟨by unfold found; rw [HFF.out]; rfl, HB4.out⟩
        · have z1 : (x == a) = true := by simpa using xa
          have z2 : (y == b) = false := by simpa using yb
          have HFS : Hid ((l.take (i + 1)).find? (fnd a b) = none) := Lib.hid (find_step HF.out HIL.out (by rw [HFE.out, z1, z2]; rfl))
          clear xa yb
          go_wp2
          go_roundg k1
          case measure => have := HI.out; omega
          case rel => exact ⟨i + 1, by go_num, ⟨by have := HI.out; omega, by have := HI.out; omega⟩, ⟨HFS.out⟩, ⟨HB3.out⟩⟩
      · have z1 : (x == a) = false := by simpa using xa
        have HFS : Hid ((l.take (i + 1)).find? (fnd a b) = none) := Lib.hid (find_step HF.out HIL.out (by rw [HFE.out, z1]; rfl))
        clear xa
        go_wp2
        go_roundg k1
        case measure => have := HI.out; omega
        case rel => exact ⟨i + 1, by go_num, ⟨by have := HI.out; omega, by have := HI.out; omega⟩, ⟨HFS.out⟩, ⟨HB3.out⟩⟩
    · obtain rfl : i = n := by have := HI.out; omega
      have d1 : decide ((i : Int) < (i : Int)) = false := decide_eq_false (by omega)
      have d2 : decide (i < i) = false := decide_eq_false ci
      have HFF : Hid (l.find? (fnd a b) = none) := Lib.hid (by have h := HF.out; rw [List.take_of_length_le (by have := HN.out; omega)] at h; exact h)
      have BK3 := Lib.hid (blk_below BK1.out HB.out)
      clear ci
      go_wp2_with (first
        | ((with_reducible refine gate_ (.build 31 #[]) rfl ?_); refine ev_zero rfl rfl ?_; intro e he hle; have HEZ := Lib.hid he; have HLV := Lib.hid hle; clear he hle)
        | ((with_reducible refine gate_ (.store 31 (.tmp 6) (.tmp 29)) rfl ?_); refine ev_store rfl rfl _ _ rfl e HLV.out BK3.out rfl rfl rfl ?_; intro W3 hb3 hbb; have BK4 := Lib.hid hb3; have HB4 := Lib.hid ((below_step HB1.out HB.out).grown hbb (below_step HB1.out HB.out).size (fun j hj => by cases hj; rw [HG.out]; exact Nat.le_refl _)); clear hb3 hbb))
      refine bodyPost_ret (results_ct (g := g0) Try.results15 _ _ 31 e.toArray (0, 0) _ rfl BK4.out Try.underlying31 rfl (res_of HLV.out)) rfl ?_
      exact ⟨by unfold found; rw [HFF.out, HEZ.out]; rfl, HB4.out⟩
end Go.Proofs.Yteeaimbinhmjfaa.Hist
