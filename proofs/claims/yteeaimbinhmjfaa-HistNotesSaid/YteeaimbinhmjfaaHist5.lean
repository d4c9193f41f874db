/- hist.Log: Events gives a copy of what has been noted; of no log, nothing. Step, Tick. -/
import Derived.Test.YteeaimbinhmjfaaHist4
import Derived.Laws.IdiomCopy
namespace Go.Proofs.Yteeaimbinhmjfaa.Hist
open Go.RowKit Go.Proofs.Yteeaimbinhmjfaa.Flat Go.Proofs.YteeaimbinhmjfaaW.PrintWords Go.Proofs.YteeaimbinhmjfaaW.PrintLast Go.Proofs.YteeaimbinhmjfaaW.PrintMore
set_option linter.unusedVariables false
set_option linter.unusedSimpArgs false
set_option maxRecDepth 100000
section
variable {ops : Array Oper} {rest : List Oper} {o : Oper} {a : Act} {Q : Exit → Act → World → Prop} {W : World}
theorem run_copy_ev (ty : TypeId) (g cap n c : Nat) (ad : Addr) {cur : Array Value} (hh : W.heap[g]? = some (.cells cur 31 (0, 0))) (hcs : n * 24 ≤ cur.size) (cs : List Value) (hl : cs.length = n * 24) (hsrc : ∀ j v, cs[j]? = some v → W.cell? (ad.add j) = some v) (h1 : ∀ v ∈ cs, v.oneCell' = true) :
    (Builtin.copy_ #[22, 22] ty #[.slice (some ⟨g, 0, none⟩) n cap, .slice (some ad) n c]).run Try.prog W = .ok (goInt n) (W.setCells g 0 cs) := by
  have h2 := run_loadCells_list (P := Try.prog) W ad cs hsrc
  have hst := run_storeCells_cells (P := Try.prog) g 0 cs 0 W (fun j hj => by rw [cell_of_row W g _ cur 31 (0, 0) hh]; simp; omega) (fun j _ => blk_frozen hh _) h1
  obtain ⟨i, hi, hsz⟩ := Option.map_eq_some_iff.1 ev_size
  rw [hl] at h2
  have hmin : n.min n = n := Nat.min_self n
  simp [Builtin.copy_, run_underlying Try.underlying22, Builtin.lenOf, Builtin.firstCells, sizeOf, typeInfo, hi, hsz, hmin, h2, hst]
theorem run_copy_ev0 (ty : TypeId) (A D : Option Addr) (cap c : Nat) : (Builtin.copy_ #[22, 22] ty #[.slice D 0 cap, .slice A 0 c]).run Try.prog W = .ok (goInt 0) W := by
  obtain ⟨i, hi, hsz⟩ := Option.map_eq_some_iff.1 ev_size
  have hl : ∀ (x : Addr), (loadCells x 0).run Try.prog W = .ok #[] W := fun x => by simpa using run_loadCells_list (P := Try.prog) W x [] (by simp)
  have hmin : (0 : Nat).min 0 = 0 := rfl
  cases D <;> cases A <;> simp [Builtin.copy_, run_underlying Try.underlying22, Builtin.lenOf, Builtin.firstCells, sizeOf, typeInfo, hi, hsz, hmin, storeCells, hl]
theorem ev_copy (hgd : o.guard = none) (s x : Operand) (ho : o.op = .call { callee := .builtin .copy, args := #[s, x], argTypes := #[22, 22] }) {base : Nat} {ok : Nat → Prop} (v : Value) (l zs : List (List Value)) (A : Option Addr) (c : Nat) (hs : a.eval s = v) (hx : a.eval x = .slice A l.length c) (hzl : zs.length = l.length)
    (HO : E24.R 31 W base ok v zs) (HR : E24.C W A l.length l) (h : ∀ w1, E24.R 31 w1 base ok v l → W.grownBy w1 v.ownBlock → wpList Try.prog ops Q rest (a.put o.dst (.int .i64 l.length)) w1) : wpList Try.prog ops Q (o :: rest) a W := by
  have fin : ∀ w1, (Builtin.copy_ #[22, 22] o.type #[v, .slice A l.length c]).run Try.prog W = .ok (goInt l.length) w1 → E24.R 31 w1 base ok v l → W.grownBy w1 v.ownBlock → wpList Try.prog ops Q (o :: rest) a W := by
    intro w1 hr hrow hg
    refine wpList_plain hgd fun K hK => ?_
    unfold Oper.wp execOp
    simp only [ho, resolve, invoke, builtin, Sem.run_bind, Sem.run_pure, Result.andThen_ok, List.map_toArray, List.map_cons, List.map_nil, hs, hx, hr]
    exact hK _ _ (h w1 hrow hg)
  rcases Nat.eq_zero_or_pos l.length with h0 | hp
  · obtain rfl := List.eq_nil_of_length_eq_zero h0
    obtain rfl := List.eq_nil_of_length_eq_zero (hzl.trans h0)
    obtain ⟨A', c', hv⟩ := Kd.R_slice HO
    refine fin W ?_ HO (World.grownBy.refl W _)
    rw [hv]
    exact run_copy_ev0 _ _ _ _ _
  · obtain ⟨hok, inner, hown, hr⟩ := HO
    obtain ⟨ad, hA, _⟩ := HR.2.2 hp
    subst hA
    obtain ⟨news, hnr, hnc⟩ := ReadsRow.inner_ HR
    have hnl : news.length = l.length * 24 := hnr.1
    have hone : ∀ u ∈ news, u.oneCell' = true := by
      intro u hu
      obtain ⟨q, hq, rfl⟩ := List.mem_iff_getElem.1 hu
      have hql : q / 24 < l.length := by rw [Nat.div_lt_iff_lt_mul (by decide)]; omega
      have hc := (hnr.2 (q / 24) _ (List.getElem?_eq_getElem hql))
      refine E24.K_one hc _ ?_
      rw [List.mem_iff_getElem?]
      refine ⟨q % 24, ?_⟩
      show (List.take 24 (List.drop (q / 24 * 24) news))[q % 24]? = some news[q]
      rw [List.getElem?_take, if_pos (Nat.mod_lt _ (by decide)), List.getElem?_drop, Nat.mul_comm, Nat.div_add_mod, List.getElem?_eq_getElem hq]
    rcases hown with ⟨hil, ⟨_, hz⟩ | ⟨g, cap, cur, hv, hb, hh, hnc1, hcm, hcs, htake⟩⟩
    · omega
    · have hcs2 : cur.size = cap * 24 := hcs
      have hroom : l.length * 24 ≤ cur.size := by rw [hcs2, ← hzl]; exact Nat.mul_le_mul_right _ hnc1
      have hrun := run_copy_ev (W := W) o.type g cap l.length c ad hh hroom news hnl hnc hone
      obtain ⟨cur', h3, h4, h5⟩ := setCells_row news 0 W cur hh (by omega)
      obtain ⟨s1, s2, s3, s4⟩ := setCells_same g news 0 W
      rw [hzl] at hv hnc1
      refine fin _ (by rw [hv]; exact hrun) ⟨hok, news, ⟨hnl, .inr ⟨g, cap, cur', hv, hb, h3, hnc1, hcm, by rw [h4, hcs], ?_⟩⟩, ?_⟩ ⟨s1, s2, s3, by rw [s4]; exact Nat.le_refl _, fun k _ hk => setCells_far _ _ k (fun he => hk (by rw [hv, he]; simp [Value.ownBlock]))⟩
      · rw [h5, List.take_zero, List.nil_append]
        show List.take (l.length * 24) _ = news
        rw [← hnl, List.take_left]
      · exact ⟨hnr.1, fun j p hj => hnr.2 j p hj⟩
end
set_option maxHeartbeats 2000000 in
theorem Events_any (W : World) (g B : Nat) (ok : Nat → Prop) (v : Value) (s : Int) (l : List (List Value)) (hlg : W.heap[g]? = some (.cells #[v, .int .i64 s] 37 (0, 0))) (hR : E24.R 31 W B ok v l) (hl : l.length ≤ 128) :
    Calls Try.prog 11 #[.pointer (some ⟨g, 0, none⟩)] W fun e w' => ∃ v', e = .returned v' ∧ E24.R 31 w' W.heap.size (fun _ => True) v' l ∧ Below W.heap.size W w' := by
  obtain ⟨A, c, rfl, hc, hC⟩ := Kd.R_reads hR
  have HC := Lib.hid hC
  have HLG := Lib.hid hlg
  have HLL := Lib.hid hl
  have c0 : W.cell? ⟨g, 0, none⟩ = some (.slice A l.length c) := (blk_cell hlg 0).trans rfl
  obtain ⟨n, hn⟩ : ∃ n, l.length = n := ⟨_, rfl⟩
  have HN := Lib.hid hn
  rw [hn] at c0
  clear hlg hR hC hl hn hc
  go_enter Try.func11, Try.ntmps11
  go_upto_region 4 with ((with_reducible refine gate_ (.makeSlice 22 (.tmp 10) (.tmp 10)) rfl ?_); refine Kd.R_make E24 (w0 := W) (W := W) W.heap.size 31 rfl (N := 11) rfl 22 (.tmp 10) (.tmp 10) rfl (n : Int) rfl rfl Try.underlying22 _ 192 info24 zev_cells E24_sz (by omega) zev (ok := fun _ => True) (okp := fun _ => False) ?hz (fun _ h => h.elim) trivial (by omega) ?hl (Below.refl _ _) (Nat.le_refl _) ?_; (case hz => exact ⟨rfl, zev_ok⟩); (case hl => have := HLL.out; have := HN.out; omega); intro v1 w1 ho hb hg hnew; have HO := Lib.hid ho; have HB := Lib.hid hb; clear ho hb hg hnew)
  have c1 : w1.cell? ⟨g, 0, none⟩ = some (.slice A n c) := (HB.out.cell (World.block_lt_of_cell? W _ c0)).trans c0
  have HC1 : Hid (E24.C w1 A l.length l) := Lib.hid (Kd.C_below HC.out HB.out)
  have HRL : Hid ((List.replicate ((n : Int)).toNat zev).length = l.length) := Lib.hid (by rw [List.length_replicate, Int.toNat_natCast]; exact HN.out.symm)
  have hcopy : ∀ (ops : Array Oper) (rest : List Oper) (o : Oper) (a : Act) (Q : Exit → Act → World → Prop) (hgd : o.guard = none) (s x : Operand) (ho : o.op = .call { callee := .builtin .copy, args := #[s, x], argTypes := #[22, 22] }) (hs : a.eval s = v1) (hx : a.eval x = .slice A n c) (h : ∀ w2, E24.R 31 w2 W.heap.size (fun _ => True) v1 l → Below W.heap.size W w2 → wpList Try.prog ops Q rest (a.put o.dst (.int .i64 n)) w2), wpList Try.prog ops Q (o :: rest) a w1 := by
    intro ops rest o a Q hgd s x ho hs hx h
    have hx2 : a.eval x = .slice A l.length c := by rw [HN.out]; exact hx
    refine ev_copy hgd s x ho v1 l _ A c hs hx2 HRL.out HO.out HC1.out fun w2 hr hg => ?_
    have h2 := h w2 hr (HB.out.grown hg HB.out.size (fun j hj => Kd.R_base HO.out j hj))
    rw [← HN.out] at h2
    exact h2
  have HCP := Lib.hid hcopy
  clear hcopy c0
  go_upto_region 5 with ((with_reducible refine gate_builtin (b := .copy) (xs := #[.tmp 12, .tmp 16]) rfl ?_); refine HCP.out _ _ _ _ _ rfl _ _ rfl rfl rfl ?_; intro w2 hr hb; have HR2 := Lib.hid hr; have HB2 := Lib.hid hb; clear hr hb c1)
  go_wp2
  go_ret
  exact ⟨v1, rfl, HR2.out, HB2.out⟩
theorem Events_nil (W : World) : Calls Try.prog 11 #[.pointer none] W fun e w' => ∃ v', e = .returned v' ∧ E24.R 31 w' W.heap.size (fun _ => True) v' [] ∧ Below W.heap.size W w' := by
  go_enter Try.func11, Try.ntmps11
  go_wp2
  go_ret
  exact ⟨_, rfl, Kd.R_nil _ _ _ _ _, Below.refl _ _⟩
theorem Step_nil (W : World) : Calls Try.prog 14 #[.pointer none] W fun e w' => e = .returned (.int .i64 0) ∧ W = w' := by
  go_enter Try.func14, Try.ntmps14
  go_wp2
  go_ret
  exact ⟨rfl, rfl⟩
theorem Step_any (W : World) (g : Nat) (v : Value) (s : Int) (hlg : W.heap[g]? = some (.cells #[v, .int .i64 s] 37 (0, 0))) : Calls Try.prog 14 #[.pointer (some ⟨g, 0, none⟩)] W fun e w' => e = .returned (.int .i64 s) ∧ W = w' := by
  have c1 : W.cell? ⟨g, 1, none⟩ = some (.int .i64 s) := (blk_cell hlg 1).trans rfl
  clear hlg
  go_enter Try.func14, Try.ntmps14
  go_wp2
  go_ret
  exact ⟨rfl, rfl⟩
theorem Tick_nil (W : World) : Calls Try.prog 8 #[.pointer none] W fun e w' => e = .returned (.tuple #[]) ∧ W = w' := by
  go_enter Try.func8, Try.ntmps8
  go_wp2
  go_end0
  exact ⟨rfl, rfl⟩
theorem Note_nil (W : World) (x : Value) : Calls Try.prog 9 #[.pointer none, x] W fun e w' => e = .returned (.tuple #[]) ∧ W = w' := by
  go_enter Try.func9, Try.ntmps9
  go_wp2
  go_returns
  exact ⟨rfl, rfl⟩
end Go.Proofs.Yteeaimbinhmjfaa.Hist
