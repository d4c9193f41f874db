/- Law 42: Go. -/
import Derived.Test.YtmjkgnlmdcmdbaaDoorPow3
namespace Go.Proofs.YtmjkgnlmdcmdbaaDoor.Power
open Go.RowKit Go.Proofs.YtmjkgnlmdcmdbaaDoorW.PrintWords Go.Proofs.YtmjkgnlmdcmdbaaDoorW.PrintLast Go.Proofs.YtmjkgnlmdcmdbaaDoorW.PrintMore Go.Proofs.YtmjkgnlmdcmdbaaDoor.Row Go.Proofs.YtmjkgnlmdcmdbaaDoor.Sets Go.Proofs.YtmjkgnlmdcmdbaaDoor.Node Go.Proofs.YtmjkgnlmdcmdbaaDoor.Each
set_option linter.unusedVariables false
set_option linter.unusedSimpArgs false
set_option maxRecDepth 100000
/-- the plant at a later time -/
def goT (p : Pl) (now : Int) : Pl := { p with ar := addS p.ar ((lenS p.s : Int) * (now - p.t)), t := now }
/-- who is awake then, and used by nobody -/
def goI (p : Pl) (now : Int) : Nat := minus (awkS (goT p now) p.N) p.u
/-- who is let sleep: from the highest on, as long as enough are left -/
def goS (p : Pl) (idl L : Nat) : Nat → Nat × Int
  | 0 => (0, L)
  | j + 1 => if p.Sp < (goS p idl L j).2 ∧ idl.testBit (p.N - 1 - j) = true ∧ p.I ≤ p.t - fromS p (p.N - 1 - j) then (withS (goS p idl L j).1 ((p.N - 1 - j : Nat) : Int), (goS p idl L j).2 - 1) else goS p idl L j
def goO (p : Pl) (now : Int) : Nat := (goS (goT p now) (goI p now) (lenS (goI p now)) p.N).1
def goP (p : Pl) (now : Int) : Pl := { goT p now with s := p.s ||| goO p now }
theorem goS_in (p : Pl) (idl L : Nat) : ∀ j, (goS p idl L j).1 < 18446744073709551616 ∧ (goS p idl L j).2 ≤ (L : Int) ∧ (L : Int) - j ≤ (goS p idl L j).2
  | 0 => by unfold goS; exact ⟨by show (0 : Nat) < 18446744073709551616; decide, by show (L : Int) ≤ L; omega, by show (L : Int) - ((0 : Nat) : Int) ≤ L; omega⟩
  | j + 1 => by
    have ih := goS_in p idl L j
    unfold goS
    split
    · exact ⟨withS_lt _ _ ih.1, by show _ - 1 ≤ _; omega, by show _ ≤ (goS p idl L j).2 - 1; omega⟩
    · exact ⟨ih.1, ih.2.1, by omega⟩
theorem goS_stop (p : Pl) (idl L j : Nat) (h : ¬ p.Sp < (goS p idl L j).2) : ∀ i, goS p idl L (j + i) = goS p idl L j
  | 0 => rfl
  | i + 1 => by
    have ih := goS_stop p idl L j h i
    show goS p idl L ((j + i) + 1) = _
    rw [goS, ih, if_neg (fun hh => h hh.1)]
theorem goT_ok (p : Pl) (now : Int) (ho : PlOk p) (h1 : p.t ≤ now) (h2 : now ≤ 1099511627776) : PlOk (goT p now) := by
  have ht := ho.ht
  have hm : 0 ≤ (lenS p.s : Int) * (now - p.t) := Int.mul_nonneg (by omega) (by omega)
  have ha := addS_in p.ar ((lenS p.s : Int) * (now - p.t)) ho.har.1 hm
  exact ⟨ho.hI, ho.hW, ho.hSp, ho.hN, ⟨by show 0 ≤ now; omega, h2⟩, ho.hu, ho.hs, ho.hwk, ho.hsn, ⟨ha.1, ha.2.1⟩⟩
theorem fromS_in (p : Pl) (k : Nat) (ho : PlOk p) : 0 ≤ fromS p k ∧ fromS p k ≤ 2199023255552 := by
  have h1 := ho.hwk k
  have h2 := ho.hsn k
  unfold fromS
  split <;> omega
theorem Go_bad (b : Nat) (p : Pl) (now : Int) (w : World) (h : QT w b p) (ho : PlOk p) (hb : now < p.t ∨ 1099511627776 < now) :
    Calls Tryd.prog 54 #[.pointer (some ⟨b, 0, none⟩), .int .i64 now] w fun e w' => e = .returned (.tuple #[.int .u64 0, .int .i64 10]) ∧ w = w' := by
  have KN := Lib.hid (none_q b p w h ho)
  have ct := h.ct
  obtain ⟨t, ht⟩ : ∃ t, p.t = t := ⟨_, rfl⟩
  rw [ht] at ct hb
  clear h ho ht
  by_cases h1 : now < t
  · have d1 : decide (now < t) = true := decide_eq_true h1
    clear hb
    go_enter Tryd.func54, Tryd.ntmps54
    go_wp2_with (go_at_call 94; refine KN.out.mono ?_; rintro e w2 ⟨rfl, rfl⟩)
    go_ret2; exact ⟨rfl, rfl⟩
  · have d1 : decide (now < t) = false := decide_eq_false h1
    have d2 : decide (1099511627776 < now) = true := decide_eq_true (by omega)
    clear hb
    go_enter Tryd.func54, Tryd.ntmps54
    go_wp2_with (go_at_call 94; refine KN.out.mono ?_; rintro e w2 ⟨rfl, rfl⟩)
    go_ret2; exact ⟨rfl, rfl⟩
set_option maxHeartbeats 4000000 in
theorem Go_yes (b : Nat) (p : Pl) (now : Int) (w : World) (h : QT w b p) (ho : PlOk p) (h1 : p.t ≤ now) (h2 : now ≤ 1099511627776) :
    Calls Tryd.prog 54 #[.pointer (some ⟨b, 0, none⟩), .int .i64 now] w fun e w' => e = .returned (.tuple #[.int .u64 (goO p now : Nat), .int .i64 0]) ∧ QT w' b (goP p now) ∧ Upd b w w' := by
  have KN := Lib.hid (none_q b p w h ho)
  have hok := goT_ok p now ho h1 h2
  have HOK := Lib.hid hok
  have hl64 := lenS_le p.s
  have KL := Lib.hid (fun W => len_any p.s W ho.hs)
  have KAr := Lib.hid (fun W => Area_any2 (lenS p.s) p.t now W hl64 ho.ht.1 h1 h2)
  have hm1 : 0 ≤ (lenS p.s : Int) * (now - p.t) := Int.mul_nonneg (by omega) (by omega)
  have hm2 : (lenS p.s : Int) * (now - p.t) ≤ 64 * 1099511627776 := Int.mul_le_mul (by omega) (by have := ho.ht; omega) (by omega) (by omega)
  have KAd : Hid (∀ (g : Nat) (W : World), W.cell? ⟨g, 0, none⟩ = some (.int .i64 p.ar) → W.cell? ⟨g, 1, none⟩ = some (.int .i64 ((lenS p.s : Int) * (now - p.t))) → Calls Tryd.prog 96 #[.slice (some ⟨g, 0, none⟩) 2 2] W fun e w' => e = .returned (.int .i64 (addS p.ar ((lenS p.s : Int) * (now - p.t)))) ∧ W = w') := Lib.hid (fun g W h0 h1 => Add2_any g _ _ W ho.har.1 ho.har.2 hm1 (by omega) h0 h1)
  have d1 : decide (now < p.t) = false := decide_eq_false (by omega)
  have d2 : decide (1099511627776 < now) = false := decide_eq_false (by omega)
  have hlt := h.lt
  have H := Lib.hid h
  have HU := Lib.hid (Upd.refl b w)
  have ct := h.ct
  have HGT : Hid (goT p now = { p with ar := addS p.ar ((lenS p.s : Int) * (now - p.t)), t := now }) := Lib.hid rfl
  obtain ⟨L, hL⟩ : ∃ L, lenS p.s = L := ⟨_, rfl⟩
  rw [hL] at KL KAr KAd HGT
  obtain ⟨ar2, har2⟩ : ∃ x, (L : Int) * (now - p.t) = x := ⟨_, rfl⟩
  rw [har2] at KAr KAd HGT
  obtain ⟨ar3, har3⟩ : ∃ x, addS p.ar ar2 = x := ⟨_, rfl⟩
  rw [har3] at KAd HGT
  have HLT := Lib.hid hlt
  clear h ho h1 h2 hm1 hm2 hL har2 har3 hl64 hlt hok
  go_enter Tryd.func54, Tryd.ntmps54
  go_upto_region 5 with (go_at_call 94; refine KN.out.mono ?_; rintro e w2 ⟨rfl, rfl⟩)
  clear ct KN d1 d2
  refine start_ (n := 21) (S := fun w' => w'.cell? ⟨b, 135, none⟩ = some (.int .i64 p.ar) ∧ w'.cell? ⟨b, 6, none⟩ = some (.int .u64 (p.s : Int)) ∧ w'.cell? ⟨b, 4, none⟩ = some (.int .i64 p.t)) (ds := [20]) #[false, false, false, false, false, false, false, false, false, false, false, false, false, false, false, false, false, false, false, false, false] (by kernel_rfl) rfl rfl ⟨H.out.ca, H.out.cs, H.out.ct⟩ (fun hHeld => ?_)
  have n_ := Lib.hid H.out.drew
  have n2_ := Lib.hid (HU.out.drew (Nat.le_of_lt H.out.lt))
  clear H HU
  have H := n_
  have HU := n2_
  clear n_ n2_
  generalize w.drew = w5 at H HU hHeld ⊢
  have fa := H.out.fz 135
  refine pure_ (i := 0) (N := some 24) (v := ?_) (a' := ?_) #[true, false, false, false, false, false, false, false, false, false, false, false, false, false, false, false, false, false, false, false, false] rfl rfl (by kernel_rfl) (fun _ _ _ h => h) (Or.inl ⟨by rfl, ?_⟩) ?_ ?_
  rotate_left
  · intro w'
    go_simp
    with_reducible rfl
  rotate_left
  · simp only [Act.put, List.setIfInBounds_toArray, List.set_cons_zero, List.set_cons_succ, i64_w, i32_w]
    rfl
  refine pure_ (i := 1) (N := some 25) (v := ?_) (a' := ?_) #[true, true, false, false, false, false, false, false, false, false, false, false, false, false, false, false, false, false, false, false, false] rfl rfl (by kernel_rfl) (fun _ _ _ h => h) (Or.inl ⟨by rfl, ?_⟩) ?_ ?_
  rotate_left
  · intro w'
    go_simp
    with_reducible rfl
  rotate_left
  · simp only [Act.put, List.setIfInBounds_toArray, List.set_cons_zero, List.set_cons_succ, i64_w, i32_w]
    rfl
  refine pure_ (i := 2) (N := some 26) (v := ?_) (a' := ?_) #[true, true, true, false, false, false, false, false, false, false, false, false, false, false, false, false, false, false, false, false, false] rfl rfl (by kernel_rfl) (fun _ _ _ h => h) (Or.inl ⟨by rfl, ?_⟩) ?_ ?_
  rotate_left
  · intro w'
    go_simp
    with_reducible rfl
  rotate_left
  · simp only [Act.put, List.setIfInBounds_toArray, List.set_cons_zero, List.set_cons_succ, i64_w, i32_w]
    rfl
  refine pure_ (i := 3) (N := some 27) (v := ?_) (a' := ?_) #[true, true, true, true, false, false, false, false, false, false, false, false, false, false, false, false, false, false, false, false, false] rfl rfl (by kernel_rfl) (fun _ _ _ h => h) (Or.inl ⟨by rfl, ?_⟩) ?_ ?_
  rotate_left
  · intro w'
    go_simp
    with_reducible rfl
  rotate_left
  · simp only [Act.put, List.setIfInBounds_toArray, List.set_cons_zero, List.set_cons_succ, i64_w, i32_w]
    rfl
  refine pure_ (i := 5) (N := some 29) (v := ?_) (a' := ?_) #[true, true, true, true, false, true, false, false, false, false, false, false, false, false, false, false, false, false, false, false, false] rfl rfl (by kernel_rfl) (fun _ _ _ h => h) (Or.inl ⟨by rfl, ?_⟩) ?_ ?_
  rotate_left
  · intro w'
    go_simp
    with_reducible rfl
  rotate_left
  · simp only [Act.put, List.setIfInBounds_toArray, List.set_cons_zero, List.set_cons_succ, i64_w, i32_w]
    rfl
  refine pure_ (i := 6) (N := some 30) (v := ?_) (a' := ?_) #[true, true, true, true, false, true, true, false, false, false, false, false, false, false, false, false, false, false, false, false, false] rfl rfl (by kernel_rfl) (fun _ _ _ h => h) (Or.inl ⟨by rfl, ?_⟩) ?_ ?_
  rotate_left
  · intro w'
    go_simp
    with_reducible rfl
  rotate_left
  · simp only [Act.put, List.setIfInBounds_toArray, List.set_cons_zero, List.set_cons_succ, i64_w, i32_w]
    rfl
  refine pure_ (i := 7) (N := some 31) (v := ?_) (a' := ?_) #[true, true, true, true, false, true, true, true, false, false, false, false, false, false, false, false, false, false, false, false, false] rfl rfl (by kernel_rfl) (fun _ _ _ h => h) (Or.inl ⟨by rfl, ?_⟩) ?_ ?_
  rotate_left
  · intro w'
    go_simp
    with_reducible rfl
  rotate_left
  · simp only [Act.put, List.setIfInBounds_toArray, List.set_cons_zero, List.set_cons_succ, i64_w, i32_w]
    rfl
  refine pure_ (i := 10) (N := some 34) (v := ?_) (a' := ?_) #[true, true, true, true, false, true, true, true, false, false, true, false, false, false, false, false, false, false, false, false, false] rfl rfl (by kernel_rfl) (fun _ _ _ h => h) (Or.inl ⟨by rfl, ?_⟩) ?_ ?_
  rotate_left
  · intro w'
    go_simp
    with_reducible rfl
  rotate_left
  · simp only [Act.put, List.setIfInBounds_toArray, List.set_cons_zero, List.set_cons_succ, i64_w, i32_w]
    rfl
  refine pure_ (i := 11) (N := some 35) (v := ?_) (a' := ?_) #[true, true, true, true, false, true, true, true, false, false, true, true, false, false, false, false, false, false, false, false, false] rfl rfl (by kernel_rfl) (fun _ _ _ h => h) (Or.inl ⟨by rfl, ?_⟩) ?_ ?_
  rotate_left
  · intro w'
    go_simp
    with_reducible rfl
  rotate_left
  · simp only [Act.put, List.setIfInBounds_toArray, List.set_cons_zero, List.set_cons_succ, i64_w, i32_w]
    rfl
  refine pure_ (i := 12) (N := some 36) (v := ?_) (a' := ?_) #[true, true, true, true, false, true, true, true, false, false, true, true, true, false, false, false, false, false, false, false, false] rfl rfl (by kernel_rfl) (fun _ _ _ h => h) (Or.inl ⟨by rfl, ?_⟩) ?_ ?_
  rotate_left
  · intro w'
    go_simp
    with_reducible rfl
  rotate_left
  · simp only [Act.put, List.setIfInBounds_toArray, List.set_cons_zero, List.set_cons_succ, i64_w, i32_w]
    rfl
  refine pure_ (i := 14) (N := some 38) (v := ?_) (a' := ?_) #[true, true, true, true, false, true, true, true, false, false, true, true, true, false, true, false, false, false, false, false, false] rfl rfl (by kernel_rfl) (fun _ _ _ h => h) (Or.inl ⟨by rfl, ?_⟩) ?_ ?_
  rotate_left
  · intro w'
    go_simp
    with_reducible rfl
  rotate_left
  · simp only [Act.put, List.setIfInBounds_toArray, List.set_cons_zero, List.set_cons_succ, i64_w, i32_w]
    rfl
  refine take_ (i := 4) (N := some 28) (v := ?_) (a' := ?_) #[true, true, true, true, true, true, true, true, false, false, true, true, true, false, true, false, false, false, false, false, false] rfl rfl (by kernel_rfl) (fun _ _ _ h => h) (Or.inl ⟨by rfl, ?_⟩) hHeld ?_ ?_
  rotate_left
  · rintro w' ⟨s0, s1, s2⟩
    go_simp
    with_reducible rfl
  rotate_left
  · simp only [Act.put, List.setIfInBounds_toArray, List.set_cons_zero, List.set_cons_succ, i64_w, i32_w]
    rfl
  refine take_ (i := 8) (N := some 32) (v := ?_) (a' := ?_) #[true, true, true, true, true, true, true, true, true, false, true, true, true, false, true, false, false, false, false, false, false] rfl rfl (by kernel_rfl) (fun _ _ _ h => h) (Or.inl ⟨by rfl, ?_⟩) hHeld ?_ ?_
  rotate_left
  · rintro w' ⟨s0, s1, s2⟩
    go_simp
    with_reducible rfl
  rotate_left
  · simp only [Act.put, List.setIfInBounds_toArray, List.set_cons_zero, List.set_cons_succ, i64_w, i32_w]
    rfl
  refine take_ (i := 13) (N := some 37) (v := ?_) (a' := ?_) #[true, true, true, true, true, true, true, true, true, false, true, true, true, true, true, false, false, false, false, false, false] rfl rfl (by kernel_rfl) (fun _ _ _ h => h) (Or.inl ⟨by rfl, ?_⟩) hHeld ?_ ?_
  rotate_left
  · rintro w' ⟨s0, s1, s2⟩
    go_simp
    with_reducible rfl
  rotate_left
  · simp only [Act.put, List.setIfInBounds_toArray, List.set_cons_zero, List.set_cons_succ, i64_w, i32_w]
    rfl
  refine one_ (i := 9) (N := some 33) #[true, true, true, true, true, true, true, true, true, true, true, true, true, true, true, false, false, false, false, false, false] rfl rfl (by kernel_rfl) (by decide) (fun K hK => ?_)
  refine goes_ Tryd.func32 (by kernel_rfl) rfl #[.int .u64 (p.s : Int)] (by rfl) rfl rfl (by (try simp only [List.map_toArray, List.map_cons, List.map_nil]); first | done | rfl | (simp only [List.length_drop, List.length_take]; rfl)) ?_
  with_reducible refine (KL.out _).mono ?_
  rintro e w3 ⟨rfl, rfl⟩
  refine ⟨_, rfl, ?_⟩
  refine hK.out _ _ ⟨H.out.ca, H.out.cs, H.out.ct⟩ (fun hHeld => ?_)
  clear hK K
  refine norm_ (a' := ?_) ?_ ?_
  rotate_left
  · show Act.put _ (some 33) _ = _
    simp only [Act.put, List.setIfInBounds_toArray, List.set_cons_zero, List.set_cons_succ, i64_w, i32_w]
    rfl
  refine one_ (i := 15) (N := some 39) #[true, true, true, true, true, true, true, true, true, true, true, true, true, true, true, true, false, false, false, false, false] rfl rfl (by kernel_rfl) (by decide) (fun K hK => ?_)
  refine goes_ Tryd.func97 (by kernel_rfl) rfl #[.int .i64 (L : Int), .int .i64 p.t, .int .i64 now] (by rfl) rfl rfl (by (try simp only [List.map_toArray, List.map_cons, List.map_nil]); first | done | rfl | (simp only [List.length_drop, List.length_take]; rfl)) ?_
  with_reducible refine (KAr.out _).mono ?_
  rintro e w3 ⟨rfl, rfl⟩
  refine ⟨_, rfl, ?_⟩
  refine hK.out _ _ ⟨H.out.ca, H.out.cs, H.out.ct⟩ (fun hHeld => ?_)
  clear hK K
  refine norm_ (a' := ?_) ?_ ?_
  rotate_left
  · show Act.put _ (some 39) _ = _
    simp only [Act.put, List.setIfInBounds_toArray, List.set_cons_zero, List.set_cons_succ, i64_w, i32_w]
    rfl
  refine one_ (i := 16) (N := some 40) #[true, true, true, true, true, true, true, true, true, true, true, true, true, true, true, true, true, false, false, false, false] rfl rfl (by kernel_rfl) (by decide) (fun K hK => ?_)
  refine value_ (w1 := ?_) (v := ?_) (by rfl) rfl ?_ ?_
  rotate_left 2
  · go_simp
    constructor
    · rfl
    · rfl
  have c0 := blk_new w5 (.cells #[.int .i64 p.ar, .int .i64 ar2] 2)
  have n_ := Lib.hid (H.out.below (below_alloc (Below.refl _ _) (.cells #[.int .i64 p.ar, .int .i64 ar2] 2)))
  have n2_ := Lib.hid (Power.Upd.alloc HU.out (.cells #[.int .i64 p.ar, .int .i64 ar2] 2) (Nat.le_of_lt H.out.lt))
  clear H HU
  have H := n_
  have HU := n2_
  clear n_ n2_
  generalize w5.alloc (.cells #[.int .i64 p.ar, .int .i64 ar2] 2) = w6 at c0 H HU ⊢
  generalize w5.heap.size = g at c0 ⊢
  clear fa
  have fa := H.out.fz 135
  refine hK.out _ _ ⟨H.out.ca, H.out.cs, H.out.ct⟩ (fun hHeld => ?_)
  clear hK K
  refine norm_ (a' := ?_) ?_ ?_
  rotate_left
  · show Act.put _ (some 40) _ = _
    simp only [Act.put, List.setIfInBounds_toArray, List.set_cons_zero, List.set_cons_succ, i64_w, i32_w]
    rfl
  refine one_ (i := 17) (N := some 41) #[true, true, true, true, true, true, true, true, true, true, true, true, true, true, true, true, true, true, false, false, false] rfl rfl (by kernel_rfl) (by decide) (fun K hK => ?_)
  refine goes_ Tryd.func96 (by kernel_rfl) rfl #[.slice (some ⟨g, 0, none⟩) 2 2] (by rfl) rfl rfl (by (try simp only [List.map_toArray, List.map_cons, List.map_nil]); first | done | rfl | (simp only [List.length_drop, List.length_take]; rfl)) ?_
  with_reducible refine (KAd.out g _ ((blk_cell c0 0).trans rfl) ((blk_cell c0 1).trans rfl)).mono ?_
  rintro e w7 ⟨rfl, rfl⟩
  refine ⟨_, rfl, ?_⟩
  refine hK.out _ _ ⟨H.out.ca, H.out.cs, H.out.ct⟩ (fun hHeld => ?_)
  clear hK K
  refine norm_ (a' := ?_) ?_ ?_
  rotate_left
  · show Act.put _ (some 41) _ = _
    simp only [Act.put, List.setIfInBounds_toArray, List.set_cons_zero, List.set_cons_succ, i64_w, i32_w]
    rfl
  refine pure_ (i := 18) (N := some 42) (v := ?_) (a' := ?_) #[true, true, true, true, true, true, true, true, true, true, true, true, true, true, true, true, true, true, true, false, false] rfl rfl (by kernel_rfl) (fun _ _ _ h => h) (Or.inl ⟨by rfl, ?_⟩) ?_ ?_
  rotate_left
  · intro w'
    go_simp
    with_reducible rfl
  rotate_left
  · simp only [Act.put, List.setIfInBounds_toArray, List.set_cons_zero, List.set_cons_succ, i64_w, i32_w]
    rfl
  refine pure_ (i := 19) (N := some 43) (v := ?_) (a' := ?_) #[true, true, true, true, true, true, true, true, true, true, true, true, true, true, true, true, true, true, true, true, false] rfl rfl (by kernel_rfl) (fun _ _ _ h => h) (Or.inl ⟨by rfl, ?_⟩) ?_ ?_
  rotate_left
  · intro w'
    go_simp
    with_reducible rfl
  rotate_left
  · simp only [Act.put, List.setIfInBounds_toArray, List.set_cons_zero, List.set_cons_succ, i64_w, i32_w]
    rfl
  refine last_ (i := 20) (N := none) #[true, true, true, true, true, true, true, true, true, true, true, true, true, true, true, true, true, true, true, true, true] rfl rfl (by kernel_rfl) (by decide) (fun K hK => ?_)
  refine skip_ (w1 := ?_) (by rfl) rfl ?_ ?_
  rotate_left
  · go_simp
    rfl
  refine hK.out _ _ ?_
  clear hK K
  refine done_ (by kernel_rfl) ?_
  have H2 := Lib.hid (H.out.setA ar3)
  have HU2 := Lib.hid (HU.out.setCell 135 (.int .i64 ar3))
  clear H HU fa c0 hHeld KL KAr KAd
  generalize w6.setCell ⟨b, 135, none⟩ (.int .i64 ar3) = w8 at H2 HU2 ⊢
  have H3 := H2.out.setT now
  have hgt : ({ p with ar := ar3, t := now } : Pl) = goT p now := HGT.out.symm
  have H3 : QT (w8.setCell ⟨b, 4, none⟩ (.int .i64 now)) b (goT p now) := by rw [← hgt]; exact H3
  have H4 := Lib.hid H3
  have KI := Lib.hid (fun W (hW : QT W b (goT p now)) => idle_q b (goT p now) W hW HOK.out)
  obtain ⟨q, hq⟩ : ∃ q, goT p now = q := ⟨_, rfl⟩
  have hgo : goO p now = (goS q (minus (awkS q q.N) q.u) (lenS (minus (awkS q q.N) q.u)) q.N).1 := by unfold goO goI; rw [hq, ← hq]; rfl
  have hgp : goP p now = { q with s := q.s ||| goO p now } := by unfold goP; rw [hq, ← hq]; rfl
  rw [hq] at H4 KI HOK
  obtain ⟨id, hid⟩ : ∃ m, minus (awkS q q.N) q.u = m := ⟨_, rfl⟩
  have hidl : id < 18446744073709551616 := by rw [← hid]; exact minus_lt _ _ (awkS_lt q _)
  rw [hid] at KI hgo
  have KM0 := fun W => len_any id W hidl
  obtain ⟨M, hM⟩ : ∃ m, lenS id = m := ⟨_, rfl⟩
  rw [hM] at KM0 hgo
  have KM := Lib.hid KM0
  have hM64 := lenS_le id
  rw [hM] at hM64
  obtain ⟨O, hO⟩ : ∃ m, goO p now = m := ⟨_, rfl⟩
  have HOE := Lib.hid hO
  rw [hO] at hgo hgp
  have HGP := Lib.hid hgp
  have HGO := Lib.hid hgo
  have hN := HOK.out.hN
  have hSp := HOK.out.hSp
  have WN := Lib.hid (wrapB (show (q.N : Int) - 1 = (q.N : Int) - 1 from rfl) (by omega) (by omega))
  have ft := H2.out.fz 4
  have ct := H2.out.ct
  clear H3 hgt KM0 hid hM hO hgo hgp HGT hq
  go_upto_region 10 with (first
    | (go_at_call 98; go_loud (refine (KI.out _ H4.out).mono ?_; rintro e w9 ⟨rfl, hb⟩; have H := Lib.hid (H4.out.below hb); have HU := Lib.hid ((HU2.out.setCell 4 (.int .i64 now)).trans (Upd.of_below hb (Nat.le_of_lt H4.out.lt))); clear hb H2 HU2 ft ct H4 KI))
    | (go_at_call 32; refine (KM.out _).mono ?_; rintro e w10 ⟨rfl, rfl⟩))
  have cn := H.out.cn
  have wn1 := WN.out.1
  have wn2 := WN.out.2
  go_upto_block 1 with fail
  clear cn wn1 wn2 KM WN
  go_wp2
  go_loopg [6, 8, 9] (q.N + 1) (fun kq v6 v8 v9 w' => ∃ (j : Nat), v6 = .int .u64 ((goS q id M j).1 : Nat) ∧ v8 = .int .i64 (goS q id M j).2 ∧ v9 = .int .i64 ((q.N : Int) - 1 - (j : Int)) ∧ Aside0 (j + kq = q.N + 1 ∧ 1 ≤ kq) ∧ Aside0 (QT w' b q) ∧ Aside0 (Upd b w w'))
  case atStart => exact ⟨0, rfl, rfl, by simp, ⟨by omega, by omega⟩, ⟨H.out⟩, ⟨HU.out⟩⟩
  case round =>
    clear H HU
    obtain ⟨j, rfl, rfl, rfl, HI, H, HU⟩ := hrel
    obtain ⟨k1, rfl⟩ : ∃ k1, gk = k1 + 1 := ⟨gk - 1, by have := HI.out; omega⟩
    have hin := goS_in q id M j
    have hst : goS q id M (j + 1) = if q.Sp < (goS q id M j).2 ∧ id.testBit (q.N - 1 - j) = true ∧ q.I ≤ q.t - fromS q (q.N - 1 - j) then (withS (goS q id M j).1 ((q.N - 1 - j : Nat) : Int), (goS q id M j).2 - 1) else goS q id M j := rfl
    have hsp := goS_stop q id M j
    obtain ⟨o, ho⟩ : ∃ o, (goS q id M j).1 = o := ⟨_, rfl⟩
    obtain ⟨l, hl⟩ : ∃ o, (goS q id M j).2 = o := ⟨_, rfl⟩
    have hpa : goS q id M j = (o, l) := by rw [← ho, ← hl]
    rw [ho, hl] at hin hst ⊢
    rw [hl] at hsp
    rw [hpa] at hst hsp
    by_cases cj : j < q.N
    · obtain ⟨k, hk⟩ : ∃ k, q.N - 1 - j = k := ⟨_, rfl⟩
      have hkI : (q.N : Int) - 1 - (j : Int) = (k : Int) := by omega
      have HKI := Lib.hid hkI
      rw [hkI]
      rw [hk] at hst
      have hk64 : k < 64 := by omega
      have e1 : decide (0 ≤ (k : Int)) = true := decide_eq_true (by omega)
      have cS := H.out.cS
      have HCJ := Lib.hid cj
      clear hk hkI hpa ho hl
      by_cases cl : q.Sp < l
      · have e2 : decide (q.Sp < l) = true := decide_eq_true cl
        have hhb := hasS_at id k hk64
        have KH0 := fun W => has_any id (k : Int) W hidl
        rw [hhb] at KH0
        have KF := Lib.hid (fun W (hW : QT W b q) => from_q b q k W hW hk64)
        have hfi := fromS_in q k HOK.out
        obtain ⟨fr, hfr⟩ : ∃ f, fromS q k = f := ⟨_, rfl⟩
        rw [hfr] at KF hst hfi
        obtain ⟨bt, hbt⟩ : ∃ f, id.testBit k = f := ⟨_, rfl⟩
        rw [hbt] at KH0 hst
        have KH := Lib.hid KH0
        have hoT := HOK.out.ht
        have hoI := HOK.out.hI
        have WA := Lib.hid (wrapB (show q.t - fr = q.t - fr from rfl) (by omega) (by omega))
        have WB := Lib.hid (wrapB (show l - 1 = l - 1 from rfl) (by omega) (by omega))
        have WC := Lib.hid (wrapB (show (k : Int) - 1 = (q.N : Int) - 1 - ((j + 1 : Nat) : Int) by have := HKI.out; omega) (by omega) (by omega))
        have KW := Lib.hid (fun W => with_any o (k : Int) W hin.1)
        have HST := Lib.hid hst
        clear hst hhb KH0 hfr hbt hsp hfi hoT hoI
        cases bt with
        | false =>
          go_upto_region 13 with fail
          clear cS
          refine start_ (n := 19) (S := fun w' => w'.cell? ⟨b, 4, none⟩ = some (.int .i64 q.t) ∧ w'.cell? ⟨b, 0, none⟩ = some (.int .i64 q.I)) (ds := []) #[false, false, false, false, false, false, false, false, false, false, false, false, false, false, false, false, false, false, false] (by kernel_rfl) rfl rfl ⟨H.out.ct, H.out.cI⟩ (fun hHeld => ?_)
          have n_ := Lib.hid H.out.drew
          have n2_ := Lib.hid (HU.out.drew (Nat.le_of_lt H.out.lt))
          clear H HU
          have H := n_
          have HU := n2_
          clear n_ n2_
          generalize wr.drew = w12 at H HU hHeld ⊢
          refine pure_ (i := 0) (N := some 70) (v := ?_) (a' := ?_) #[true, false, false, false, false, false, false, false, false, false, false, false, false, false, false, false, false, false, false] rfl rfl (by kernel_rfl) (fun _ _ _ h => h) (Or.inl ⟨by rfl, ?_⟩) ?_ ?_
          rotate_left
          · intro w'
            go_simp
            with_reducible rfl
          rotate_left
          · simp only [Act.put, List.setIfInBounds_toArray, List.set_cons_zero, List.set_cons_succ, i64_w, i32_w]
            rfl
          refine pure_ (i := 1) (N := some 71) (v := ?_) (a' := ?_) #[true, true, false, false, false, false, false, false, false, false, false, false, false, false, false, false, false, false, false] rfl rfl (by kernel_rfl) (fun _ _ _ h => h) (Or.inl ⟨by rfl, ?_⟩) ?_ ?_
          rotate_left
          · intro w'
            go_simp
            with_reducible rfl
          rotate_left
          · simp only [Act.put, List.setIfInBounds_toArray, List.set_cons_zero, List.set_cons_succ, i64_w, i32_w]
            rfl
          refine one_ (i := 2) (N := some 72) #[true, true, true, false, false, false, false, false, false, false, false, false, false, false, false, false, false, false, false] rfl rfl (by kernel_rfl) (by decide) (fun K hK => ?_)
          refine goes_ Tryd.func29 (by kernel_rfl) rfl #[.int .u64 (id : Int), .int .i64 (k : Int)] (by rfl) rfl rfl (by (try simp only [List.map_toArray, List.map_cons, List.map_nil]); first | done | rfl | (simp only [List.length_drop, List.length_take]; rfl)) ?_
          with_reducible refine (KH.out _).mono ?_
          rintro e w3 ⟨rfl, rfl⟩
          refine ⟨_, rfl, ?_⟩
          refine hK.out _ _ ⟨H.out.ct, H.out.cI⟩ (fun hHeld => ?_)
          clear hK K
          refine norm_ (a' := ?_) ?_ ?_
          rotate_left
          · show Act.put _ (some 72) _ = _
            simp only [Act.put, List.setIfInBounds_toArray, List.set_cons_zero, List.set_cons_succ, i64_w, i32_w]
            rfl
          refine pure_ (i := 3) (N := some 73) (v := ?_) (a' := ?_) #[true, true, true, true, false, false, false, false, false, false, false, false, false, false, false, false, false, false, false] rfl rfl (by kernel_rfl) (fun _ _ _ h => h) (Or.inl ⟨by rfl, ?_⟩) ?_ ?_
          rotate_left
          · intro w'
            go_simp
            with_reducible rfl
          rotate_left
          · simp only [Act.put, List.setIfInBounds_toArray, List.set_cons_zero, List.set_cons_succ, i64_w, i32_w]
            rfl
          refine pure_ (i := 4) (N := some 74) (v := undef) (a' := ?_) #[true, true, true, true, true, false, false, false, false, false, false, false, false, false, false, false, false, false, false] rfl rfl (by kernel_rfl) (fun _ _ _ h => h) (Or.inr ⟨by rfl, rfl⟩) ?_ ?_
          rotate_left
          · simp only [Act.put, List.setIfInBounds_toArray, List.set_cons_zero, List.set_cons_succ, i64_w, i32_w]
            rfl
          refine pure_ (i := 5) (N := some 75) (v := undef) (a' := ?_) #[true, true, true, true, true, true, false, false, false, false, false, false, false, false, false, false, false, false, false] rfl rfl (by kernel_rfl) (fun _ _ _ h => h) (Or.inr ⟨by rfl, rfl⟩) ?_ ?_
          rotate_left
          · simp only [Act.put, List.setIfInBounds_toArray, List.set_cons_zero, List.set_cons_succ, i64_w, i32_w]
            rfl
          refine pure_ (i := 6) (N := some 76) (v := undef) (a' := ?_) #[true, true, true, true, true, true, true, false, false, false, false, false, false, false, false, false, false, false, false] rfl rfl (by kernel_rfl) (fun _ _ _ h => h) (Or.inr ⟨by rfl, rfl⟩) ?_ ?_
          rotate_left
          · simp only [Act.put, List.setIfInBounds_toArray, List.set_cons_zero, List.set_cons_succ, i64_w, i32_w]
            rfl
          refine pure_ (i := 7) (N := some 77) (v := undef) (a' := ?_) #[true, true, true, true, true, true, true, true, false, false, false, false, false, false, false, false, false, false, false] rfl rfl (by kernel_rfl) (fun _ _ _ h => h) (Or.inr ⟨by rfl, rfl⟩) ?_ ?_
          rotate_left
          · simp only [Act.put, List.setIfInBounds_toArray, List.set_cons_zero, List.set_cons_succ, i64_w, i32_w]
            rfl
          refine pure_ (i := 8) (N := some 78) (v := undef) (a' := ?_) #[true, true, true, true, true, true, true, true, true, false, false, false, false, false, false, false, false, false, false] rfl rfl (by kernel_rfl) (fun _ _ _ h => h) (Or.inr ⟨by rfl, rfl⟩) ?_ ?_
          rotate_left
          · simp only [Act.put, List.setIfInBounds_toArray, List.set_cons_zero, List.set_cons_succ, i64_w, i32_w]
            rfl
          refine pure_ (i := 9) (N := some 79) (v := undef) (a' := ?_) #[true, true, true, true, true, true, true, true, true, true, false, false, false, false, false, false, false, false, false] rfl rfl (by kernel_rfl) (fun _ _ _ h => h) (Or.inr ⟨by rfl, rfl⟩) ?_ ?_
          rotate_left
          · simp only [Act.put, List.setIfInBounds_toArray, List.set_cons_zero, List.set_cons_succ, i64_w, i32_w]
            rfl
          refine pure_ (i := 10) (N := some 80) (v := undef) (a' := ?_) #[true, true, true, true, true, true, true, true, true, true, true, false, false, false, false, false, false, false, false] rfl rfl (by kernel_rfl) (fun _ _ _ h => h) (Or.inr ⟨by rfl, rfl⟩) ?_ ?_
          rotate_left
          · simp only [Act.put, List.setIfInBounds_toArray, List.set_cons_zero, List.set_cons_succ, i64_w, i32_w]
            rfl
          refine pure_ (i := 11) (N := some 81) (v := undef) (a' := ?_) #[true, true, true, true, true, true, true, true, true, true, true, true, false, false, false, false, false, false, false] rfl rfl (by kernel_rfl) (fun _ _ _ h => h) (Or.inr ⟨by rfl, rfl⟩) ?_ ?_
          rotate_left
          · simp only [Act.put, List.setIfInBounds_toArray, List.set_cons_zero, List.set_cons_succ, i64_w, i32_w]
            rfl
          refine pure_ (i := 12) (N := some 82) (v := undef) (a' := ?_) #[true, true, true, true, true, true, true, true, true, true, true, true, true, false, false, false, false, false, false] rfl rfl (by kernel_rfl) (fun _ _ _ h => h) (Or.inr ⟨by rfl, rfl⟩) ?_ ?_
          rotate_left
          · simp only [Act.put, List.setIfInBounds_toArray, List.set_cons_zero, List.set_cons_succ, i64_w, i32_w]
            rfl
          refine pure_ (i := 13) (N := some 83) (v := undef) (a' := ?_) #[true, true, true, true, true, true, true, true, true, true, true, true, true, true, false, false, false, false, false] rfl rfl (by kernel_rfl) (fun _ _ _ h => h) (Or.inr ⟨by rfl, rfl⟩) ?_ ?_
          rotate_left
          · simp only [Act.put, List.setIfInBounds_toArray, List.set_cons_zero, List.set_cons_succ, i64_w, i32_w]
            rfl
          refine pure_ (i := 14) (N := some 84) (v := undef) (a' := ?_) #[true, true, true, true, true, true, true, true, true, true, true, true, true, true, true, false, false, false, false] rfl rfl (by kernel_rfl) (fun _ _ _ h => h) (Or.inr ⟨by rfl, rfl⟩) ?_ ?_
          rotate_left
          · simp only [Act.put, List.setIfInBounds_toArray, List.set_cons_zero, List.set_cons_succ, i64_w, i32_w]
            rfl
          refine pure_ (i := 15) (N := some 85) (v := undef) (a' := ?_) #[true, true, true, true, true, true, true, true, true, true, true, true, true, true, true, true, false, false, false] rfl rfl (by kernel_rfl) (fun _ _ _ h => h) (Or.inr ⟨by rfl, rfl⟩) ?_ ?_
          rotate_left
          · simp only [Act.put, List.setIfInBounds_toArray, List.set_cons_zero, List.set_cons_succ, i64_w, i32_w]
            rfl
          refine pure_ (i := 16) (N := some 86) (v := undef) (a' := ?_) #[true, true, true, true, true, true, true, true, true, true, true, true, true, true, true, true, true, false, false] rfl rfl (by kernel_rfl) (fun _ _ _ h => h) (Or.inr ⟨by rfl, rfl⟩) ?_ ?_
          rotate_left
          · simp only [Act.put, List.setIfInBounds_toArray, List.set_cons_zero, List.set_cons_succ, i64_w, i32_w]
            rfl
          refine pure_ (i := 17) (N := some 87) (v := undef) (a' := ?_) #[true, true, true, true, true, true, true, true, true, true, true, true, true, true, true, true, true, true, false] rfl rfl (by kernel_rfl) (fun _ _ _ h => h) (Or.inr ⟨by rfl, rfl⟩) ?_ ?_
          rotate_left
          · simp only [Act.put, List.setIfInBounds_toArray, List.set_cons_zero, List.set_cons_succ, i64_w, i32_w]
            rfl
          refine pure_ (i := 18) (N := some 88) (v := ?_) (a' := ?_) #[true, true, true, true, true, true, true, true, true, true, true, true, true, true, true, true, true, true, true] rfl rfl (by kernel_rfl) (fun _ _ _ h => h) (Or.inl ⟨by rfl, ?_⟩) ?_ ?_
          rotate_left
          · intro w'
            go_simp
            with_reducible rfl
          rotate_left
          · simp only [Act.put, List.setIfInBounds_toArray, List.set_cons_zero, List.set_cons_succ, i64_w, i32_w]
            rfl
          refine done_ (by kernel_rfl) ?_
          clear hHeld
          have wc1 := WC.out.1
          have wc2 := WC.out.2
          go_wp2
          clear wc1 wc2
          go_roundg k1
          case measure => have := HI.out; omega
          case rel => exact ⟨j + 1, by rw [HST.out, if_neg (fun h => by have := h.2.1; first | cases this | simp at this)], by rw [HST.out, if_neg (fun h => by have := h.2.1; first | cases this | simp at this)], rfl, ⟨by have := HI.out; omega, by have := HI.out; have := HCJ.out; omega⟩, ⟨H.out⟩, ⟨HU.out⟩⟩
        | true =>
          by_cases ci : q.I ≤ q.t - fr
          · have e3 : decide (q.I ≤ q.t - fr) = true := decide_eq_true ci
            have wa1 := WA.out.1
            have wa2 := WA.out.2
            go_upto_region 13 with fail
            clear cS
            refine start_ (n := 19) (S := fun w' => w'.cell? ⟨b, 4, none⟩ = some (.int .i64 q.t) ∧ w'.cell? ⟨b, 0, none⟩ = some (.int .i64 q.I)) (ds := []) #[false, false, false, false, false, false, false, false, false, false, false, false, false, false, false, false, false, false, false] (by kernel_rfl) rfl rfl ⟨H.out.ct, H.out.cI⟩ (fun hHeld => ?_)
            have n_ := Lib.hid H.out.drew
            have n2_ := Lib.hid (HU.out.drew (Nat.le_of_lt H.out.lt))
            clear H HU
            have H := n_
            have HU := n2_
            clear n_ n2_
            generalize wr.drew = w12 at H HU hHeld ⊢
            refine pure_ (i := 0) (N := some 70) (v := ?_) (a' := ?_) #[true, false, false, false, false, false, false, false, false, false, false, false, false, false, false, false, false, false, false] rfl rfl (by kernel_rfl) (fun _ _ _ h => h) (Or.inl ⟨by rfl, ?_⟩) ?_ ?_
            rotate_left
            · intro w'
              go_simp
              with_reducible rfl
            rotate_left
            · simp only [Act.put, List.setIfInBounds_toArray, List.set_cons_zero, List.set_cons_succ, i64_w, i32_w]
              rfl
            refine pure_ (i := 1) (N := some 71) (v := ?_) (a' := ?_) #[true, true, false, false, false, false, false, false, false, false, false, false, false, false, false, false, false, false, false] rfl rfl (by kernel_rfl) (fun _ _ _ h => h) (Or.inl ⟨by rfl, ?_⟩) ?_ ?_
            rotate_left
            · intro w'
              go_simp
              with_reducible rfl
            rotate_left
            · simp only [Act.put, List.setIfInBounds_toArray, List.set_cons_zero, List.set_cons_succ, i64_w, i32_w]
              rfl
            refine one_ (i := 2) (N := some 72) #[true, true, true, false, false, false, false, false, false, false, false, false, false, false, false, false, false, false, false] rfl rfl (by kernel_rfl) (by decide) (fun K hK => ?_)
            refine goes_ Tryd.func29 (by kernel_rfl) rfl #[.int .u64 (id : Int), .int .i64 (k : Int)] (by rfl) rfl rfl (by (try simp only [List.map_toArray, List.map_cons, List.map_nil]); first | done | rfl | (simp only [List.length_drop, List.length_take]; rfl)) ?_
            with_reducible refine (KH.out _).mono ?_
            rintro e w3 ⟨rfl, rfl⟩
            refine ⟨_, rfl, ?_⟩
            refine hK.out _ _ ⟨H.out.ct, H.out.cI⟩ (fun hHeld => ?_)
            clear hK K
            refine norm_ (a' := ?_) ?_ ?_
            rotate_left
            · show Act.put _ (some 72) _ = _
              simp only [Act.put, List.setIfInBounds_toArray, List.set_cons_zero, List.set_cons_succ, i64_w, i32_w]
              rfl
            refine pure_ (i := 3) (N := some 73) (v := ?_) (a' := ?_) #[true, true, true, true, false, false, false, false, false, false, false, false, false, false, false, false, false, false, false] rfl rfl (by kernel_rfl) (fun _ _ _ h => h) (Or.inl ⟨by rfl, ?_⟩) ?_ ?_
            rotate_left
            · intro w'
              go_simp
              with_reducible rfl
            rotate_left
            · simp only [Act.put, List.setIfInBounds_toArray, List.set_cons_zero, List.set_cons_succ, i64_w, i32_w]
              rfl
            refine pure_ (i := 4) (N := some 74) (v := ?_) (a' := ?_) #[true, true, true, true, true, false, false, false, false, false, false, false, false, false, false, false, false, false, false] rfl rfl (by kernel_rfl) (fun _ _ _ h => h) (Or.inl ⟨by rfl, ?_⟩) ?_ ?_
            rotate_left
            · intro w'
              go_simp
              with_reducible rfl
            rotate_left
            · simp only [Act.put, List.setIfInBounds_toArray, List.set_cons_zero, List.set_cons_succ, i64_w, i32_w]
              rfl
            refine pure_ (i := 5) (N := some 75) (v := ?_) (a' := ?_) #[true, true, true, true, true, true, false, false, false, false, false, false, false, false, false, false, false, false, false] rfl rfl (by kernel_rfl) (fun _ _ _ h => h) (Or.inl ⟨by rfl, ?_⟩) ?_ ?_
            rotate_left
            · intro w'
              go_simp
              with_reducible rfl
            rotate_left
            · simp only [Act.put, List.setIfInBounds_toArray, List.set_cons_zero, List.set_cons_succ, i64_w, i32_w]
              rfl
            refine pure_ (i := 6) (N := some 76) (v := ?_) (a' := ?_) #[true, true, true, true, true, true, true, false, false, false, false, false, false, false, false, false, false, false, false] rfl rfl (by kernel_rfl) (fun _ _ _ h => h) (Or.inl ⟨by rfl, ?_⟩) ?_ ?_
            rotate_left
            · intro w'
              go_simp
              with_reducible rfl
            rotate_left
            · simp only [Act.put, List.setIfInBounds_toArray, List.set_cons_zero, List.set_cons_succ, i64_w, i32_w]
              rfl
            refine pure_ (i := 8) (N := some 78) (v := ?_) (a' := ?_) #[true, true, true, true, true, true, true, false, true, false, false, false, false, false, false, false, false, false, false] rfl rfl (by kernel_rfl) (fun _ _ _ h => h) (Or.inl ⟨by rfl, ?_⟩) ?_ ?_
            rotate_left
            · intro w'
              go_simp
              with_reducible rfl
            rotate_left
            · simp only [Act.put, List.setIfInBounds_toArray, List.set_cons_zero, List.set_cons_succ, i64_w, i32_w]
              rfl
            refine pure_ (i := 9) (N := some 79) (v := ?_) (a' := ?_) #[true, true, true, true, true, true, true, false, true, true, false, false, false, false, false, false, false, false, false] rfl rfl (by kernel_rfl) (fun _ _ _ h => h) (Or.inl ⟨by rfl, ?_⟩) ?_ ?_
            rotate_left
            · intro w'
              go_simp
              with_reducible rfl
            rotate_left
            · simp only [Act.put, List.setIfInBounds_toArray, List.set_cons_zero, List.set_cons_succ, i64_w, i32_w]
              rfl
            refine pure_ (i := 12) (N := some 82) (v := ?_) (a' := ?_) #[true, true, true, true, true, true, true, false, true, true, false, false, true, false, false, false, false, false, false] rfl rfl (by kernel_rfl) (fun _ _ _ h => h) (Or.inl ⟨by rfl, ?_⟩) ?_ ?_
            rotate_left
            · intro w'
              go_simp
              with_reducible rfl
            rotate_left
            · simp only [Act.put, List.setIfInBounds_toArray, List.set_cons_zero, List.set_cons_succ, i64_w, i32_w]
              rfl
            refine pure_ (i := 13) (N := some 83) (v := ?_) (a' := ?_) #[true, true, true, true, true, true, true, false, true, true, false, false, true, true, false, false, false, false, false] rfl rfl (by kernel_rfl) (fun _ _ _ h => h) (Or.inl ⟨by rfl, ?_⟩) ?_ ?_
            rotate_left
            · intro w'
              go_simp
              with_reducible rfl
            rotate_left
            · simp only [Act.put, List.setIfInBounds_toArray, List.set_cons_zero, List.set_cons_succ, i64_w, i32_w]
              rfl
            refine pure_ (i := 14) (N := some 84) (v := ?_) (a' := ?_) #[true, true, true, true, true, true, true, false, true, true, false, false, true, true, true, false, false, false, false] rfl rfl (by kernel_rfl) (fun _ _ _ h => h) (Or.inl ⟨by rfl, ?_⟩) ?_ ?_
            rotate_left
            · intro w'
              go_simp
              with_reducible rfl
            rotate_left
            · simp only [Act.put, List.setIfInBounds_toArray, List.set_cons_zero, List.set_cons_succ, i64_w, i32_w]
              rfl
            refine pure_ (i := 15) (N := some 85) (v := ?_) (a' := ?_) #[true, true, true, true, true, true, true, false, true, true, false, false, true, true, true, true, false, false, false] rfl rfl (by kernel_rfl) (fun _ _ _ h => h) (Or.inl ⟨by rfl, ?_⟩) ?_ ?_
            rotate_left
            · intro w'
              go_simp
              with_reducible rfl
            rotate_left
            · simp only [Act.put, List.setIfInBounds_toArray, List.set_cons_zero, List.set_cons_succ, i64_w, i32_w]
              rfl
            refine take_ (i := 7) (N := some 77) (v := ?_) (a' := ?_) #[true, true, true, true, true, true, true, true, true, true, false, false, true, true, true, true, false, false, false] rfl rfl (by kernel_rfl) (fun _ _ _ h => h) (Or.inl ⟨by rfl, ?_⟩) hHeld ?_ ?_
            rotate_left
            · rintro w' ⟨s0, s1⟩
              go_simp
              with_reducible rfl
            rotate_left
            · simp only [Act.put, List.setIfInBounds_toArray, List.set_cons_zero, List.set_cons_succ, i64_w, i32_w]
              rfl
            refine take_ (i := 16) (N := some 86) (v := ?_) (a' := ?_) #[true, true, true, true, true, true, true, true, true, true, false, false, true, true, true, true, true, false, false] rfl rfl (by kernel_rfl) (fun _ _ _ h => h) (Or.inl ⟨by rfl, ?_⟩) hHeld ?_ ?_
            rotate_left
            · rintro w' ⟨s0, s1⟩
              go_simp
              with_reducible rfl
            rotate_left
            · simp only [Act.put, List.setIfInBounds_toArray, List.set_cons_zero, List.set_cons_succ, i64_w, i32_w]
              rfl
            refine one_ (i := 10) (N := some 80) #[true, true, true, true, true, true, true, true, true, true, true, false, true, true, true, true, true, false, false] rfl rfl (by kernel_rfl) (by decide) (fun K hK => ?_)
            refine goes_ Tryd.func99 (by kernel_rfl) rfl #[.pointer (some ⟨b, 0, none⟩), .int .i64 (k : Int)] (by rfl) rfl rfl (by (try simp only [List.map_toArray, List.map_cons, List.map_nil]); first | done | rfl | (simp only [List.length_drop, List.length_take]; rfl)) ?_
            with_reducible refine (KF.out _ H.out).mono ?_
            rintro e w4 ⟨rfl, hb⟩
            refine ⟨_, rfl, ?_⟩
            have n_ := Lib.hid (H.out.below hb)
            have n2_ := Lib.hid (HU.out.trans (Upd.of_below hb (Nat.le_of_lt H.out.lt)))
            clear H HU hb
            have H := n_
            have HU := n2_
            clear n_ n2_
            refine hK.out _ _ ⟨H.out.ct, H.out.cI⟩ (fun hHeld => ?_)
            clear hK K
            refine norm_ (a' := ?_) ?_ ?_
            rotate_left
            · show Act.put _ (some 80) _ = _
              simp only [Act.put, List.setIfInBounds_toArray, List.set_cons_zero, List.set_cons_succ, i64_w, i32_w]
              rfl
            refine pure_ (i := 11) (N := some 81) (v := ?_) (a' := ?_) #[true, true, true, true, true, true, true, true, true, true, true, true, true, true, true, true, true, false, false] rfl rfl (by kernel_rfl) (fun _ _ _ h => h) (Or.inl ⟨by rfl, ?_⟩) ?_ ?_
            rotate_left
            · intro w'
              go_simp
              with_reducible rfl
            rotate_left
            · simp only [Act.put, List.setIfInBounds_toArray, List.set_cons_zero, List.set_cons_succ, i64_w, i32_w]
              rfl
            refine pure_ (i := 17) (N := some 87) (v := ?_) (a' := ?_) #[true, true, true, true, true, true, true, true, true, true, true, true, true, true, true, true, true, true, false] rfl rfl (by kernel_rfl) (fun _ _ _ h => h) (Or.inl ⟨by rfl, ?_⟩) ?_ ?_
            rotate_left
            · intro w'
              go_simp
              with_reducible rfl
            rotate_left
            · simp only [Act.put, List.setIfInBounds_toArray, List.set_cons_zero, List.set_cons_succ, i64_w, i32_w]
              rfl
            refine pure_ (i := 18) (N := some 88) (v := ?_) (a' := ?_) #[true, true, true, true, true, true, true, true, true, true, true, true, true, true, true, true, true, true, true] rfl rfl (by kernel_rfl) (fun _ _ _ h => h) (Or.inl ⟨by rfl, ?_⟩) ?_ ?_
            rotate_left
            · intro w'
              go_simp
              with_reducible rfl
            rotate_left
            · simp only [Act.put, List.setIfInBounds_toArray, List.set_cons_zero, List.set_cons_succ, i64_w, i32_w]
              rfl
            refine done_ (by kernel_rfl) ?_
            clear hHeld wa1 wa2
            have wc1 := WC.out.1
            have wc2 := WC.out.2
            have wb1 := WB.out.1
            have wb2 := WB.out.2
            go_wp2_with (go_at_call 30; refine (KW.out _).mono ?_; rintro e w5 ⟨rfl, rfl⟩)
            clear wb1 wb2
            clear wc1 wc2
            go_roundg k1
            case measure => have := HI.out; omega
            case rel => exact ⟨j + 1, by rw [HST.out, if_pos ⟨cl, by first | rfl | trivial, ci⟩], by rw [HST.out, if_pos ⟨cl, by first | rfl | trivial, ci⟩], rfl, ⟨by have := HI.out; omega, by have := HI.out; have := HCJ.out; omega⟩, ⟨H.out⟩, ⟨HU.out⟩⟩
          · have e3 : decide (q.I ≤ q.t - fr) = false := decide_eq_false ci
            have wa1 := WA.out.1
            have wa2 := WA.out.2
            go_upto_region 13 with fail
            clear cS
            refine start_ (n := 19) (S := fun w' => w'.cell? ⟨b, 4, none⟩ = some (.int .i64 q.t) ∧ w'.cell? ⟨b, 0, none⟩ = some (.int .i64 q.I)) (ds := []) #[false, false, false, false, false, false, false, false, false, false, false, false, false, false, false, false, false, false, false] (by kernel_rfl) rfl rfl ⟨H.out.ct, H.out.cI⟩ (fun hHeld => ?_)
            have n_ := Lib.hid H.out.drew
            have n2_ := Lib.hid (HU.out.drew (Nat.le_of_lt H.out.lt))
            clear H HU
            have H := n_
            have HU := n2_
            clear n_ n2_
            generalize wr.drew = w12 at H HU hHeld ⊢
            refine pure_ (i := 0) (N := some 70) (v := ?_) (a' := ?_) #[true, false, false, false, false, false, false, false, false, false, false, false, false, false, false, false, false, false, false] rfl rfl (by kernel_rfl) (fun _ _ _ h => h) (Or.inl ⟨by rfl, ?_⟩) ?_ ?_
            rotate_left
            · intro w'
              go_simp
              with_reducible rfl
            rotate_left
            · simp only [Act.put, List.setIfInBounds_toArray, List.set_cons_zero, List.set_cons_succ, i64_w, i32_w]
              rfl
            refine pure_ (i := 1) (N := some 71) (v := ?_) (a' := ?_) #[true, true, false, false, false, false, false, false, false, false, false, false, false, false, false, false, false, false, false] rfl rfl (by kernel_rfl) (fun _ _ _ h => h) (Or.inl ⟨by rfl, ?_⟩) ?_ ?_
            rotate_left
            · intro w'
              go_simp
              with_reducible rfl
            rotate_left
            · simp only [Act.put, List.setIfInBounds_toArray, List.set_cons_zero, List.set_cons_succ, i64_w, i32_w]
              rfl
            refine one_ (i := 2) (N := some 72) #[true, true, true, false, false, false, false, false, false, false, false, false, false, false, false, false, false, false, false] rfl rfl (by kernel_rfl) (by decide) (fun K hK => ?_)
            refine goes_ Tryd.func29 (by kernel_rfl) rfl #[.int .u64 (id : Int), .int .i64 (k : Int)] (by rfl) rfl rfl (by (try simp only [List.map_toArray, List.map_cons, List.map_nil]); first | done | rfl | (simp only [List.length_drop, List.length_take]; rfl)) ?_
            with_reducible refine (KH.out _).mono ?_
            rintro e w3 ⟨rfl, rfl⟩
            refine ⟨_, rfl, ?_⟩
            refine hK.out _ _ ⟨H.out.ct, H.out.cI⟩ (fun hHeld => ?_)
            clear hK K
            refine norm_ (a' := ?_) ?_ ?_
            rotate_left
            · show Act.put _ (some 72) _ = _
              simp only [Act.put, List.setIfInBounds_toArray, List.set_cons_zero, List.set_cons_succ, i64_w, i32_w]
              rfl
            refine pure_ (i := 3) (N := some 73) (v := ?_) (a' := ?_) #[true, true, true, true, false, false, false, false, false, false, false, false, false, false, false, false, false, false, false] rfl rfl (by kernel_rfl) (fun _ _ _ h => h) (Or.inl ⟨by rfl, ?_⟩) ?_ ?_
            rotate_left
            · intro w'
              go_simp
              with_reducible rfl
            rotate_left
            · simp only [Act.put, List.setIfInBounds_toArray, List.set_cons_zero, List.set_cons_succ, i64_w, i32_w]
              rfl
            refine pure_ (i := 4) (N := some 74) (v := ?_) (a' := ?_) #[true, true, true, true, true, false, false, false, false, false, false, false, false, false, false, false, false, false, false] rfl rfl (by kernel_rfl) (fun _ _ _ h => h) (Or.inl ⟨by rfl, ?_⟩) ?_ ?_
            rotate_left
            · intro w'
              go_simp
              with_reducible rfl
            rotate_left
            · simp only [Act.put, List.setIfInBounds_toArray, List.set_cons_zero, List.set_cons_succ, i64_w, i32_w]
              rfl
            refine pure_ (i := 5) (N := some 75) (v := ?_) (a' := ?_) #[true, true, true, true, true, true, false, false, false, false, false, false, false, false, false, false, false, false, false] rfl rfl (by kernel_rfl) (fun _ _ _ h => h) (Or.inl ⟨by rfl, ?_⟩) ?_ ?_
            rotate_left
            · intro w'
              go_simp
              with_reducible rfl
            rotate_left
            · simp only [Act.put, List.setIfInBounds_toArray, List.set_cons_zero, List.set_cons_succ, i64_w, i32_w]
              rfl
            refine pure_ (i := 6) (N := some 76) (v := ?_) (a' := ?_) #[true, true, true, true, true, true, true, false, false, false, false, false, false, false, false, false, false, false, false] rfl rfl (by kernel_rfl) (fun _ _ _ h => h) (Or.inl ⟨by rfl, ?_⟩) ?_ ?_
            rotate_left
            · intro w'
              go_simp
              with_reducible rfl
            rotate_left
            · simp only [Act.put, List.setIfInBounds_toArray, List.set_cons_zero, List.set_cons_succ, i64_w, i32_w]
              rfl
            refine pure_ (i := 8) (N := some 78) (v := ?_) (a' := ?_) #[true, true, true, true, true, true, true, false, true, false, false, false, false, false, false, false, false, false, false] rfl rfl (by kernel_rfl) (fun _ _ _ h => h) (Or.inl ⟨by rfl, ?_⟩) ?_ ?_
            rotate_left
            · intro w'
              go_simp
              with_reducible rfl
            rotate_left
            · simp only [Act.put, List.setIfInBounds_toArray, List.set_cons_zero, List.set_cons_succ, i64_w, i32_w]
              rfl
            refine pure_ (i := 9) (N := some 79) (v := ?_) (a' := ?_) #[true, true, true, true, true, true, true, false, true, true, false, false, false, false, false, false, false, false, false] rfl rfl (by kernel_rfl) (fun _ _ _ h => h) (Or.inl ⟨by rfl, ?_⟩) ?_ ?_
            rotate_left
            · intro w'
              go_simp
              with_reducible rfl
            rotate_left
            · simp only [Act.put, List.setIfInBounds_toArray, List.set_cons_zero, List.set_cons_succ, i64_w, i32_w]
              rfl
            refine pure_ (i := 12) (N := some 82) (v := ?_) (a' := ?_) #[true, true, true, true, true, true, true, false, true, true, false, false, true, false, false, false, false, false, false] rfl rfl (by kernel_rfl) (fun _ _ _ h => h) (Or.inl ⟨by rfl, ?_⟩) ?_ ?_
            rotate_left
            · intro w'
              go_simp
              with_reducible rfl
            rotate_left
            · simp only [Act.put, List.setIfInBounds_toArray, List.set_cons_zero, List.set_cons_succ, i64_w, i32_w]
              rfl
            refine pure_ (i := 13) (N := some 83) (v := ?_) (a' := ?_) #[true, true, true, true, true, true, true, false, true, true, false, false, true, true, false, false, false, false, false] rfl rfl (by kernel_rfl) (fun _ _ _ h => h) (Or.inl ⟨by rfl, ?_⟩) ?_ ?_
            rotate_left
            · intro w'
              go_simp
              with_reducible rfl
            rotate_left
            · simp only [Act.put, List.setIfInBounds_toArray, List.set_cons_zero, List.set_cons_succ, i64_w, i32_w]
              rfl
            refine pure_ (i := 14) (N := some 84) (v := ?_) (a' := ?_) #[true, true, true, true, true, true, true, false, true, true, false, false, true, true, true, false, false, false, false] rfl rfl (by kernel_rfl) (fun _ _ _ h => h) (Or.inl ⟨by rfl, ?_⟩) ?_ ?_
            rotate_left
            · intro w'
              go_simp
              with_reducible rfl
            rotate_left
            · simp only [Act.put, List.setIfInBounds_toArray, List.set_cons_zero, List.set_cons_succ, i64_w, i32_w]
              rfl
            refine pure_ (i := 15) (N := some 85) (v := ?_) (a' := ?_) #[true, true, true, true, true, true, true, false, true, true, false, false, true, true, true, true, false, false, false] rfl rfl (by kernel_rfl) (fun _ _ _ h => h) (Or.inl ⟨by rfl, ?_⟩) ?_ ?_
            rotate_left
            · intro w'
              go_simp
              with_reducible rfl
            rotate_left
            · simp only [Act.put, List.setIfInBounds_toArray, List.set_cons_zero, List.set_cons_succ, i64_w, i32_w]
              rfl
            refine take_ (i := 7) (N := some 77) (v := ?_) (a' := ?_) #[true, true, true, true, true, true, true, true, true, true, false, false, true, true, true, true, false, false, false] rfl rfl (by kernel_rfl) (fun _ _ _ h => h) (Or.inl ⟨by rfl, ?_⟩) hHeld ?_ ?_
            rotate_left
            · rintro w' ⟨s0, s1⟩
              go_simp
              with_reducible rfl
            rotate_left
            · simp only [Act.put, List.setIfInBounds_toArray, List.set_cons_zero, List.set_cons_succ, i64_w, i32_w]
              rfl
            refine take_ (i := 16) (N := some 86) (v := ?_) (a' := ?_) #[true, true, true, true, true, true, true, true, true, true, false, false, true, true, true, true, true, false, false] rfl rfl (by kernel_rfl) (fun _ _ _ h => h) (Or.inl ⟨by rfl, ?_⟩) hHeld ?_ ?_
            rotate_left
            · rintro w' ⟨s0, s1⟩
              go_simp
              with_reducible rfl
            rotate_left
            · simp only [Act.put, List.setIfInBounds_toArray, List.set_cons_zero, List.set_cons_succ, i64_w, i32_w]
              rfl
            refine one_ (i := 10) (N := some 80) #[true, true, true, true, true, true, true, true, true, true, true, false, true, true, true, true, true, false, false] rfl rfl (by kernel_rfl) (by decide) (fun K hK => ?_)
            refine goes_ Tryd.func99 (by kernel_rfl) rfl #[.pointer (some ⟨b, 0, none⟩), .int .i64 (k : Int)] (by rfl) rfl rfl (by (try simp only [List.map_toArray, List.map_cons, List.map_nil]); first | done | rfl | (simp only [List.length_drop, List.length_take]; rfl)) ?_
            with_reducible refine (KF.out _ H.out).mono ?_
            rintro e w4 ⟨rfl, hb⟩
            refine ⟨_, rfl, ?_⟩
            have n_ := Lib.hid (H.out.below hb)
            have n2_ := Lib.hid (HU.out.trans (Upd.of_below hb (Nat.le_of_lt H.out.lt)))
            clear H HU hb
            have H := n_
            have HU := n2_
            clear n_ n2_
            refine hK.out _ _ ⟨H.out.ct, H.out.cI⟩ (fun hHeld => ?_)
            clear hK K
            refine norm_ (a' := ?_) ?_ ?_
            rotate_left
            · show Act.put _ (some 80) _ = _
              simp only [Act.put, List.setIfInBounds_toArray, List.set_cons_zero, List.set_cons_succ, i64_w, i32_w]
              rfl
            refine pure_ (i := 11) (N := some 81) (v := ?_) (a' := ?_) #[true, true, true, true, true, true, true, true, true, true, true, true, true, true, true, true, true, false, false] rfl rfl (by kernel_rfl) (fun _ _ _ h => h) (Or.inl ⟨by rfl, ?_⟩) ?_ ?_
            rotate_left
            · intro w'
              go_simp
              with_reducible rfl
            rotate_left
            · simp only [Act.put, List.setIfInBounds_toArray, List.set_cons_zero, List.set_cons_succ, i64_w, i32_w]
              rfl
            refine pure_ (i := 17) (N := some 87) (v := ?_) (a' := ?_) #[true, true, true, true, true, true, true, true, true, true, true, true, true, true, true, true, true, true, false] rfl rfl (by kernel_rfl) (fun _ _ _ h => h) (Or.inl ⟨by rfl, ?_⟩) ?_ ?_
            rotate_left
            · intro w'
              go_simp
              with_reducible rfl
            rotate_left
            · simp only [Act.put, List.setIfInBounds_toArray, List.set_cons_zero, List.set_cons_succ, i64_w, i32_w]
              rfl
            refine pure_ (i := 18) (N := some 88) (v := ?_) (a' := ?_) #[true, true, true, true, true, true, true, true, true, true, true, true, true, true, true, true, true, true, true] rfl rfl (by kernel_rfl) (fun _ _ _ h => h) (Or.inl ⟨by rfl, ?_⟩) ?_ ?_
            rotate_left
            · intro w'
              go_simp
              with_reducible rfl
            rotate_left
            · simp only [Act.put, List.setIfInBounds_toArray, List.set_cons_zero, List.set_cons_succ, i64_w, i32_w]
              rfl
            refine done_ (by kernel_rfl) ?_
            clear hHeld wa1 wa2
            have wc1 := WC.out.1
            have wc2 := WC.out.2
            go_wp2
            clear wc1 wc2
            go_roundg k1
            case measure => have := HI.out; omega
            case rel => exact ⟨j + 1, by rw [HST.out, if_neg (fun h => by have := h.2.2; omega)], by rw [HST.out, if_neg (fun h => by have := h.2.2; omega)], rfl, ⟨by have := HI.out; omega, by have := HI.out; have := HCJ.out; omega⟩, ⟨H.out⟩, ⟨HU.out⟩⟩
      · have e2 : decide (q.Sp < l) = false := decide_eq_false cl
        have hend := hsp cl (q.N - j)
        rw [show j + (q.N - j) = q.N by omega] at hend
        have hO : O = o := by rw [HGO.out, hend]
        subst hO
        have bor := bits_or_u64_nat q.s O HOK.out.hs hin.1
        have cs := H.out.cs
        have fs := H.out.fz 6
        clear hst hsp hend
        go_wp2
        go_ret2
        exact ⟨by rw [HOE.out]; rfl, by rw [HGP.out]; exact H.out.setS (q.s ||| O), HU.out.setCell _ _⟩
    · have hj : j = q.N := by have := HI.out; omega
      have hkI : (q.N : Int) - 1 - (j : Int) = -1 := by omega
      rw [hkI]
      have hO : O = o := by rw [HGO.out, ← hj, hpa]
      subst hO
      have bor := bits_or_u64_nat q.s O HOK.out.hs hin.1
      have cs := H.out.cs
      have fs := H.out.fz 6
      clear hst hsp hkI hj hpa ho hl
      go_wp2
      go_ret2
      exact ⟨by rw [HOE.out]; rfl, by rw [HGP.out]; exact H.out.setS (q.s ||| O), HU.out.setCell _ _⟩
end Go.Proofs.YtmjkgnlmdcmdbaaDoor.Power
