/- WireBack: what was put is read as it was, and nothing is left; the law's walk, for every list of numbers, truth and text. -/
import Derived.Test.YtplajmcjkddikaaWire2
import Derived.Test.YtplajmcjkddikaaReader3
import Derived.Test.YtplajmcjkddikaaOpen
import Derived.Deep.RegionHeld3
import Derived.Outline
namespace Go.Proofs.Ytplajmcjkddikaa.Back
open Go.RowKit Go.Proofs.YtplajmcjkddikaaW.PrintWords Go.Proofs.YtplajmcjkddikaaW.PrintLast Go.Proofs.YtplajmcjkddikaaW.PrintMore Go.Proofs.Ytplajmcjkddikaa.Leb Go.Proofs.Ytplajmcjkddikaa.Wire Go.Proofs.Ytplajmcjkddikaa.Reader Go.Proofs.Ytplajmcjkddikaa.Lock Go.Proofs.Ytplajmcjkddikaa.Open
set_option linter.unusedVariables false
set_option linter.unusedSimpArgs false
def item (a : Int) : List Int := sgn a ++ putB a
def items (l : List Int) : List Int := l.flatMap item
theorem items_nil : items [] = [] := rfl
theorem items_cons (a : Int) (l : List Int) : items (a :: l) = item a ++ items l := rfl
theorem items_snoc (l : List Int) (a : Int) : items (l ++ [a]) = items l ++ item a := by simp [items, List.flatMap_append]
theorem item_len (a : Int) (h : I64 a) : (item a).length ≤ 20 := by
  have h1 := putB_len a h
  have h2 : (sgn a).length ≤ 10 := enc_len10 _ (zig_lt a h)
  simp only [item, List.length_append]; omega
theorem items_len : ∀ (l : List Int), (∀ a ∈ l, I64 a) → (items l).length ≤ 20 * l.length
  | [], _ => by simp [items]
  | a :: l, h => by
    have h1 := item_len a (h a (by simp))
    have h2 := items_len l (fun b hb => h b (List.mem_cons_of_mem _ hb))
    rw [items_cons, List.length_append, List.length_cons]; omega
theorem putB_bytes (a : Int) : ∀ c ∈ putB a, 0 ≤ c ∧ c < 256 := by
  unfold putB; split
  · simp
  · exact enc_bytes _
theorem bytes_app {x y : List Int} (hx : ∀ c ∈ x, 0 ≤ c ∧ c < 256) (hy : ∀ c ∈ y, 0 ≤ c ∧ c < 256) : ∀ c ∈ x ++ y, 0 ≤ c ∧ c < 256 := by
  intro c hc
  rcases List.mem_append.1 hc with h | h
  · exact hx c h
  · exact hy c h
theorem items_bytes : ∀ (l : List Int), ∀ c ∈ items l, 0 ≤ c ∧ c < 256
  | [] => by simp [items]
  | a :: l => by rw [items_cons]; exact bytes_app (bytes_app (sgn_bytes a) (putB_bytes a)) (items_bytes l)
theorem bytesOf_bytes (s : ByteArray) : ∀ c ∈ bytesOf s, 0 ≤ c ∧ c < 256 := by
  intro c hc
  simp only [bytesOf, List.mem_map] at hc
  obtain ⟨b, _, rfl⟩ := hc
  have := b.toNat_lt
  omega
/-! ### what is read -/
theorem rd_sgn (a : Int) (h : I64 a) (rest : List Int) : zag (rawS 0 (sgn a ++ rest)).2.1 = a ∧ (rawS 0 (sgn a ++ rest)).2.2 = rest ∧ (rawS 0 (sgn a ++ rest)).1 = 0 := by
  have : rawS 0 (sgn a ++ rest) = (0, zig a, rest) := by
    unfold rawS sgn
    rw [if_pos rfl, raw_enc rest (zig a) 0 (by omega) (by rw [lim0]; exact zig_lt a h) (by omega)]
  rw [this]
  exact ⟨zag_zig a, rfl, rfl⟩
theorem rd_num (a : Int) (h : I64 a) (h0 : 0 ≤ a) (rest : List Int) : numS 0 (putB a ++ rest) = (a, 0, rest) := by
  have : rawS 0 (putB a ++ rest) = (0, a.toNat, rest) := by
    unfold rawS putB
    rw [if_pos rfl, if_neg (by omega), raw_enc rest a.toNat 0 (by omega) (by rw [lim0]; omega) (by omega)]
  unfold numS
  rw [this, if_pos (by show a.toNat < _; omega)]
  simp only [Prod.mk.injEq, and_true]
  omega
theorem rd_bool (b : Bool) (rest : List Int) : boolS 0 (boolB b :: rest) = (b, 0, rest) := by cases b <;> rfl
theorem str_bytesOf (s : ByteArray) : strOfNums (bytesOf s) = s := by
  unfold strOfNums bytesOf
  rw [List.map_map]
  have : ((fun n : Int => UInt8.ofNat n.toNat) ∘ fun b : UInt8 => (b.toNat : Int)) = id := by
    funext b; simp
  rw [this, List.map_id]
theorem rd_text (s : ByteArray) (hs : s.size ≤ 200) (rest : List Int) : textS 200 0 (putB s.size ++ (bytesOf s ++ rest)) = (bytesOf s, 0, rest) := by
  unfold textS
  rw [rd_num (s.size : Int) (by unfold I64; omega) (by omega)]
  simp only [ne_eq, not_true_eq_false, if_false]
  have hl := bytesOf_length s
  rw [if_neg (by omega), if_neg (by rw [List.length_append]; omega)]
  simp only [Int.toNat_natCast]
  rw [List.take_left' hl, List.drop_left' hl]

theorem awake1_any (w : World) : Calls Try.prog 40 #[] w fun e w' => e = .returned (.bool true) ∧ Below w.heap.size w w' :=
  PWireBack.berthagelaw01_awake.calls 400 true w (by decide +kernel)
def cutS (s : ByteArray) : ByteArray := if (s.size : Int) > 200 then s.extract 0 200 else s
theorem cutS_len (s : ByteArray) : (cutS s).size ≤ 200 := by
  unfold cutS; split
  · simp [ByteArray.size_extract]; omega
  · omega
theorem cut_any (s : ByteArray) (w : World) : Calls Try.prog 41 #[.string s] w fun e w' => e = .returned (.string (cutS s)) ∧ Drawn0 w w' := by
  refine PWireBack.berthagelaw01_cut.calls s (cutS s) w ?_
  unfold PWireBack.berthagelaw01_cut.f cutS
  split
  · rw [if_pos (by omega), if_pos (by omega)]
  · rfl
/-- where the reader stands: what is left; the numbers lie where they lay -/
structure ST (W w0 w : World) (g : Nat) (xs : List Int) : Prop where
  rs : RS w0 w g xs 0
  low : Below W.heap.size W w
theorem ST.step {W w0 w w' : World} {g : Nat} {xs ys : List Int} (h : ST W w0 w g xs) (hW : Below W.heap.size W w0) (h1 : RS w0 w' g ys 0) (hu : Upd g w w') : ST W w0 w' g ys := by
  exact ⟨h1, hW.trans (h1.low.mono hW.size)⟩
theorem ST.drew {W w0 w : World} {g : Nat} {xs : List Int} (h : ST W w0 w g xs) : ST W w0 w.drew g xs :=
  ⟨h.rs.below (below_drew (Below.refl _ _)), below_drew h.low⟩
theorem st_sign {W w0 w : World} {g : Nat} (a : Int) (ha : I64 a) (rest : List Int) (hW : Below W.heap.size W w0) (hr : ∀ c ∈ rest, 0 ≤ c ∧ c < 256) (h : ST W w0 w g (sgn a ++ rest)) :
    Calls Try.prog 49 #[.pointer (some ⟨g, 0, none⟩)] w fun r w' => r = .returned (.int .i64 a) ∧ ST W w0 w' g rest := by
  obtain ⟨e1, e2, e3⟩ := rd_sgn a ha rest
  refine (sign_rd w0 w g _ 0 (bytes_app (sgn_bytes a) hr) h.rs).mono ?_
  rintro r w' ⟨rfl, h1, h2⟩
  rw [e2, e3] at h1
  rw [e1]
  exact ⟨rfl, h.step hW h1 h2⟩
theorem st_num {W w0 w : World} {g : Nat} (a : Int) (ha : I64 a) (h0 : 0 ≤ a) (rest : List Int) (hW : Below W.heap.size W w0) (hr : ∀ c ∈ rest, 0 ≤ c ∧ c < 256) (h : ST W w0 w g (putB a ++ rest)) :
    Calls Try.prog 50 #[.pointer (some ⟨g, 0, none⟩)] w fun r w' => r = .returned (.int .i64 a) ∧ ST W w0 w' g rest := by
  refine (num_rd w0 w g _ 0 (bytes_app (putB_bytes a) hr) h.rs).mono ?_
  rintro r w' ⟨rfl, h1, h2⟩
  rw [rd_num a ha h0 rest] at h1 ⊢
  exact ⟨rfl, h.step hW h1 h2⟩
theorem read_of {w : World} {base : Nat} {v : Value} {xs : List Int} (h : Kd.R (Kd.int .u8) 5 w base (fun _ => True) v xs) : ∃ A c, v = .slice A xs.length c ∧ xs.length ≤ c ∧ Kd.C (Kd.int .u8) w A xs.length xs := by
  obtain ⟨A, c, h1, h2, h3⟩ := Kd.N_reads (Kd.R_N h)
  exact ⟨A, c, h1, h2, h3⟩
set_option maxRecDepth 100000 in
set_option maxHeartbeats 8000000 in
theorem WireBack_any (a : Option Addr) (len cap : Nat) (z : List Int) (is : Bool) (s : ByteArray) (w : World) (w0 : IsRow .i64 w a len cap z) (y0 : len * 8 ≤ 140737488351232) (w2 : s.size ≤ 140737488351232) :
    Calls Try.prog 9 #[.slice a len cap, .bool is, .string s] w fun e w' => e = .returned (.bool true) ∧ Below w.heap.size w w' := by
  obtain ⟨l, rfl, hC, hm, hw, hc⟩ := w0.list
  have hts := cutS_len s
  go_enter Try.func9, Try.ntmps9
  go_upto_if 15 with (go_at_call 41; refine (cut_any s _).mono ?_; rintro e w1 ⟨rfl, hd1⟩)
  go_cut [0] (fun v wx => ∃ (A : Option Addr) (xs : List Int) (c : Nat), v = .slice A xs.length c ∧ xs.length ≤ 40 ∧ xs.length ≤ c ∧ Aside0 (Kd.C (Kd.int .i64) w A xs.length xs) ∧ Aside0 (∀ x ∈ xs, I64 x) ∧ Aside0 (Below w.heap.size w wx))
  case first =>
    by_cases h : 40 < l.length
    · obtain ⟨ad, rfl, -⟩ := Kd.at_int hC 0 (by omega) (by omega)
      go_wp2
      go_meet
      exact ⟨_, l.take 40, cap, by rw [List.length_take, Nat.min_eq_left (by omega)], by rw [List.length_take]; omega, by rw [List.length_take]; omega, ⟨Kd.C_take hC (by omega)⟩, ⟨fun x hx => bounds_i64 (hw x (List.mem_of_mem_take hx))⟩, ⟨hd1.below⟩⟩
    · go_wp2
      go_meet
      exact ⟨_, l, cap, rfl, by omega, hc, ⟨hC⟩, ⟨fun x hx => bounds_i64 (hw x hx)⟩, ⟨hd1.below⟩⟩
  case rest =>
    obtain ⟨A, xs, c, rfl, h40, hxc, HC, HI, HB0⟩ := hcut
    clear hC hw hm hc w0 y0 w2
    generalize cutS s = t at hts ⊢
    go_wp2
    go_loopw [7, 8] (fun v i w1 => ∃ k : Nat, k ≤ xs.length ∧ i = .int .i64 k ∧ Aside0 (Kd.R (Kd.int .u8) 5 w1 w.heap.size (fun _ => True) v (items (xs.take k))) ∧ Aside0 (Below w.heap.size w w1)) (fun _ i _ => xs.length - (intOf i).toNat)
    case atStart => exact ⟨0, by omega, rfl, ⟨Kd.R_nil _ _ _ _ _⟩, HB0⟩
    case round =>
      obtain ⟨k, hk, rfl, HO, HB⟩ := hrel
      by_cases hlt : k < xs.length
      · have HC1 := Kd.C_below HC.out HB.out
        obtain ⟨ad, e, hx⟩ := Kd.at_int HC1 (k : Int) (by omega) (by omega)
        rw [Int.toNat_natCast] at hx
        have er : rd xs (k : Int) = xs.getD k 0 := by unfold rd; rw [Int.toNat_natCast]
        rw [er] at hx
        have hv : I64 (xs.getD k 0) := by
          rw [List.getD_eq_getElem?_getD, List.getElem?_eq_getElem hlt]; exact HI.out _ (List.getElem_mem hlt)
        have hnx : xs.take (k + 1) = xs.take k ++ [xs.getD k 0] := by
          rw [List.take_succ_eq_append_getElem hlt, List.getD_eq_getElem?_getD, List.getElem?_eq_getElem hlt]; rfl
        have hI := Lib.hid (show items (xs.take (k + 1)) = items (xs.take k) ++ sgn (xs.getD k 0) ++ putB (xs.getD k 0) by rw [hnx, items_snoc, item, List.append_assoc])
        have hlen := items_len (xs.take k) (fun a ha => HI.out a (List.mem_of_mem_take ha))
        have hs10 : (sgn (xs.getD k 0)).length ≤ 10 := enc_len10 _ (zig_lt _ hv)
        have htk : (xs.take k).length ≤ 40 := by rw [List.length_take]; omega
        have HA : Aside0 (Kd.C (Kd.int .i64) w A xs.length xs) := HC
        have hwx : ∀ w' : World, Below w.heap.size w w' → w'.cell? (ad.add k) = some (.int .i64 (xs.getD k 0)) := by
          intro w' hb'
          obtain ⟨ad', e', hx'⟩ := Kd.at_int (Kd.C_below HC.out hb') (k : Int) (by omega) (by omega)
          rw [e] at e'; injection e' with e'; subst e'
          rw [Int.toNat_natCast] at hx'
          rw [hx', er]
        have HWX := Lib.hid hwx
        have HV := Lib.hid hv
        generalize xs.getD k 0 = v at hx hI hs10 HWX HV
        subst e
        clear HC1 er hv hnx hwx
        go_wp2_with fail
        go_region_held3 (fun w' => w'.cell? (ad.add k) = some (.int .i64 v)) (first | assumption | exact HWX.out _ (by assumption)) (first
          | (go_at_call 39; refine (sign_own _ _ v HV.out w _ (below_drew HB.out) (Kd.R_drew HO.out) (by omega)).mono ?_; rintro e w1 ⟨v1, rfl, ho1, hb1⟩)
          | (go_at_call 43; refine (put_own _ _ v HV.out w _ hb1 ho1 (by rw [List.length_append]; omega)).mono ?_; rintro e w2 ⟨v2, rfl, ho2, hb2⟩))
        go_wp2
        go_roundw
        case rel => exact ⟨k + 1, by omega, by go_num, ⟨by rw [hI.out]; exact ho2⟩, ⟨hb2⟩⟩
        case measure => simp [intOf]; omega
      · obtain rfl : k = xs.length := by omega
        rw [List.take_length] at HO
        have hlen := items_len xs HI.out
        obtain ⟨Y, hY⟩ : ∃ Y, items xs ++ [boolB is] ++ putB (t.size : Int) ++ bytesOf t = Y := ⟨_, rfl⟩
        have HY := Lib.hid hY
        clear hY
        go_wp2_with (first
          | (go_at_call 46; refine (bool_own _ _ is w _ HB.out HO.out (by omega)).mono ?_; rintro e w1 ⟨v1, rfl, ho1, hb1⟩)
          | (go_at_call 47; refine (text_own _ _ t (by omega) w _ hb1 ho1 (by rw [List.length_append, List.length_singleton]; omega)).mono ?_; rintro e w2 ⟨v2, rfl, ho2, hb2⟩; rw [HY.out] at ho2; obtain ⟨A2, c2, rfl, hc2, hC2⟩ := read_of ho2)
          | (go_at_call 48; refine (read_rd w2 A2 c2 _ hC2 hc2).mono ?_; rintro e w3 ⟨rfl, hr3⟩))
        have HL : Aside0 (Below w.heap.size w w2) := ⟨hb2⟩
        have HR : Aside0 (RS w2 w3 w2.heap.size Y 0) := ⟨hr3⟩
        clear hr3 hC2 ho2 ho1 hb1 hb2 hc2
        generalize w2.heap.size = g at HR ⊢
        have hY2 : Y = items xs ++ (boolB is :: (putB (t.size : Int) ++ (bytesOf t ++ []))) := by rw [← HY.out]; simp
        have HY2 := Lib.hid hY2
        clear hY2 HY
        generalize hT : boolB is :: (putB (t.size : Int) ++ (bytesOf t ++ [])) = T at HY2
        have hTb : ∀ c ∈ T, 0 ≤ c ∧ c < 256 := by
          rw [← hT]
          intro c hc
          rcases List.mem_cons.1 hc with rfl | hc
          · unfold boolB; split <;> omega
          · exact bytes_app (putB_bytes _) (bytes_app (bytesOf_bytes t) (by simp)) c hc
        have HT := Lib.hid hT
        have HTb := Lib.hid hTb
        clear hT hTb
        go_loopw [10] (fun i w1 => ∃ k : Nat, k ≤ xs.length ∧ i = .int .i64 k ∧ Aside0 (ST w w2 w1 g (items (xs.drop k) ++ T))) (fun i _ => xs.length - (intOf i).toNat)
        case atStart => exact ⟨0, by omega, rfl, ⟨⟨by rw [List.drop_zero, ← HY2.out]; exact HR.out, HL.out.trans (HR.out.low.mono HL.out.size)⟩⟩⟩
        case round =>
          obtain ⟨k, hk, rfl, HS⟩ := hrel
          by_cases hlt : k < xs.length
          · obtain ⟨ad, e, hx⟩ := Kd.at_int HC.out (k : Int) (by omega) (by omega)
            rw [Int.toNat_natCast] at hx
            have er : rd xs (k : Int) = xs.getD k 0 := by unfold rd; rw [Int.toNat_natCast]
            rw [er] at hx
            have hv : I64 (xs.getD k 0) := by
              rw [List.getD_eq_getElem?_getD, List.getElem?_eq_getElem hlt]; exact HI.out _ (List.getElem_mem hlt)
            have hI : items (xs.drop k) ++ T = sgn (xs.getD k 0) ++ (putB (xs.getD k 0) ++ (items (xs.drop (k + 1)) ++ T)) := by
              rw [List.drop_eq_getElem_cons hlt, items_cons, List.getD_eq_getElem?_getD, List.getElem?_eq_getElem hlt]
              simp [item]
            have hR1 : ∀ c ∈ items (xs.drop (k + 1)) ++ T, 0 ≤ c ∧ c < 256 := bytes_app (items_bytes _) HTb.out
            rw [hI] at HS
            have HWX := Lib.hid (fun (w' : World) (hb' : ST w w2 w' g (items (xs.drop (k + 1)) ++ T)) => show w'.cell? (ad.add k) = some (.int .i64 (xs.getD k 0)) from (hb'.low.cell (p := ad.add k) (by have := World.block_lt_of_cell? w _ hx; exact this)).trans hx)
            have HWY := Lib.hid (fun (w' : World) (R : List Int) (hb' : ST w w2 w' g R) => show w'.cell? (ad.add k) = some (.int .i64 (xs.getD k 0)) from (hb'.low.cell (p := ad.add k) (by have := World.block_lt_of_cell? w _ hx; exact this)).trans hx)
            have hx0 := HWY.out wr _ HS.out
            have HV := Lib.hid hv
            have HR1 := Lib.hid hR1
            have hR2 : ∀ c ∈ putB (xs.getD k 0) ++ (items (xs.drop (k + 1)) ++ T), 0 ≤ c ∧ c < 256 := bytes_app (putB_bytes _) hR1
            have HR2 := Lib.hid hR2
            clear hR1 hR2 hI er hx hv
            generalize hN : items (xs.drop (k + 1)) ++ T = N at HS HR1 HR2 HWX
            have HN := Lib.hid hN
            clear hN
            generalize xs.getD k 0 = v at hx0 HS HWX HWY HV HR1 HR2
            subst e
            have b0 : (v != v) = false := by simp
            by_cases hv0 : 0 ≤ v
            · have b1 : decide (0 ≤ v) = true := by simpa using hv0
              go_wp2_with fail
              go_region_held3 (fun w' => w'.cell? (ad.add k) = some (.int .i64 v)) (first | assumption | exact HWY.out _ _ (by assumption)) (first
                | (go_at_call 49; refine (st_sign v HV.out _ HL.out HR2.out HS.out.drew).mono ?_; rintro e w3 ⟨rfl, hs3⟩)
                | (go_at_call 50; refine (st_num v HV.out hv0 N HL.out HR1.out hs3).mono ?_; rintro e w4 ⟨rfl, hs4⟩))
              go_wp2
              go_roundw
              case rel => exact ⟨k + 1, by omega, by go_num, ⟨by rw [HN.out]; exact hs4⟩⟩
              case measure => simp [intOf]; omega
            · have b1 : decide (0 ≤ v) = false := by simpa using hv0
              have hpn : putB v = [] := by unfold putB; rw [if_pos (by omega)]
              rw [hpn, List.nil_append] at HS
              clear hpn
              go_wp2_with fail
              refine start_ (n := 23) (S := fun w' => w'.cell? (ad.add k) = some (.int .i64 v)) (ds := []) #[false, false, false, false, false, false, false, false, false, false, false, false, false, false, false, false, false, false, false, false, false, false, false] (by kernel_rfl) rfl rfl (hx0) (fun hHeld => ?_)
              refine pure_ (i := 0) (N := some 48) (v := ?_) (a' := ?_) #[true, false, false, false, false, false, false, false, false, false, false, false, false, false, false, false, false, false, false, false, false, false, false] rfl rfl (by kernel_rfl) (fun _ _ _ h => h) (Or.inl ⟨by rfl, ?_⟩) ?_ ?_
              rotate_left
              · intro w'
                go_simp
                with_reducible rfl
              rotate_left
              · simp only [Act.put, List.setIfInBounds_toArray, List.set_cons_zero, List.set_cons_succ, i64_w, i32_w]
                rfl
              refine pure_ (i := 2) (N := some 50) (v := ?_) (a' := ?_) #[true, false, true, false, false, false, false, false, false, false, false, false, false, false, false, false, false, false, false, false, false, false, false] rfl rfl (by kernel_rfl) (fun _ _ _ h => h) (Or.inl ⟨by rfl, ?_⟩) ?_ ?_
              rotate_left
              · intro w'
                go_simp
                with_reducible rfl
              rotate_left
              · simp only [Act.put, List.setIfInBounds_toArray, List.set_cons_zero, List.set_cons_succ, i64_w, i32_w]
                rfl
              refine pure_ (i := 3) (N := some 51) (v := ?_) (a' := ?_) #[true, false, true, true, false, false, false, false, false, false, false, false, false, false, false, false, false, false, false, false, false, false, false] rfl rfl (by kernel_rfl) (fun _ _ _ h => h) (Or.inl ⟨by rfl, ?_⟩) ?_ ?_
              rotate_left
              · intro w'
                go_simp
                with_reducible rfl
              rotate_left
              · simp only [Act.put, List.setIfInBounds_toArray, List.set_cons_zero, List.set_cons_succ, i64_w, i32_w]
                rfl
              refine pure_ (i := 4) (N := some 52) (v := ?_) (a' := ?_) #[true, false, true, true, true, false, false, false, false, false, false, false, false, false, false, false, false, false, false, false, false, false, false] rfl rfl (by kernel_rfl) (fun _ _ _ h => h) (Or.inl ⟨by rfl, ?_⟩) ?_ ?_
              rotate_left
              · intro w'
                go_simp
                with_reducible rfl
              rotate_left
              · simp only [Act.put, List.setIfInBounds_toArray, List.set_cons_zero, List.set_cons_succ, i64_w, i32_w]
                rfl
              refine take_ (i := 5) (N := some 53) (v := ?_) (a' := ?_) #[true, false, true, true, true, true, false, false, false, false, false, false, false, false, false, false, false, false, false, false, false, false, false] rfl rfl (by kernel_rfl) (fun _ _ _ h => h) (Or.inl ⟨by rfl, ?_⟩) hHeld ?_ ?_
              rotate_left
              · intro w' s0
                go_simp
                with_reducible rfl
              rotate_left
              · simp only [Act.put, List.setIfInBounds_toArray, List.set_cons_zero, List.set_cons_succ, i64_w, i32_w]
                rfl
              refine one_ (i := 1) (N := some 49) #[true, true, true, true, true, true, false, false, false, false, false, false, false, false, false, false, false, false, false, false, false, false, false] rfl rfl (by kernel_rfl) (by decide) (fun K hK => ?_)
              refine goes_ Try.func49 (by kernel_rfl) rfl #[.pointer (some ⟨g, 0, none⟩)] (by rfl) rfl rfl (by (try simp only [List.map_toArray, List.map_cons, List.map_nil]); first | done | rfl | (simp only [List.length_drop, List.length_take]; rfl)) ?_
              with_reducible refine (st_sign v HV.out _ HL.out HR1.out HS.out.drew).mono ?_
              rintro e w3 ⟨rfl, hs3⟩
              refine ⟨_, rfl, ?_⟩
              refine hK.out _ _ (HWY.out _ _ hs3) (fun hHeld => ?_)
              clear hK K
              refine norm_ (a' := ?_) ?_ ?_
              rotate_left
              · show Act.put _ (some 49) _ = _
                simp only [Act.put, List.setIfInBounds_toArray, List.set_cons_zero, List.set_cons_succ, i64_w, i32_w]
                rfl
              refine pure_ (i := 6) (N := some 54) (v := ?_) (a' := ?_) #[true, true, true, true, true, true, true, false, false, false, false, false, false, false, false, false, false, false, false, false, false, false, false] rfl rfl (by kernel_rfl) (fun _ _ _ h => h) (Or.inl ⟨by rfl, ?_⟩) ?_ ?_
              rotate_left
              · intro w'
                go_simp
                with_reducible rfl
              rotate_left
              · simp only [Act.put, List.setIfInBounds_toArray, List.set_cons_zero, List.set_cons_succ, i64_w, i32_w]
                rfl
              refine pure_ (i := 7) (N := some 55) (v := ?_) (a' := ?_) #[true, true, true, true, true, true, true, true, false, false, false, false, false, false, false, false, false, false, false, false, false, false, false] rfl rfl (by kernel_rfl) (fun _ _ _ h => h) (Or.inl ⟨by rfl, ?_⟩) ?_ ?_
              rotate_left
              · intro w'
                go_simp
                with_reducible rfl
              rotate_left
              · simp only [Act.put, List.setIfInBounds_toArray, List.set_cons_zero, List.set_cons_succ, i64_w, i32_w]
                rfl
              refine pure_ (i := 8) (N := some 56) (v := ?_) (a' := ?_) #[true, true, true, true, true, true, true, true, true, false, false, false, false, false, false, false, false, false, false, false, false, false, false] rfl rfl (by kernel_rfl) (fun _ _ _ h => h) (Or.inl ⟨by rfl, ?_⟩) ?_ ?_
              rotate_left
              · intro w'
                go_simp
                with_reducible rfl
              rotate_left
              · simp only [Act.put, List.setIfInBounds_toArray, List.set_cons_zero, List.set_cons_succ, i64_w, i32_w]
                rfl
              refine pure_ (i := 9) (N := some 57) (v := ?_) (a' := ?_) #[true, true, true, true, true, true, true, true, true, true, false, false, false, false, false, false, false, false, false, false, false, false, false] rfl rfl (by kernel_rfl) (fun _ _ _ h => h) (Or.inl ⟨by rfl, ?_⟩) ?_ ?_
              rotate_left
              · intro w'
                go_simp
                with_reducible rfl
              rotate_left
              · simp only [Act.put, List.setIfInBounds_toArray, List.set_cons_zero, List.set_cons_succ, i64_w, i32_w]
                rfl
              refine pure_ (i := 10) (N := some 58) (v := ?_) (a' := ?_) #[true, true, true, true, true, true, true, true, true, true, true, false, false, false, false, false, false, false, false, false, false, false, false] rfl rfl (by kernel_rfl) (fun _ _ _ h => h) (Or.inl ⟨by rfl, ?_⟩) ?_ ?_
              rotate_left
              · intro w'
                go_simp
                with_reducible rfl
              rotate_left
              · simp only [Act.put, List.setIfInBounds_toArray, List.set_cons_zero, List.set_cons_succ, i64_w, i32_w]
                rfl
              refine take_ (i := 11) (N := some 59) (v := ?_) (a' := ?_) #[true, true, true, true, true, true, true, true, true, true, true, true, false, false, false, false, false, false, false, false, false, false, false] rfl rfl (by kernel_rfl) (fun _ _ _ h => h) (Or.inl ⟨by rfl, ?_⟩) hHeld ?_ ?_
              rotate_left
              · intro w' s0
                go_simp
                with_reducible rfl
              rotate_left
              · simp only [Act.put, List.setIfInBounds_toArray, List.set_cons_zero, List.set_cons_succ, i64_w, i32_w]
                rfl
              refine pure_ (i := 12) (N := some 60) (v := ?_) (a' := ?_) #[true, true, true, true, true, true, true, true, true, true, true, true, true, false, false, false, false, false, false, false, false, false, false] rfl rfl (by kernel_rfl) (fun _ _ _ h => h) (Or.inl ⟨by rfl, ?_⟩) ?_ ?_
              rotate_left
              · intro w'
                go_simp
                with_reducible rfl
              rotate_left
              · simp only [Act.put, List.setIfInBounds_toArray, List.set_cons_zero, List.set_cons_succ, i64_w, i32_w]
                rfl
              refine pure_ (i := 13) (N := some 61) (v := ?_) (a' := ?_) #[true, true, true, true, true, true, true, true, true, true, true, true, true, true, false, false, false, false, false, false, false, false, false] rfl rfl (by kernel_rfl) (fun _ _ _ h => h) (Or.inl ⟨by rfl, ?_⟩) ?_ ?_
              rotate_left
              · intro w'
                go_simp
                with_reducible rfl
              rotate_left
              · simp only [Act.put, List.setIfInBounds_toArray, List.set_cons_zero, List.set_cons_succ, i64_w, i32_w]
                rfl
              refine pure_ (i := 14) (N := some 62) (v := undef) (a' := ?_) #[true, true, true, true, true, true, true, true, true, true, true, true, true, true, true, false, false, false, false, false, false, false, false] rfl rfl (by kernel_rfl) (fun _ _ _ h => h) (Or.inr ⟨by rfl, rfl⟩) ?_ ?_
              rotate_left
              · simp only [Act.put, List.setIfInBounds_toArray, List.set_cons_zero, List.set_cons_succ, i64_w, i32_w]
                rfl
              refine pure_ (i := 15) (N := some 63) (v := undef) (a' := ?_) #[true, true, true, true, true, true, true, true, true, true, true, true, true, true, true, true, false, false, false, false, false, false, false] rfl rfl (by kernel_rfl) (fun _ _ _ h => h) (Or.inr ⟨by rfl, rfl⟩) ?_ ?_
              rotate_left
              · simp only [Act.put, List.setIfInBounds_toArray, List.set_cons_zero, List.set_cons_succ, i64_w, i32_w]
                rfl
              refine pure_ (i := 16) (N := some 64) (v := undef) (a' := ?_) #[true, true, true, true, true, true, true, true, true, true, true, true, true, true, true, true, true, false, false, false, false, false, false] rfl rfl (by kernel_rfl) (fun _ _ _ h => h) (Or.inr ⟨by rfl, rfl⟩) ?_ ?_
              rotate_left
              · simp only [Act.put, List.setIfInBounds_toArray, List.set_cons_zero, List.set_cons_succ, i64_w, i32_w]
                rfl
              refine pure_ (i := 17) (N := some 65) (v := undef) (a' := ?_) #[true, true, true, true, true, true, true, true, true, true, true, true, true, true, true, true, true, true, false, false, false, false, false] rfl rfl (by kernel_rfl) (fun _ _ _ h => h) (Or.inr ⟨by rfl, rfl⟩) ?_ ?_
              rotate_left
              · simp only [Act.put, List.setIfInBounds_toArray, List.set_cons_zero, List.set_cons_succ, i64_w, i32_w]
                rfl
              refine pure_ (i := 18) (N := some 66) (v := undef) (a' := ?_) #[true, true, true, true, true, true, true, true, true, true, true, true, true, true, true, true, true, true, true, false, false, false, false] rfl rfl (by kernel_rfl) (fun _ _ _ h => h) (Or.inr ⟨by rfl, rfl⟩) ?_ ?_
              rotate_left
              · simp only [Act.put, List.setIfInBounds_toArray, List.set_cons_zero, List.set_cons_succ, i64_w, i32_w]
                rfl
              refine pure_ (i := 19) (N := some 67) (v := undef) (a' := ?_) #[true, true, true, true, true, true, true, true, true, true, true, true, true, true, true, true, true, true, true, true, false, false, false] rfl rfl (by kernel_rfl) (fun _ _ _ h => h) (Or.inr ⟨by rfl, rfl⟩) ?_ ?_
              rotate_left
              · simp only [Act.put, List.setIfInBounds_toArray, List.set_cons_zero, List.set_cons_succ, i64_w, i32_w]
                rfl
              refine pure_ (i := 20) (N := some 68) (v := undef) (a' := ?_) #[true, true, true, true, true, true, true, true, true, true, true, true, true, true, true, true, true, true, true, true, true, false, false] rfl rfl (by kernel_rfl) (fun _ _ _ h => h) (Or.inr ⟨by rfl, rfl⟩) ?_ ?_
              rotate_left
              · simp only [Act.put, List.setIfInBounds_toArray, List.set_cons_zero, List.set_cons_succ, i64_w, i32_w]
                rfl
              refine pure_ (i := 21) (N := some 69) (v := ?_) (a' := ?_) #[true, true, true, true, true, true, true, true, true, true, true, true, true, true, true, true, true, true, true, true, true, true, false] rfl rfl (by kernel_rfl) (fun _ _ _ h => h) (Or.inl ⟨by rfl, ?_⟩) ?_ ?_
              rotate_left
              · intro w'
                go_simp
                with_reducible rfl
              rotate_left
              · simp only [Act.put, List.setIfInBounds_toArray, List.set_cons_zero, List.set_cons_succ, i64_w, i32_w]
                rfl
              refine pure_ (i := 22) (N := some 70) (v := ?_) (a' := ?_) #[true, true, true, true, true, true, true, true, true, true, true, true, true, true, true, true, true, true, true, true, true, true, true] rfl rfl (by kernel_rfl) (fun _ _ _ h => h) (Or.inl ⟨by rfl, ?_⟩) ?_ ?_
              rotate_left
              · intro w'
                go_simp
                with_reducible rfl
              rotate_left
              · simp only [Act.put, List.setIfInBounds_toArray, List.set_cons_zero, List.set_cons_succ, i64_w, i32_w]
                rfl
              refine done_ (by kernel_rfl) ?_
              go_wp2
              go_roundw
              case rel => exact ⟨k + 1, by omega, by go_num, ⟨by rw [HN.out]; exact hs3⟩⟩
              case measure => simp [intOf]; omega
          · obtain rfl : k = xs.length := by omega
            rw [List.drop_length, items_nil, List.nil_append] at HS
            have HRS := Lib.hid HS.out.rs
            have HLW := Lib.hid HS.out.low
            clear HS
            have B1 := fun (w' : World) (h : RS w2 w' g T 0) => bool_rd w2 w' g T 0 HTb.out h
            have e1 : boolS 0 T = (is, 0, putB (t.size : Int) ++ (bytesOf t ++ [])) := by rw [← HT.out]; exact rd_bool is _
            rw [e1] at B1
            simp only at B1
            have B2 := fun (w' : World) (h : RS w2 w' g (putB (t.size : Int) ++ (bytesOf t ++ [])) 0) => text_rd w2 w' g _ 0 200 (bytes_app (putB_bytes _) (bytes_app (bytesOf_bytes t) (by simp))) h
            rw [rd_text t (by omega) []] at B2
            simp only at B2
            rw [str_bytesOf] at B2
            have B3 := fun (w' : World) (h : RS w2 w' g [] 0) => left_any w2 w' g [] 0 h
            have B4 := fun (w' : World) (h : RS w2 w' g [] 0) => end_rd w2 w' g [] 0 h
            have e4 : endS 0 [] = 0 := rfl
            rw [e4] at B4
            have b0 : (is == is) = true := by simp
            have HB1 := Lib.hid B1
            have HB2 := Lib.hid B2
            have HB3 := Lib.hid B3
            have HB4 := Lib.hid B4
            clear B1 B2 B3 B4 e1 e4
            go_wp2_with (first
              | (go_at_call 51; refine (HB1.out _ HRS.out).mono ?_; rintro e w4 ⟨rfl, hr4, hu4⟩)
              | (go_at_call 52; refine (HB2.out _ hr4).mono ?_; rintro e w5 ⟨rfl, hr5, hu5⟩)
              | (go_at_call 53; refine (HB3.out _ hr5).mono ?_; rintro e w6 ⟨rfl, rfl⟩)
              | (go_at_call 54; refine (HB4.out _ hr5).mono ?_; rintro e w7 ⟨rfl, hr7, hu7⟩)
              | (go_at_call 40; refine (awake1_any _).mono ?_; rintro e w8 ⟨rfl, hb8⟩))
            go_ret
            exact ⟨rfl, below_step (HL.out.trans (hr7.low.mono HL.out.size)) hb8⟩
end Go.Proofs.Ytplajmcjkddikaa.Back
