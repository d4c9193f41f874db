/- Values of ints and bools alone (structs and arrays of them, to the bottom), as they come in: each leaf's cell; and slices of such. A closed fact 'flatOf P 6 t = some Ls' tells a type's leaves. -/
import Derived.WalkKit
import Derived.ProofKit
import Derived.OpenShut
import Derived.DataReads
import Derived.ChangeArms
import Derived.WideShapes
namespace Go.Proofs.Yteeaimbinhmjfaa.Flat
open Go Go.RowKit Go.ChangeShapes Go.WideShapes Go.ChangeAt
set_option linter.unusedVariables false
inductive Leaf where
  | int (k : IntKind)
  | bool
def Leaf.Ok : Leaf → Value → Prop
  | .int k, v => ∃ n, v = .int k n ∧ (Lit.int k n).wf = true
  | .bool, v => ∃ b, v = .bool b
def Leaves : List Leaf → List Value → Prop
  | [], [] => True
  | l :: ls, c :: cs => l.Ok c ∧ Leaves ls cs
  | _, _ => False
theorem Leaves.len : ∀ {ls : List Leaf} {cs : List Value}, Leaves ls cs → cs.length = ls.length
  | [], [], _ => rfl
  | _ :: _, _ :: _, h => by simp [Leaves.len h.2]
  | [], _ :: _, h => h.elim
  | _ :: _, [], h => h.elim
theorem Leaves.append : ∀ {ls ms : List Leaf} {cs ds : List Value}, Leaves ls cs → Leaves ms ds → Leaves (ls ++ ms) (cs ++ ds)
  | [], _, [], _, _, h => h
  | _ :: _, _, _ :: _, _, h, k => ⟨h.1, Leaves.append h.2 k⟩
  | [], _, _ :: _, _, h, _ => h.elim
  | _ :: _, _, [], _, h, _ => h.elim
theorem Leaves.cons {l : Leaf} {ls : List Leaf} {cs : List Value} (h : Leaves (l :: ls) cs) : ∃ c ds, cs = c :: ds ∧ l.Ok c ∧ Leaves ls ds := by
  cases cs with
  | nil => exact h.elim
  | cons c ds => exact ⟨c, ds, rfl, h.1, h.2⟩
theorem Leaves.nil {cs : List Value} (h : Leaves [] cs) : cs = [] := by
  cases cs with
  | nil => rfl
  | cons c ds => exact h.elim

/-- the fields' offsets are the sums of the leaves before them -/
def fits (P : Program) : Nat → List Field → List (List Leaf) → Bool
  | _, [], [] => true
  | o, f :: fs, L :: Ls => (f.offset == o) && (P.cellsOf f.type == L.length) && fits P (o + L.length) fs Ls
  | _, _, _ => false
def flatOf (P : Program) : Nat → TypeId → Option (List Leaf)
  | 0, _ => none
  | n + 1, t => match P.underlying t with
    | some .bool => some [.bool]
    | some (.int k) => some [.int k]
    | some (.struct fs) => (fs.toList.mapM fun f => flatOf P n f.type).bind fun Ls => if fits P 0 fs.toList Ls && (P.cellsOf t == Ls.flatten.length) then some Ls.flatten else none
    | some (.array m e) => (flatOf P n e).bind fun L => if (P.cellsOf e == L.length) && (P.cellsOf t == m * L.length) then some (List.replicate m L).flatten else none
    | _ => none

section
variable {H : Type} {enc : TypeId × Value → H} {P : Program} {w : World} {base : Nat} {spare : Nat → Bool} {held : Bool}

theorem leaves_fields (fuel : Nat) (rec : ∀ t cs x Ls, flatOf P fuel t = some Ls → (∃ m, DataW.trod enc P w base spare held m t cs = some x) → Leaves Ls cs) (m : Nat) :
    ∀ (fs : List Field) (Ls : List (List Leaf)) (o : Nat) (cs : List Value) (k : Nat) (xs : List (DataW H × List MemPlace)),
      (fs.mapM fun f => flatOf P fuel f.type) = some Ls → fits P o fs Ls = true → cs.length = o + Ls.flatten.length →
      (∀ (i : Nat) (f : Field), fs[i]? = some f → ∃ y, DataW.trod enc P w base spare held m f.type ((cs.drop f.offset).take (P.cellsOf f.type)) = some y) →
      Leaves Ls.flatten (cs.drop o)
  | [], Ls, o, cs, k, xs, hm, hf, hl, hr => by
    simp at hm; subst hm
    simp at hl ⊢
    rw [List.drop_of_length_le (by omega)]; trivial
  | f :: fs, Ls, o, cs, k, xs, hm, hf, hl, hr => by
    simp only [List.mapM_cons, Option.bind_eq_bind, Option.bind_eq_some_iff, Option.pure_def, Option.some.injEq] at hm
    obtain ⟨L, hL, Ls', hLs, rfl⟩ := hm
    simp only [fits, Bool.and_eq_true, beq_iff_eq] at hf
    obtain ⟨⟨ho, hc⟩, hf⟩ := hf
    simp only [List.flatten_cons, List.length_append] at hl
    obtain ⟨y, hy⟩ := hr 0 f rfl
    have h1 := rec f.type _ y L hL ⟨m, hy⟩
    have h2 := leaves_fields fuel rec m fs Ls' (o + L.length) cs k xs hLs hf (by omega) (fun i g hg => hr (i + 1) g (by simpa using hg))
    rw [ho, hc] at h1
    have e : cs.drop o = (cs.drop o).take L.length ++ cs.drop (o + L.length) := by
      rw [← List.drop_drop, List.take_append_drop]
    rw [e, List.flatten_cons]
    exact h1.append h2

theorem leaves_array (fuel : Nat) {e : TypeId} {L : List Leaf} (rec : ∀ cs x, (∃ m, DataW.trod enc P w base spare held m e cs = some x) → Leaves L cs) (hc : P.cellsOf e = L.length) (m : Nat) :
    ∀ (n o : Nat) (cs : List Value), cs.length = (o + n) * L.length →
      (∀ i, o ≤ i → i < o + n → ∃ y, DataW.trod enc P w base spare held m e ((cs.drop (i * P.cellsOf e)).take (P.cellsOf e)) = some y) →
      Leaves (List.replicate n L).flatten (cs.drop (o * L.length))
  | 0, o, cs, hl, hr => by
    simp at hl ⊢
    rw [List.drop_of_length_le (by omega)]; trivial
  | n + 1, o, cs, hl, hr => by
    obtain ⟨y, hy⟩ := hr o (Nat.le_refl _) (by omega)
    have h1 := rec _ y ⟨m, hy⟩
    have h2 := leaves_array fuel rec hc m n (o + 1) cs (by rw [hl]; congr 1; omega) (fun i h h' => hr i (by omega) (by omega))
    rw [hc] at h1
    have e' : cs.drop (o * L.length) = (cs.drop (o * L.length)).take L.length ++ cs.drop ((o + 1) * L.length) := by
      rw [Nat.succ_mul, ← List.drop_drop, List.take_append_drop]
    rw [e', List.replicate_succ, List.flatten_cons]
    exact h1.append h2

theorem leaves_of : ∀ (fuel : Nat) (t : TypeId) (cs : List Value) (x : DataW H × List MemPlace) (Ls : List Leaf),
    flatOf P fuel t = some Ls → (∃ m, DataW.trod enc P w base spare held m t cs = some x) → Leaves Ls cs
  | 0, _, _, _, _, h, _ => by simp [flatOf] at h
  | fuel + 1, t, cs, x, Ls, h, hm => by
    obtain ⟨m, hm⟩ := hm
    rw [flatOf] at h
    split at h
    · rename_i hu
      simp only [Option.some.injEq] at h; subst h
      cases m with
      | zero => simp [DataW.trod] at hm
      | succ n =>
        unfold DataW.trod at hm
        rw [hu] at hm
        split at hm <;> simp_all
        exact ⟨⟨_, rfl⟩, trivial⟩
    · rename_i k hu
      simp only [Option.some.injEq] at h; subst h
      obtain ⟨n, rfl, -, hw⟩ := DataW.trod_int hu hm
      exact ⟨⟨n, rfl, hw⟩, trivial⟩
    · rename_i fs hu
      simp only [Option.bind_eq_some_iff] at h
      obtain ⟨Lss, h1, h2⟩ := h
      split at h2
      · rename_i hf
        simp only [Option.some.injEq] at h2; subst h2
        simp only [Bool.and_eq_true, beq_iff_eq] at hf
        obtain ⟨xs, n, rfl, -, hl, hx, hg⟩ := DataW.trod_struct hu hm
        have := leaves_fields fuel (fun t cs x Ls h k => leaves_of fuel t cs x Ls h k) n fs.toList Lss 0 cs 0 xs h1 hf.1 (by omega) (fun i f hi => by
          have hi' : fs[i]? = some f := by simpa using hi
          have hlt : i < xs.length := by
            rw [hx]; exact (Array.getElem?_eq_some_iff.1 hi').1
          exact ⟨xs[i], by rw [hg i f hi', List.getElem?_eq_getElem hlt]⟩)
        simpa using this
      · cases h2
    · rename_i n e hu
      simp only [Option.bind_eq_some_iff] at h
      obtain ⟨L, h1, h2⟩ := h
      split at h2
      · rename_i hf
        simp only [Option.some.injEq] at h2; subst h2
        simp only [Bool.and_eq_true, beq_iff_eq] at hf
        obtain ⟨xs, m', rfl, -, hl, hx, hg⟩ := DataW.trod_array hu hm
        have := leaves_array (enc := enc) (P := P) (w := w) (base := base) (spare := spare) (held := held) fuel (fun cs x k => leaves_of fuel e cs x L h1 k) hf.1 m' n 0 cs (by rw [hl, hf.2, Nat.zero_add]) (fun i _ hi => by
          have hlt : i < xs.length := by omega
          exact ⟨xs[i], by rw [hg i (by omega), List.getElem?_eq_getElem hlt]⟩)
        simpa using this
      · cases h2
    · cases h

/-- A struct or an array by value, of ints and bools. -/
theorem open_flat {r : Reach} {b0 : Nat} {t : TypeId} {v : Value} {d : DataW H} {p : List MemPlace} {Ls : List Leaf} {fuel : Nat} (hfl : flatOf P fuel t = some Ls)
    (hs : (∃ fs, P.underlying t = some (.struct fs)) ∨ ∃ n e, P.underlying t = some (.array n e)) (hv : Value.okWide P w r b0 t v) (h : DataW.Trod enc P w base spare held t v d p) :
    ∃ cs : List Value, v = .agg cs.toArray ∧ Leaves Ls cs := by
  have : ∃ cs : Array Value, v = .agg cs := by
    rcases hs with ⟨fs, hu⟩ | ⟨n, e, hu⟩ <;> (simp only [Value.okWide, hu] at hv; obtain ⟨cs, h1, _⟩ := hv; exact ⟨cs, h1⟩)
  obtain ⟨cs, rfl⟩ := this
  obtain ⟨m, hm⟩ := h
  exact ⟨cs.toList, rfl, leaves_of fuel t _ _ Ls hfl ⟨m, by simpa [Value.cells] using hm⟩⟩

/-- A slice of such: each element's cells. -/
def FlatRow (w : World) (A : Option Addr) (n : Nat) (Ls : List Leaf) (xs : List (List Value)) : Prop :=
  xs.length = n ∧ (∀ (i : Nat) (c : List Value), xs[i]? = some c → Leaves Ls c) ∧ (0 < n → ∃ ad, A = some ad ∧ ∀ (i : Nat) (c : List Value), xs[i]? = some c → ∀ (j : Nat) (u : Value), c[j]? = some u → w.cell? (ad.add (i * Ls.length + j)) = some u)
theorem cells?_get {a : Addr} {n : Nat} {cs : List Value} (h : w.cells? base a n = some cs) : cs.length = n ∧ ∀ (j : Nat) (u : Value), cs[j]? = some u → w.cell? (a.add j) = some u := by
  unfold World.cells? at h
  split at h
  · refine ⟨by simpa using mapM_some_length h, fun j u hj => ?_⟩
    have hl := mapM_some_length h
    have hlt : j < n := by
      have := (List.getElem?_eq_some_iff.1 hj).1
      simpa [hl] using this
    have := mapM_some_get h j j (by simp [hlt])
    rw [this, hj]
  · cases h
theorem open_flats {r : Reach} {b0 : Nat} {t e : TypeId} {v : Value} {d : DataW H} {p : List MemPlace} {Ls : List Leaf} {fuel : Nat} (ht : P.underlying t = some (.slice e)) (hfl : flatOf P fuel e = some Ls) (hc : P.cellsOf e = Ls.length)
    (hv : Value.okWide P w r b0 t v) (h : DataW.Trod enc P w base spare held t v d p) :
    ∃ (A : Option Addr) (n c : Nat) (xs : List (List Value)), v = .slice A n c ∧ n ≤ c ∧ c ≤ maxLen ∧ FlatRow w A n Ls xs := by
  obtain ⟨A, n, c, rfl⟩ := okWide_slice ht hv
  obtain ⟨m, hm⟩ := h
  rcases DataW.trod_slice ht hm with ⟨h1, -⟩ | ⟨a, len, cap, elems, rest, m', rfl, h1, -, hb, hl, hcm, hel, hg, -⟩
  · simp [Value.cells] at h1
    obtain ⟨rfl, rfl, rfl⟩ := h1
    exact ⟨none, 0, 0, [], rfl, Nat.le_refl _, by unfold maxLen; omega, rfl, by simp, fun h => absurd h (by omega)⟩
  · simp [Value.cells] at h1
    obtain ⟨rfl, rfl, rfl⟩ := h1
    have hx : ∀ i, i < n → ∃ cs, w.cells? base (a.add (i * P.cellsOf e)) (P.cellsOf e) = some cs ∧ Leaves Ls cs := by
      intro i hi
      have := hg i hi
      rw [List.getElem?_eq_getElem (by omega), Option.bind_eq_some_iff] at this
      obtain ⟨cs, h2, h3⟩ := this
      exact ⟨cs, h2, leaves_of fuel e cs _ Ls hfl ⟨m', h3⟩⟩
    have hx' : ∀ i, ∃ cs, i < n → w.cells? base (a.add (i * P.cellsOf e)) (P.cellsOf e) = some cs ∧ Leaves Ls cs := by
      intro i
      by_cases hi : i < n
      · obtain ⟨cs, h⟩ := hx i hi; exact ⟨cs, fun _ => h⟩
      · exact ⟨[], fun h => absurd h hi⟩
    obtain ⟨f, hf⟩ := Classical.axiomOfChoice hx'
    refine ⟨some a, n, c, (List.range n).map f, rfl, hl, hcm, by simp, fun i cc hi => ?_, fun _ => ⟨a, rfl, fun i cc hi j u hj => ?_⟩⟩
    · simp only [List.getElem?_map, Option.map_eq_some_iff] at hi
      obtain ⟨i', hi', rfl⟩ := hi
      have hin : i' < n ∧ i' = i := by
        obtain ⟨h5, h6⟩ := List.getElem?_eq_some_iff.1 hi'
        simp at h5 h6; omega
      exact (hf i' hin.1).2
    · simp only [List.getElem?_map, Option.map_eq_some_iff] at hi
      obtain ⟨i', hi', rfl⟩ := hi
      have hin : i' < n ∧ i' = i := by
        obtain ⟨h5, h6⟩ := List.getElem?_eq_some_iff.1 hi'
        simp at h5 h6; omega
      obtain ⟨hin, rfl⟩ := hin
      have := (cells?_get (hf i' hin).1).2 j u hj
      rw [hc] at this
      have e : a.add (i' * Ls.length + j) = (a.add (i' * Ls.length)).add j := by
        by_cases h1 : i' * Ls.length = 0 <;> by_cases h2 : j = 0 <;> simp [Addr.add, h1, h2, Nat.add_assoc]
      rw [e]; exact this
end
end Go.Proofs.Yteeaimbinhmjfaa.Flat
