/- A range over a bound method (the receiver is the function value's first argument): one law for a loop that runs to its end; Each's rounds. -/
import Derived.Test.YtmjkgnlmdcmdbaaDoorSets3
import Derived.RangeFuncNested
import Derived.RangeFuncBound
import Derived.RangeFuncCalls
import Derived.RangeFuncLeaves
import Derived.Shelf.Abstract
import Derived.Shelf.RegionOpen
import Derived.WalkKit
import Derived.OwnWalkIn
import Derived.TacticsInMore
import Derived.LoopNIn
import Derived.LoopIn
namespace Go.Proofs.YtmjkgnlmdcmdbaaDoor.Each
open Go.RowKit Go.Proofs.YtmjkgnlmdcmdbaaDoorW.PrintWords Go.Proofs.YtmjkgnlmdcmdbaaDoorW.PrintMore Go.Proofs.YtmjkgnlmdcmdbaaDoor.Sets
set_option linter.unusedVariables false
set_option linter.unusedSimpArgs false
/-- the word of something that calls yield with the values vs, one by one, as long as the rounds go on -/
def Hands (m : Nat) (P : Program) (gf : Nat) (fst : Array Value) (Tb : World → Prop) (vs : List Value) : Prop :=
  ∀ (l : Nat) (K : Nat → World → Prop) (W : World), (∀ k W1, K k W1 → Tb W1) →
    (∀ k W1 v, vs[k]? = some v → K k W1 → YieldAt Fence.wide (m - 1) P l #[v] W1 fun e W' => e = .returned (.bool true) ∧ K (k + 1) W') →
    K 0 W → CallsIn Fence.wide m P gf (fst ++ #[.func (.yield l) #[] #[]]) W fun e W' => (∃ v, e = .returned v) ∧ K vs.length W'
/-- a round's body goes on, and nothing that is no cells is touched -/
def goesOn (I : Nat → World → Prop) (k : Nat) (W : World) : Exit → Act → World → Prop
  | .normal, _, W' => KeepsOthers W W' ∧ I (k + 1) W'
  | _, _, _ => False
theorem loop_first {P : Program} {n : Nat} {g : Operand} {t : Tmp} {assign body : Code} {Q : Exit → Act → World → Prop} {a : Act} {w : World}
    {gf : Nat} {fst : Array Value} (hg : a.eval g = .func (.func gf) fst #[]) (eg : ∀ args w, (callFunc gf args).run P w = .ok (.enter gf args) w)
    {Tb : World → Prop} {vs : List Value} (hh : Hands (n - 1) P gf fst Tb vs) (I : Nat → World → Prop)
    (hI : ∀ k W l o, w.heap.size ≤ l → I k W → I k (W.putObj l o)) (h0 : ∀ o1 o2, I 0 ((w.alloc o1).alloc o2)) (hT : ∀ k W, I k W → Tb W) (a₁ : Value → Act)
    (hassign : ∀ (l : Nat) (v : Value) (W : World) (K : Act → World → Prop), K (a₁ v) W → assign.wpIn (Fence.wide.inRound l) (n - 1 - 1) P (Exit.then K (fun _ _ _ => False)) { tmps := ((#[t] : Array Tmp).zip #[v]).foldl (fun t (p, v) => t.setIfInBounds p v) a.tmps, defers := [] } W)
    (hbody : ∀ (l k : Nat) (v : Value) (W : World), vs[k]? = some v → I k W → body.wpIn (Fence.wide.inRound l) (n - 1 - 1) P (goesOn I k W) (a₁ v) W)
    (hdone : ∀ (D : Nat) (W : World), w.heap.size ≤ D → I vs.length W → W.heap[D]? = some (.deferred (some [])) → Q .normal { a with defers := { target := .collected D, args := #[] } :: a.defers } W) :
    (Code.rangeFunc g #[t] assign body).wpIn Fence.wide n P Q a w := by
  refine wpIn_rangeFunc fun fn hfn => ?_
  let R : LoopState → Loop := fun st => { state := st, pending := none, fn, tmps := a.tmps, params := #[t], assign, body, defers := w.heap.size }
  obtain ⟨W1, hW1⟩ : ∃ W1, (w.alloc (.deferred (some []))).alloc (.loop (R .ready)) = W1 := ⟨_, rfl⟩
  have hL : W1.heap[w.heap.size + 1]? = some (.loop (R .ready)) := by
    rw [← hW1]
    have := World.alloc_heap_new (w.alloc (.deferred (some []))) (.loop (R .ready))
    rwa [World.size_alloc] at this
  have hD : W1.heap[w.heap.size]? = some (.deferred (some [])) := by
    rw [← hW1]
    exact (Below.heap_alloc _ _ _ (by simp)).trans (World.alloc_heap_new w _)
  have hI1 : I 0 W1 := by rw [← hW1]; exact h0 _ _
  refine ⟨w.heap.size + 1, [{ target := .collected w.heap.size, args := #[] }], W1, { target := .fn (.func gf) #[], args := fst ++ #[.func (.yield (w.heap.size + 1)) #[] #[]] }, W1, gf, fst ++ #[.func (.yield (w.heap.size + 1)) #[] #[]], W1, ?_, ?_, ?_, ?_, fun h => by simp [Fence.wide] at h, ?_⟩
  · rw [← hW1]
    exact run_enterLoop_outer _ _ _ _ _
  · simp only [resolve, rangeCall, hg]
    simp [go_sem, hg]
  · intro f' hf'
    trivial
  · simp [invoke, go_sem, eg]
  · refine CallsIn.mono (hh (w.heap.size + 1) (fun k W => I k W ∧ W.heap[w.heap.size + 1]? = some (.loop (R .ready)) ∧ W.heap[w.heap.size]? = some (.deferred (some []))) W1 (fun k W h => hT k W h.1) ?_ (by exact ⟨hI1, hL, hD⟩)) ?_
    · rintro k W v hv ⟨hi, hl, hd⟩
      have hlt : w.heap.size + 1 < W.heap.size := (Array.getElem?_eq_some_iff.1 hl).1
      refine ⟨fn, _, assign, body, run_yield hl rfl, roundIn_of_wpIn hfn ?_⟩
      refine hassign _ v W _ ?_
      refine ⟨_, run_beginRound hl rfl, ?_⟩
      obtain ⟨W2, hW2⟩ : ∃ W2, W.putObj (w.heap.size + 1) (.loop { R .ready with state := .busy }) = W2 := ⟨_, rfl⟩
      have hl2 : W2.heap[w.heap.size + 1]? = some (.loop (R .busy)) := by rw [← hW2]; exact World.putObj_heap_same hlt
      have hd2 : W2.heap[w.heap.size]? = some (.deferred (some [])) := by rw [← hW2]; exact (World.putObj_heap_other (by omega)).trans hd
      have hi2 : I k W2 := by rw [← hW2]; exact hI k W _ _ (by omega) hi
      rw [hW2]
      refine wpIn_mono (hbody _ k v W2 hv hi2) ?_
      intro e a3 W3 hp
      cases e with
      | normal =>
        obtain ⟨hk, hi3⟩ := hp
        have hl3 := hk.same _ _ hl2 rfl
        have hd3 := hk.same _ _ hd2 rfl
        refine ⟨_, _, run_endRound none hl3, rfl, hI _ _ _ _ (by omega) hi3, World.putObj_heap_same (Array.getElem?_eq_some_iff.1 hl3).1, (World.putObj_heap_other (by omega)).trans hd3⟩
      | ret => exact hp.elim
      | exit id => exact hp.elim
      | goto t => exact hp.elim
      | panic ch => exact hp.elim
      | outgrown => exact hp.elim
    · rintro e W ⟨⟨v, rfl⟩, hi, hl, hd⟩
      exact ⟨none, _, run_endLoop hl (fun h => by cases h), hdone _ _ (Nat.le_refl _) (hI _ _ _ _ (by omega) hi) ((World.putObj_heap_other (by omega)).trans hd)⟩
end Go.Proofs.YtmjkgnlmdcmdbaaDoor.Each
