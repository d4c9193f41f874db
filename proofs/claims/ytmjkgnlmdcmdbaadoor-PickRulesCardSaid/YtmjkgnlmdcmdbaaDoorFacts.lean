/- The closed facts of this seat's program, each asked once. -/
import Derived.Test.YtmjkgnlmdcmdbaaDoorRows
import Derived.JoinedOf
import Derived.KernelRfl
namespace Go.Proofs.YtmjkgnlmdcmdbaaDoor.Facts
open Go
theorem lifts_of {P : Program} {l : List Char} (h : P.initOrder.toList = l)
    (hm : (if (stripLifts liftWords (behindMainWord (wordsSigns l))).2.head? == some "cut".toList then (stripLifts liftWords (behindMainWord (wordsSigns l))).1 else []) = []) : P.headLifts = [] := by
  unfold Program.headLifts; rw [h]; exact hm
theorem finals_of {P : Program} {l : List Char} (h : P.initOrder.toList = l) (hl : P.headLifts = [])
    (hm : ((behindMainWord (wordsSigns l)).head? == some "carried".toList && (behindMainWord (wordsSigns l)).take 3 != ["carried".toList, "gc".toList, "cut".toList]) = false) : P.liftsFinal = false := by
  unfold Program.liftsFinal; rw [h, hl]; simp only [hm]; rfl
theorem made_of {P : Program} {l c : List Char} {rest : List (List Char)} (h : P.initOrder.toList = l) (hw : behindMainWord (wordsSigns l) = c :: rest)
    (h1 : (c == "gc".toList || c == "spec".toList) = false) (h2 : (c == "cut".toList) = true) : P.make = some .cut := by
  unfold Program.make; rw [h, hw]; simp only [h1, h2]; rfl
theorem enter_of {P : Program} {l c : List Char} {rest : List (List Char)} (h : P.initOrder.toList = l) (hw : behindMainWord (wordsSigns l) = c :: rest)
    (hm : ((stripLifts liftWords (c :: rest)).2.head? == some "cut".toList) = true) (hs : (stripLifts liftWords (c :: rest)).1 = []) (h1 : P.laysLater = false) (h2 : P.bearsReflect = false) (h3 : P.doorFits [] = true) : P.mayEnter = true := by
  unfold Program.mayEnter; rw [h, hw]; simp only [hm, hs, h1, h2, h3]; simp
def headSigns : List Nat := [104, 97, 114, 110, 101, 115, 115, 32, 48, 97, 101, 49, 50, 50, 52, 56, 49, 101, 99, 97, 100, 52, 54, 53, 55, 102, 52, 50, 49, 102, 57, 51, 98, 53, 57, 49, 97, 52, 97, 56, 99, 98, 51, 100, 101, 99, 55, 50, 48, 99, 52, 101, 49, 56, 56, 57, 56, 98, 52, 101, 100, 101, 55, 101, 99, 51, 53, 50, 56, 55, 100, 55, 32, 99, 117, 116, 32, 97, 116, 32, 98, 101, 114, 116, 104, 97, 103, 101, 47, 98, 101, 114, 116, 104, 97, 103, 101, 108, 97, 119, 48, 51, 46, 83, 101, 116, 70, 105, 114, 115, 116, 115, 32, 98, 101, 114, 116, 104, 97, 103, 101, 47, 98, 101, 114, 116, 104, 97, 103, 101, 108, 97, 119, 48, 51, 46, 83, 101, 116, 76, 105, 115, 116, 115, 32, 98, 101, 114, 116, 104, 97, 103, 101, 47, 98, 101, 114, 116, 104, 97, 103, 101, 108, 97, 119, 48, 51, 46, 83, 101, 116, 65, 112, 97, 114, 116, 32, 98, 101, 114, 116, 104, 97, 103, 101, 47, 98, 101, 114, 116, 104, 97, 103, 101, 108, 97, 119, 48, 51, 46, 83, 101, 116, 78, 111, 100, 101, 115, 32, 98, 101, 114, 116, 104, 97, 103, 101, 47, 98, 101, 114, 116, 104, 97, 103, 101, 108, 97, 119, 48, 54, 46, 78, 111, 100, 101, 66, 97, 99, 107, 32, 98, 101, 114, 116, 104, 97, 103, 101, 47, 98, 101, 114, 116, 104, 97, 103, 101, 108, 97, 119, 48, 54, 46, 78, 111, 100, 101, 80, 108, 97, 121, 115, 32, 98, 101, 114, 116, 104, 97, 103, 101, 47, 98, 101, 114, 116, 104, 97, 103, 101, 108, 97, 119, 48, 54, 46, 78, 111, 100, 101, 78, 111, 98, 111, 100, 121, 32, 98, 101, 114, 116, 104, 97, 103, 101, 47, 98, 101, 114, 116, 104, 97, 103, 101, 108, 97, 119, 52, 50, 46, 80, 111, 119, 101, 114, 83, 112, 97, 114, 101, 115, 32, 98, 101, 114, 116, 104, 97, 103, 101, 47, 98, 101, 114, 116, 104, 97, 103, 101, 108, 97, 119, 52, 50, 46, 80, 111, 119, 101, 114, 78, 111, 98, 111, 100, 121, 32, 98, 101, 114, 116, 104, 97, 103, 101, 47, 98, 101, 114, 116, 104, 97, 103, 101, 108, 97, 119, 52, 50, 46, 80, 111, 119, 101, 114, 80, 108, 97, 121, 115, 32, 98, 101, 114, 116, 104, 97, 103, 101, 47, 98, 101, 114, 116, 104, 97, 103, 101, 108, 97, 119, 51, 56, 46, 80, 105, 99, 107, 82, 117, 108, 101, 115, 32, 98, 101, 114, 116, 104, 97, 103, 101, 47, 98, 101, 114, 116, 104, 97, 103, 101, 108, 97, 119, 51, 56, 46, 80, 105, 99, 107, 82, 111, 119, 115, 32, 98, 101, 114, 116, 104, 97, 103, 101, 47, 98, 101, 114, 116, 104, 97, 103, 101, 108, 97, 119, 51, 56, 46, 80, 105, 99, 107, 84, 105, 103, 104, 116, 32, 98, 101, 114, 116, 104, 97, 103, 101, 47, 98, 101, 114, 116, 104, 97, 103, 101, 108, 97, 119, 51, 57, 46, 84, 111, 112, 111, 72, 111, 112, 115, 32, 98, 101, 114, 116, 104, 97, 103, 101, 47, 98, 101, 114, 116, 104, 97, 103, 101, 108, 97, 119, 51, 57, 46, 84, 111, 112, 111, 80, 105, 99, 107, 115, 32, 98, 101, 114, 116, 104, 97, 103, 101, 47, 98, 101, 114, 116, 104, 97, 103, 101, 108, 97, 119, 51, 57, 46, 84, 111, 112, 111, 78, 111, 98, 111, 100, 121]
def headCh : List Char := headSigns.map Char.ofNat
theorem head_is : Tryd.prog.initOrder = String.ofList headCh := by kernel_rfl
theorem list_of {s : String} {l : List Char} (h : s = String.ofList l) : s.toList = l := by rw [h, String.toList_ofList]
theorem head_list : Tryd.prog.initOrder.toList = headCh := list_of head_is
def w0 : List Char := (behindMainWord (wordsSigns headCh)).head?.getD []
def ws : List (List Char) := (behindMainWord (wordsSigns headCh)).tail
theorem head_words : behindMainWord (wordsSigns headCh) = w0 :: ws := by kernel_rfl
theorem laid : laidOutB Tryd.prog = true := by kernel_rfl
theorem rowed : mapsRowed Tryd.prog = true := by kernel_rfl
theorem stops : (Tryd.prog.stops == []) = true := by kernel_rfl
theorem stopKnobs : (Tryd.prog.stopKnobs == []) = true := by kernel_rfl
theorem heard : Tryd.prog.stopsHeard = true := by kernel_rfl
theorem lifts : Tryd.prog.headLifts = [] := lifts_of head_list (by kernel_rfl)
theorem enter : Tryd.prog.mayEnter = true := enter_of head_list head_words (by kernel_rfl) (by kernel_rfl) (by kernel_rfl) (by kernel_rfl) (by kernel_rfl)
theorem finals : Tryd.prog.liftsFinal = false := finals_of head_list lifts (by kernel_rfl)
theorem made : Tryd.prog.make = some .cut := made_of head_list head_words (by kernel_rfl) (by kernel_rfl)
theorem joined_of {P : Program} {f : FuncId} {fn : Func} {s : ChangeSpec} {c : OpenClaim}
    (g1 : c.wf (OpenSpec.ofChange s) = true) (g2 : laidOutB P = true) (g3 : mapsRowed P = true)
    (g4 : fn.params.all (P.readableRec ·) = true) (g5 : namedTie P c.named s.vars = true)
    (g6 : (c.stops == []) = true) (g7 : (P.stops == []) = true) (g8 : (c.knobs == []) = true) (g9 : (P.stopKnobs == []) = true)
    (g10 : (c.inPlace == P.inPlace f) = true) (g11 : (c.unfollowed == P.unfollowed f) = true) (g12 : (c.recurses == P.recurses f) = true) (g13 : (c.named == P.varsNamed f) = true)
    (g14 : (c.maps == (fn.params.toList ++ s.plain.varTypes P).any (P.mapsRec ·)) = true) (g15 : (c.ifaces == (fn.params.toList ++ s.plain.varTypes P).any (P.ifacesRec ·)) = true) (g16 : (c.mapsOut == P.mapsAmong fn.resultTypes.toList) = true)
    (g17 : (c.loops == (fn.params.toList ++ s.plain.varTypes P).any (P.loopsFrom ·)) = true) (g18 : (c.wideKeys == (fn.params.toList ++ s.plain.varTypes P ++ fn.resultTypes.toList).any (P.wideKeysFrom ·)) = true)
    (g19 : s.vars.all (P.varReadable ·) = true) (g20 : fn.resultTypes.all (fun t => P.readableRec t && decide (t < P.types.size)) = true) (g21 : (c.ifacesOut == fn.resultTypes.toList.any (P.ifacesRec ·)) = true) (g22 : (c.loopsOut == fn.resultTypes.toList.any (P.loopsFrom ·)) = true)
    (g23 : (c.plainKeys == P.plainKeys) = true) (g24 : c.shortTexts.isNone = true) (g25 : P.stopsHeard = true) (g26 : P.mayEnter = true) (g27 : P.liftsFinal = false) (g27' : c.lifted = false) (g28 : P.make = some .cut) (g28' : c.make = .cut)
    (g29 : (c.kinds == (if c.domain.isEmpty then [] else fn.params.toList.map fun t => match P.underlying t with | some (.int k) => some k | _ => none)) = true) (g30 : (c.pinned == c.pinnedBy) = true)
    (g31 : (c.veiled == (fn.params.toList ++ s.plain.varTypes P ++ fn.resultTypes.toList).any (P.veiledRec ·)) = true) (g32 : c.veiledFits P fn.params.toList (fn.params.toList ++ s.plain.varTypes P ++ fn.resultTypes.toList) = true) :
    joinedFacts P f fn s c = true := by
  unfold joinedFacts
  simp only [Bool.and_eq_true]
  exact ⟨⟨⟨⟨⟨⟨⟨⟨⟨⟨⟨⟨⟨⟨⟨⟨⟨⟨⟨⟨⟨⟨⟨⟨⟨⟨⟨⟨⟨⟨⟨g1, g2⟩, g3⟩, g4⟩, g5⟩, g6⟩, g7⟩, g8⟩, g9⟩, g10⟩, g11⟩, g12⟩, g13⟩, g14⟩, g15⟩, g16⟩, g17⟩, g18⟩, g19⟩, g20⟩, g21⟩, g22⟩, g23⟩, g24⟩, g25⟩, g26⟩, by rw [g27, g27']; rfl⟩, by rw [g28, g28']; decide⟩, g29⟩, g30⟩, g31⟩, g32⟩
theorem keys : Tryd.prog.plainKeys = true := by kernel_rfl
/-- The closed facts of a row of this seat. -/
theorem closed {f : FuncId} {fn : Func} {s : ChangeSpec} {c : OpenClaim}
    (g1 : c.wf (OpenSpec.ofChange s) = true)
    (g4 : fn.params.all (Tryd.prog.readableRec ·) = true) (g5 : namedTie Tryd.prog c.named s.vars = true)
    (g6 : (c.stops == []) = true) (g8 : (c.knobs == []) = true)
    (g10 : (c.inPlace == Tryd.prog.inPlace f) = true) (g11 : (c.unfollowed == Tryd.prog.unfollowed f) = true) (g12 : (c.recurses == Tryd.prog.recurses f) = true) (g13 : (c.named == Tryd.prog.varsNamed f) = true)
    (g14 : (c.maps == (fn.params.toList ++ s.plain.varTypes Tryd.prog).any (Tryd.prog.mapsRec ·)) = true) (g15 : (c.ifaces == (fn.params.toList ++ s.plain.varTypes Tryd.prog).any (Tryd.prog.ifacesRec ·)) = true) (g16 : (c.mapsOut == Tryd.prog.mapsAmong fn.resultTypes.toList) = true)
    (g17 : (c.loops == (fn.params.toList ++ s.plain.varTypes Tryd.prog).any (Tryd.prog.loopsFrom ·)) = true) (g18 : (c.wideKeys == (fn.params.toList ++ s.plain.varTypes Tryd.prog ++ fn.resultTypes.toList).any (Tryd.prog.wideKeysFrom ·)) = true)
    (g19 : s.vars.all (Tryd.prog.varReadable ·) = true) (g20 : fn.resultTypes.all (fun t => Tryd.prog.readableRec t && decide (t < Tryd.prog.types.size)) = true) (g21 : (c.ifacesOut == fn.resultTypes.toList.any (Tryd.prog.ifacesRec ·)) = true) (g22 : (c.loopsOut == fn.resultTypes.toList.any (Tryd.prog.loopsFrom ·)) = true)
    (g23 : (c.plainKeys == true) = true) (g24 : c.shortTexts.isNone = true) (g27' : c.lifted = false) (g28' : c.make = .cut)
    (g29 : (c.kinds == (if c.domain.isEmpty then [] else fn.params.toList.map fun t => match Tryd.prog.underlying t with | some (.int k) => some k | _ => none)) = true) (g30 : (c.pinned == c.pinnedBy) = true)
    (g31 : (c.veiled == (fn.params.toList ++ s.plain.varTypes Tryd.prog ++ fn.resultTypes.toList).any (Tryd.prog.veiledRec ·)) = true) (g32 : c.veiledFits Tryd.prog fn.params.toList (fn.params.toList ++ s.plain.varTypes Tryd.prog ++ fn.resultTypes.toList) = true) :
    joinedFacts Tryd.pinned.checked.prog f fn s c = true :=
  show joinedFacts Tryd.prog f fn s c = true from
  joined_of g1 laid rowed g4 g5 g6 stops g8 stopKnobs g10 g11 g12 g13 g14 g15 g16 g17 g18 g19 g20 g21 g22 (by rw [keys]; exact g23) g24 heard enter finals g27' made g28' g29 g30 g31 g32
end Go.Proofs.YtmjkgnlmdcmdbaaDoor.Facts
