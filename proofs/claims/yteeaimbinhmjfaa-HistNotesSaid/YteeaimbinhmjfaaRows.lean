/-
  No cell of these rows narrows 'for every input' (looked for: loops, veiled, ifaces, maps, wideKeys, modest, calm, conditions, laid).
  DERIVED. THE GIVEN ROWS OF THIS SEAT. 3 by the template 'for every input the law returns true; each argument reads behind the call as it read before'; 0 by the template 'total and deterministic' (their statements: YteeaimbinhmjfaaTotals.lean).
  GIVEN WITH THE SEED: the statements are not yours to turn. If you find one false, say at which input.
  Laid BY PROGRAM, IN A SANDBOX (cutbox-rows.mjs): the forced cells as the released guide's own fill.sh prints them over the translation 5595f927ddabb22b… (all of the seat's roots in one cut). By AI agents, Wed Nov 11 2026. No macro, syntax, notation, axiom, sorry.
-/
import Derived.Test.YteeaimbinhmjfaaChecked
import GoSem.Claim
import GoSem.ClaimJoined
import GoSem.ClaimMapViews
import Derived.JoinedTies
import Derived.KernelRfl
namespace Go.Proofs.Yteeaimbinhmjfaa
/- THE CELL 'sum', in the pinned program and in every row, IS THE sha256 OF THE DUMP (.gsa) THAT YteeaimbinhmjfaaProg.lean LOADS. Nothing in Lean hashes anything: it is a label: what it is worth is what the hold of that sum in a sandbox is worth. -/
noncomputable def Try.pinned : Pinned := { name := "yteeaimbinhmjfaa", sum := "5595f927ddabb22b613cab06507fa6d44db14fc5379673315f12b6685ba71fc8", checked := Try.checked }
namespace Rows
def none {H : Type} : Left H := { results := [], args := [] }

/-- 'berthagelaw19.HistSounds': WHATEVER THE INPUT: true; the input reads as it did. -/
def histSoundsSpec : ChangeSpec := { name := "histSounds", fn := fun _ => fun
  | [d] => { results := [.lit (.bool true)], args := [d] }
  | _ => none }
def histSoundsRow : OpenClaim := { program := "yteeaimbinhmjfaa", sum := "5595f927ddabb22b613cab06507fa6d44db14fc5379673315f12b6685ba71fc8", func := "berthage/berthagelaw19.HistSounds", spec := "histSounds", apart := false }
def HistSoundsSaid : Prop := histSoundsRow.holds Try.pinned (OpenSpec.ofChange histSoundsSpec)

/-- ITS FALSE NEIGHBOUR: 'it returns false'. Refute it at one input. -/
def histSoundsWrong : ChangeSpec := { name := "histSounds", fn := fun _ => fun
  | [d] => { results := [.lit (.bool false)], args := [d] }
  | _ => none }
def HistSoundsWrongFalsely : Prop := histSoundsRow.holds Try.pinned (OpenSpec.ofChange histSoundsWrong)

/-- 'berthagelaw19.HistNotes': WHATEVER THE INPUT: true; the input reads as it did. -/
def histNotesSpec : ChangeSpec := { name := "histNotes", fn := fun _ => fun
  | [d1, d2, d3, d4] => { results := [.lit (.bool true)], args := [d1, d2, d3, d4] }
  | _ => none }
def histNotesRow : OpenClaim := { program := "yteeaimbinhmjfaa", sum := "5595f927ddabb22b613cab06507fa6d44db14fc5379673315f12b6685ba71fc8", func := "berthage/berthagelaw19.HistNotes", spec := "histNotes", apart := false }
def HistNotesSaid : Prop := histNotesRow.holds Try.pinned (OpenSpec.ofChange histNotesSpec)

/-- ITS FALSE NEIGHBOUR: 'it returns false'. Refute it at one input. -/
def histNotesWrong : ChangeSpec := { name := "histNotes", fn := fun _ => fun
  | [d1, d2, d3, d4] => { results := [.lit (.bool false)], args := [d1, d2, d3, d4] }
  | _ => none }
def HistNotesWrongFalsely : Prop := histNotesRow.holds Try.pinned (OpenSpec.ofChange histNotesWrong)

/-- 'berthagelaw19.HistEarly': WHATEVER THE INPUT: true; the input reads as it did. -/
def histEarlySpec : ChangeSpec := { name := "histEarly", fn := fun _ => fun
  | [d1, d2, d3] => { results := [.lit (.bool true)], args := [d1, d2, d3] }
  | _ => none }
def histEarlyRow : OpenClaim := { program := "yteeaimbinhmjfaa", sum := "5595f927ddabb22b613cab06507fa6d44db14fc5379673315f12b6685ba71fc8", func := "berthage/berthagelaw19.HistEarly", spec := "histEarly", apart := false }
def HistEarlySaid : Prop := histEarlyRow.holds Try.pinned (OpenSpec.ofChange histEarlySpec)

/-- ITS FALSE NEIGHBOUR: 'it returns false'. Refute it at one input. -/
def histEarlyWrong : ChangeSpec := { name := "histEarly", fn := fun _ => fun
  | [d1, d2, d3] => { results := [.lit (.bool false)], args := [d1, d2, d3] }
  | _ => none }
def HistEarlyWrongFalsely : Prop := histEarlyRow.holds Try.pinned (OpenSpec.ofChange histEarlyWrong)

/- THE SECOND FORM. 'bulk': how many values and letters a reading holds, each counted each time it is reached (what is shared counts as often as it is met; a slice's spare places count too). A statement '..UptoSaid' is the law's where the arguments, and the package variables that the reading takes, are together of bulk at most 1048576: NARROWER than '..Said'. Prove '..Said' where nothing that the law and all that it calls make is longer than what came in: it says more and counts as full. Else prove '..UptoSaid'. A law counts once. -/
mutual
def uptoBulk {H : Type} : DataW H → Nat
  | .lit (.string bytes) => bytes.length + 1
  | .lit _ => 1
  | .nil => 1
  | .ptr d => uptoBulk d + 1
  | .slice elems spare => uptoBulkAll elems + uptoBulkAll spare + 1
  | .agg parts => uptoBulkAll parts + 1
  | .iface _ d => uptoBulk d + 1
  | .map entries => uptoBulkEntries entries + 1
  | .held _ => 1
def uptoBulkAll {H : Type} : List (DataW H) → Nat
  | [] => 0
  | d :: r => uptoBulk d + uptoBulkAll r
def uptoBulkEntries {H : Type} : List (Lit × DataW H) → Nat
  | [] => 0
  | x :: r => uptoBulkEntry x + uptoBulkEntries r
def uptoBulkEntry {H : Type} : Lit × DataW H → Nat
  | (.string bytes, d) => bytes.length + uptoBulk d + 1
  | (_, d) => uptoBulk d + 1
 end
def uptoSmall : (H : Type) → List (DataW H) → Bool := fun _ ds => decide (uptoBulkAll ds ≤ 1048576)
def OpenSpec.upto (s : _root_.Go.ChangeSpec) : _root_.Go.OpenSpec := { _root_.Go.OpenSpec.ofChange s with cond := some uptoSmall }

/-- 'berthagelaw19.HistSounds', WHERE WHAT IT READS IS OF BULK AT MOST 1048576: true; the input reads as it did. -/
def histSoundsUptoRow : OpenClaim := { program := "yteeaimbinhmjfaa", sum := "5595f927ddabb22b613cab06507fa6d44db14fc5379673315f12b6685ba71fc8", func := "berthage/berthagelaw19.HistSounds", spec := "histSounds", apart := false, narrowed := true }
def HistSoundsUptoSaid : Prop := histSoundsUptoRow.holds Try.pinned (OpenSpec.upto histSoundsSpec)

/-- 'berthagelaw19.HistNotes', WHERE WHAT IT READS IS OF BULK AT MOST 1048576: true; the input reads as it did. -/
def histNotesUptoRow : OpenClaim := { program := "yteeaimbinhmjfaa", sum := "5595f927ddabb22b613cab06507fa6d44db14fc5379673315f12b6685ba71fc8", func := "berthage/berthagelaw19.HistNotes", spec := "histNotes", apart := false, narrowed := true }
def HistNotesUptoSaid : Prop := histNotesUptoRow.holds Try.pinned (OpenSpec.upto histNotesSpec)

/-- 'berthagelaw19.HistEarly', WHERE WHAT IT READS IS OF BULK AT MOST 1048576: true; the input reads as it did. -/
def histEarlyUptoRow : OpenClaim := { program := "yteeaimbinhmjfaa", sum := "5595f927ddabb22b613cab06507fa6d44db14fc5379673315f12b6685ba71fc8", func := "berthage/berthagelaw19.HistEarly", spec := "histEarly", apart := false, narrowed := true }
def HistEarlyUptoSaid : Prop := histEarlyUptoRow.holds Try.pinned (OpenSpec.upto histEarlySpec)

end Rows
end Go.Proofs.Yteeaimbinhmjfaa
