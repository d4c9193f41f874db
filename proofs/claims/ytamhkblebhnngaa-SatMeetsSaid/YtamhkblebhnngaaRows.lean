/-
  No cell of these rows narrows 'for every input' (looked for: loops, veiled, ifaces, maps, wideKeys, modest, calm, conditions, laid).
  DERIVED. THE GIVEN ROWS OF THIS SEAT. 6 by the template 'for every input the law returns true; each argument reads behind the call as it read before'; 0 by the template 'total and deterministic' (their statements: YtamhkblebhnngaaTotals.lean).
  GIVEN WITH THE SEED: the statements are not yours to turn. If you find one false, say at which input.
  Laid BY PROGRAM, IN A SANDBOX (cutbox-rows.mjs): the forced cells as the released guide's own fill.sh prints them over the translation 563ac75ecb6a9896… (all of the seat's roots in one cut). By AI agents, Wed Nov 11 2026. No macro, syntax, notation, axiom, sorry.
-/
import Derived.Test.YtamhkblebhnngaaChecked
import GoSem.Claim
import GoSem.ClaimJoined
import GoSem.ClaimMapViews
import Derived.JoinedTies
import Derived.KernelRfl
namespace Go.Proofs.Ytamhkblebhnngaa
/- THE CELL 'sum', in the pinned program and in every row, IS THE sha256 OF THE DUMP (.gsa) THAT YtamhkblebhnngaaProg.lean LOADS. Nothing in Lean hashes anything: it is a label: what it is worth is what the hold of that sum in a sandbox is worth. -/
noncomputable def Try.pinned : Pinned := { name := "ytamhkblebhnngaa", sum := "563ac75ecb6a989660e187c19ec3c5a6fe3bd7c5aa074bd7a4ad1f4353a91cea", checked := Try.checked }
namespace Rows
def none {H : Type} : Left H := { results := [], args := [] }

/-- 'berthagelaw01.WireApart': WHATEVER THE INPUT: true; the input reads as it did. -/
def wireApartSpec : ChangeSpec := { name := "wireApart", fn := fun _ => fun
  | [d1, d2] => { results := [.lit (.bool true)], args := [d1, d2] }
  | _ => none }
def wireApartRow : OpenClaim := { program := "ytamhkblebhnngaa", sum := "563ac75ecb6a989660e187c19ec3c5a6fe3bd7c5aa074bd7a4ad1f4353a91cea", func := "berthage/berthagelaw01.WireApart", spec := "wireApart", apart := false }
def WireApartSaid : Prop := wireApartRow.holds Try.pinned (OpenSpec.ofChange wireApartSpec)

/-- ITS FALSE NEIGHBOUR: 'it returns false'. Refute it at one input. -/
def wireApartWrong : ChangeSpec := { name := "wireApart", fn := fun _ => fun
  | [d1, d2] => { results := [.lit (.bool false)], args := [d1, d2] }
  | _ => none }
def WireApartWrongFalsely : Prop := wireApartRow.holds Try.pinned (OpenSpec.ofChange wireApartWrong)

/-- 'berthagelaw29.ScoreSlows': WHATEVER THE INPUT: true; the input reads as it did. -/
def scoreSlowsSpec : ChangeSpec := { name := "scoreSlows", fn := fun _ => fun
  | [d1, d2, d3, d4] => { results := [.lit (.bool true)], args := [d1, d2, d3, d4] }
  | _ => none }
def scoreSlowsRow : OpenClaim := { program := "ytamhkblebhnngaa", sum := "563ac75ecb6a989660e187c19ec3c5a6fe3bd7c5aa074bd7a4ad1f4353a91cea", func := "berthage/berthagelaw29.ScoreSlows", spec := "scoreSlows", apart := false }
def ScoreSlowsSaid : Prop := scoreSlowsRow.holds Try.pinned (OpenSpec.ofChange scoreSlowsSpec)

/-- ITS FALSE NEIGHBOUR: 'it returns false'. Refute it at one input. -/
def scoreSlowsWrong : ChangeSpec := { name := "scoreSlows", fn := fun _ => fun
  | [d1, d2, d3, d4] => { results := [.lit (.bool false)], args := [d1, d2, d3, d4] }
  | _ => none }
def ScoreSlowsWrongFalsely : Prop := scoreSlowsRow.holds Try.pinned (OpenSpec.ofChange scoreSlowsWrong)

/-- 'berthagelaw02.SatSums': WHATEVER THE INPUT: true; the input reads as it did. -/
def satSumsSpec : ChangeSpec := { name := "satSums", fn := fun _ => fun
  | [d] => { results := [.lit (.bool true)], args := [d] }
  | _ => none }
def satSumsRow : OpenClaim := { program := "ytamhkblebhnngaa", sum := "563ac75ecb6a989660e187c19ec3c5a6fe3bd7c5aa074bd7a4ad1f4353a91cea", func := "berthage/berthagelaw02.SatSums", spec := "satSums", apart := false }
def SatSumsSaid : Prop := satSumsRow.holds Try.pinned (OpenSpec.ofChange satSumsSpec)

/-- ITS FALSE NEIGHBOUR: 'it returns false'. Refute it at one input. -/
def satSumsWrong : ChangeSpec := { name := "satSums", fn := fun _ => fun
  | [d] => { results := [.lit (.bool false)], args := [d] }
  | _ => none }
def SatSumsWrongFalsely : Prop := satSumsRow.holds Try.pinned (OpenSpec.ofChange satSumsWrong)

/-- 'berthagelaw02.SatParts': WHATEVER THE INPUT: true; the input reads as it did. -/
def satPartsSpec : ChangeSpec := { name := "satParts", fn := fun _ => fun
  | [d1, d2] => { results := [.lit (.bool true)], args := [d1, d2] }
  | _ => none }
def satPartsRow : OpenClaim := { program := "ytamhkblebhnngaa", sum := "563ac75ecb6a989660e187c19ec3c5a6fe3bd7c5aa074bd7a4ad1f4353a91cea", func := "berthage/berthagelaw02.SatParts", spec := "satParts", apart := false }
def SatPartsSaid : Prop := satPartsRow.holds Try.pinned (OpenSpec.ofChange satPartsSpec)

/-- ITS FALSE NEIGHBOUR: 'it returns false'. Refute it at one input. -/
def satPartsWrong : ChangeSpec := { name := "satParts", fn := fun _ => fun
  | [d1, d2] => { results := [.lit (.bool false)], args := [d1, d2] }
  | _ => none }
def SatPartsWrongFalsely : Prop := satPartsRow.holds Try.pinned (OpenSpec.ofChange satPartsWrong)

/-- 'berthagelaw02.SatMeets': WHATEVER THE INPUT: true; the input reads as it did. -/
def satMeetsSpec : ChangeSpec := { name := "satMeets", fn := fun _ => fun
  | [d1, d2, d3, d4] => { results := [.lit (.bool true)], args := [d1, d2, d3, d4] }
  | _ => none }
def satMeetsRow : OpenClaim := { program := "ytamhkblebhnngaa", sum := "563ac75ecb6a989660e187c19ec3c5a6fe3bd7c5aa074bd7a4ad1f4353a91cea", func := "berthage/berthagelaw02.SatMeets", spec := "satMeets", apart := false }
def SatMeetsSaid : Prop := satMeetsRow.holds Try.pinned (OpenSpec.ofChange satMeetsSpec)

/-- ITS FALSE NEIGHBOUR: 'it returns false'. Refute it at one input. -/
def satMeetsWrong : ChangeSpec := { name := "satMeets", fn := fun _ => fun
  | [d1, d2, d3, d4] => { results := [.lit (.bool false)], args := [d1, d2, d3, d4] }
  | _ => none }
def SatMeetsWrongFalsely : Prop := satMeetsRow.holds Try.pinned (OpenSpec.ofChange satMeetsWrong)

/-- 'berthagelaw01.WirePuts': WHATEVER THE INPUT: true; the input reads as it did. -/
def wirePutsSpec : ChangeSpec := { name := "wirePuts", fn := fun _ => fun
  | [d1, d2, d3, d4] => { results := [.lit (.bool true)], args := [d1, d2, d3, d4] }
  | _ => none }
def wirePutsRow : OpenClaim := { program := "ytamhkblebhnngaa", sum := "563ac75ecb6a989660e187c19ec3c5a6fe3bd7c5aa074bd7a4ad1f4353a91cea", func := "berthage/berthagelaw01.WirePuts", spec := "wirePuts", apart := false }
def WirePutsSaid : Prop := wirePutsRow.holds Try.pinned (OpenSpec.ofChange wirePutsSpec)

/-- ITS FALSE NEIGHBOUR: 'it returns false'. Refute it at one input. -/
def wirePutsWrong : ChangeSpec := { name := "wirePuts", fn := fun _ => fun
  | [d1, d2, d3, d4] => { results := [.lit (.bool false)], args := [d1, d2, d3, d4] }
  | _ => none }
def WirePutsWrongFalsely : Prop := wirePutsRow.holds Try.pinned (OpenSpec.ofChange wirePutsWrong)

/- THE SECOND FORM. 'bulk': how many values and letters a reading holds, each counted each time it is reached (what is shared counts as often as it is met; a slice's spare places count too). A statement '..UptoSaid' is the law's where the arguments, and the package variables that the reading takes, are together of bulk at most 1048576: NARROWER than '..Said'. Prove '..Said' where nothing that the law and all that it calls make is longer than what came in: it says more and counts as full. Else prove '..UptoSaid'. A law counts once. -/
mutual
def uptoBulk {H : Type} : DataW H → Nat
  | .lit (.string bytes) => bytes.length + 1
  | .lit _ => 1
  | .nil => 1
  | .ptr d => uptoBulk d + 1
  | .slice elems spare => uptoBulkAll elems + uptoBulkAll spare + 1
  | .agg parts => uptoBulkAll parts + 1
  | .iface _ d => uptoBulk d + 1
  | .map entries => uptoBulkEntries entries + 1
  | .held _ => 1
def uptoBulkAll {H : Type} : List (DataW H) → Nat
  | [] => 0
  | d :: r => uptoBulk d + uptoBulkAll r
def uptoBulkEntries {H : Type} : List (Lit × DataW H) → Nat
  | [] => 0
  | x :: r => uptoBulkEntry x + uptoBulkEntries r
def uptoBulkEntry {H : Type} : Lit × DataW H → Nat
  | (.string bytes, d) => bytes.length + uptoBulk d + 1
  | (_, d) => uptoBulk d + 1
 end
def uptoSmall : (H : Type) → List (DataW H) → Bool := fun _ ds => decide (uptoBulkAll ds ≤ 1048576)
def OpenSpec.upto (s : _root_.Go.ChangeSpec) : _root_.Go.OpenSpec := { _root_.Go.OpenSpec.ofChange s with cond := some uptoSmall }

/-- 'berthagelaw01.WireApart', WHERE WHAT IT READS IS OF BULK AT MOST 1048576: true; the input reads as it did. -/
def wireApartUptoRow : OpenClaim := { program := "ytamhkblebhnngaa", sum := "563ac75ecb6a989660e187c19ec3c5a6fe3bd7c5aa074bd7a4ad1f4353a91cea", func := "berthage/berthagelaw01.WireApart", spec := "wireApart", apart := false, narrowed := true }
def WireApartUptoSaid : Prop := wireApartUptoRow.holds Try.pinned (OpenSpec.upto wireApartSpec)

/-- 'berthagelaw29.ScoreSlows', WHERE WHAT IT READS IS OF BULK AT MOST 1048576: true; the input reads as it did. -/
def scoreSlowsUptoRow : OpenClaim := { program := "ytamhkblebhnngaa", sum := "563ac75ecb6a989660e187c19ec3c5a6fe3bd7c5aa074bd7a4ad1f4353a91cea", func := "berthage/berthagelaw29.ScoreSlows", spec := "scoreSlows", apart := false, narrowed := true }
def ScoreSlowsUptoSaid : Prop := scoreSlowsUptoRow.holds Try.pinned (OpenSpec.upto scoreSlowsSpec)

/-- 'berthagelaw02.SatSums', WHERE WHAT IT READS IS OF BULK AT MOST 1048576: true; the input reads as it did. -/
def satSumsUptoRow : OpenClaim := { program := "ytamhkblebhnngaa", sum := "563ac75ecb6a989660e187c19ec3c5a6fe3bd7c5aa074bd7a4ad1f4353a91cea", func := "berthage/berthagelaw02.SatSums", spec := "satSums", apart := false, narrowed := true }
def SatSumsUptoSaid : Prop := satSumsUptoRow.holds Try.pinned (OpenSpec.upto satSumsSpec)

/-- 'berthagelaw02.SatParts', WHERE WHAT IT READS IS OF BULK AT MOST 1048576: true; the input reads as it did. -/
def satPartsUptoRow : OpenClaim := { program := "ytamhkblebhnngaa", sum := "563ac75ecb6a989660e187c19ec3c5a6fe3bd7c5aa074bd7a4ad1f4353a91cea", func := "berthage/berthagelaw02.SatParts", spec := "satParts", apart := false, narrowed := true }
def SatPartsUptoSaid : Prop := satPartsUptoRow.holds Try.pinned (OpenSpec.upto satPartsSpec)

/-- 'berthagelaw02.SatMeets', WHERE WHAT IT READS IS OF BULK AT MOST 1048576: true; the input reads as it did. -/
def satMeetsUptoRow : OpenClaim := { program := "ytamhkblebhnngaa", sum := "563ac75ecb6a989660e187c19ec3c5a6fe3bd7c5aa074bd7a4ad1f4353a91cea", func := "berthage/berthagelaw02.SatMeets", spec := "satMeets", apart := false, narrowed := true }
def SatMeetsUptoSaid : Prop := satMeetsUptoRow.holds Try.pinned (OpenSpec.upto satMeetsSpec)

/-- 'berthagelaw01.WirePuts', WHERE WHAT IT READS IS OF BULK AT MOST 1048576: true; the input reads as it did. -/
def wirePutsUptoRow : OpenClaim := { program := "ytamhkblebhnngaa", sum := "563ac75ecb6a989660e187c19ec3c5a6fe3bd7c5aa074bd7a4ad1f4353a91cea", func := "berthage/berthagelaw01.WirePuts", spec := "wirePuts", apart := false, narrowed := true }
def WirePutsUptoSaid : Prop := wirePutsUptoRow.holds Try.pinned (OpenSpec.upto wirePutsSpec)

end Rows
end Go.Proofs.Ytamhkblebhnngaa
