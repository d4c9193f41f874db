/-
  No cell of these rows narrows 'for every input' (looked for: loops, veiled, ifaces, maps, wideKeys, modest, calm, conditions, laid).
  DERIVED. THE GIVEN ROWS OF THIS SEAT. 22 by the template 'for every input the law returns true; each argument reads behind the call as it read before'; 0 by the template 'total and deterministic' (their statements: YtplajmcjkddikaaTotals.lean).
  GIVEN WITH THE SEED: the statements are not yours to turn. If you find one false, say at which input.
  Laid BY PROGRAM, IN A SANDBOX (cutbox-rows.mjs): the forced cells as the released guide's own fill.sh prints them over the translation 28f789ceb917e8c7… (all of the seat's roots in one cut). By AI agents, Wed Nov 11 2026. No macro, syntax, notation, axiom, sorry.
-/
import Derived.Test.YtplajmcjkddikaaChecked
import GoSem.Claim
import GoSem.ClaimJoined
import GoSem.ClaimMapViews
import Derived.JoinedTies
import Derived.KernelRfl
namespace Go.Proofs.Ytplajmcjkddikaa
/- THE CELL 'sum', in the pinned program and in every row, IS THE sha256 OF THE DUMP (.gsa) THAT YtplajmcjkddikaaProg.lean LOADS. Nothing in Lean hashes anything: it is a label: what it is worth is what the hold of that sum in a sandbox is worth. -/
noncomputable def Try.pinned : Pinned := { name := "ytplajmcjkddikaa", sum := "28f789ceb917e8c74a9102e780e11e4231c2027877779a9f87f5f1ca409a0439", checked := Try.checked }
namespace Rows
def none {H : Type} : Left H := { results := [], args := [] }

/-- 'berthagelaw02.SatSums': WHATEVER THE INPUT: true; the input reads as it did. -/
def satSumsSpec : ChangeSpec := { name := "satSums", fn := fun _ => fun
  | [d] => { results := [.lit (.bool true)], args := [d] }
  | _ => none }
def satSumsRow : OpenClaim := { program := "ytplajmcjkddikaa", sum := "28f789ceb917e8c74a9102e780e11e4231c2027877779a9f87f5f1ca409a0439", func := "berthage/berthagelaw02.SatSums", spec := "satSums", apart := false }
def SatSumsSaid : Prop := satSumsRow.holds Try.pinned (OpenSpec.ofChange satSumsSpec)

/-- ITS FALSE NEIGHBOUR: 'it returns false'. Refute it at one input. -/
def satSumsWrong : ChangeSpec := { name := "satSums", fn := fun _ => fun
  | [d] => { results := [.lit (.bool false)], args := [d] }
  | _ => none }
def SatSumsWrongFalsely : Prop := satSumsRow.holds Try.pinned (OpenSpec.ofChange satSumsWrong)

/-- 'berthagelaw02.SatParts': WHATEVER THE INPUT: true; the input reads as it did. -/
def satPartsSpec : ChangeSpec := { name := "satParts", fn := fun _ => fun
  | [d1, d2] => { results := [.lit (.bool true)], args := [d1, d2] }
  | _ => none }
def satPartsRow : OpenClaim := { program := "ytplajmcjkddikaa", sum := "28f789ceb917e8c74a9102e780e11e4231c2027877779a9f87f5f1ca409a0439", func := "berthage/berthagelaw02.SatParts", spec := "satParts", apart := false }
def SatPartsSaid : Prop := satPartsRow.holds Try.pinned (OpenSpec.ofChange satPartsSpec)

/-- ITS FALSE NEIGHBOUR: 'it returns false'. Refute it at one input. -/
def satPartsWrong : ChangeSpec := { name := "satParts", fn := fun _ => fun
  | [d1, d2] => { results := [.lit (.bool false)], args := [d1, d2] }
  | _ => none }
def SatPartsWrongFalsely : Prop := satPartsRow.holds Try.pinned (OpenSpec.ofChange satPartsWrong)

/-- 'berthagelaw02.SatAreas': WHATEVER THE INPUT: true; the input reads as it did. -/
def satAreasSpec : ChangeSpec := { name := "satAreas", fn := fun _ => fun
  | [d1, d2, d3] => { results := [.lit (.bool true)], args := [d1, d2, d3] }
  | _ => none }
def satAreasRow : OpenClaim := { program := "ytplajmcjkddikaa", sum := "28f789ceb917e8c74a9102e780e11e4231c2027877779a9f87f5f1ca409a0439", func := "berthage/berthagelaw02.SatAreas", spec := "satAreas", apart := false }
def SatAreasSaid : Prop := satAreasRow.holds Try.pinned (OpenSpec.ofChange satAreasSpec)

/-- ITS FALSE NEIGHBOUR: 'it returns false'. Refute it at one input. -/
def satAreasWrong : ChangeSpec := { name := "satAreas", fn := fun _ => fun
  | [d1, d2, d3] => { results := [.lit (.bool false)], args := [d1, d2, d3] }
  | _ => none }
def SatAreasWrongFalsely : Prop := satAreasRow.holds Try.pinned (OpenSpec.ofChange satAreasWrong)

/-- 'berthagelaw29.ScoreSlows': WHATEVER THE INPUT: true; the input reads as it did. -/
def scoreSlowsSpec : ChangeSpec := { name := "scoreSlows", fn := fun _ => fun
  | [d1, d2, d3, d4] => { results := [.lit (.bool true)], args := [d1, d2, d3, d4] }
  | _ => none }
def scoreSlowsRow : OpenClaim := { program := "ytplajmcjkddikaa", sum := "28f789ceb917e8c74a9102e780e11e4231c2027877779a9f87f5f1ca409a0439", func := "berthage/berthagelaw29.ScoreSlows", spec := "scoreSlows", apart := false }
def ScoreSlowsSaid : Prop := scoreSlowsRow.holds Try.pinned (OpenSpec.ofChange scoreSlowsSpec)

/-- ITS FALSE NEIGHBOUR: 'it returns false'. Refute it at one input. -/
def scoreSlowsWrong : ChangeSpec := { name := "scoreSlows", fn := fun _ => fun
  | [d1, d2, d3, d4] => { results := [.lit (.bool false)], args := [d1, d2, d3, d4] }
  | _ => none }
def ScoreSlowsWrongFalsely : Prop := scoreSlowsRow.holds Try.pinned (OpenSpec.ofChange scoreSlowsWrong)

/-- 'berthagelaw01.WireApart': WHATEVER THE INPUT: true; the input reads as it did. -/
def wireApartSpec : ChangeSpec := { name := "wireApart", fn := fun _ => fun
  | [d1, d2] => { results := [.lit (.bool true)], args := [d1, d2] }
  | _ => none }
def wireApartRow : OpenClaim := { program := "ytplajmcjkddikaa", sum := "28f789ceb917e8c74a9102e780e11e4231c2027877779a9f87f5f1ca409a0439", func := "berthage/berthagelaw01.WireApart", spec := "wireApart", apart := false }
def WireApartSaid : Prop := wireApartRow.holds Try.pinned (OpenSpec.ofChange wireApartSpec)

/-- ITS FALSE NEIGHBOUR: 'it returns false'. Refute it at one input. -/
def wireApartWrong : ChangeSpec := { name := "wireApart", fn := fun _ => fun
  | [d1, d2] => { results := [.lit (.bool false)], args := [d1, d2] }
  | _ => none }
def WireApartWrongFalsely : Prop := wireApartRow.holds Try.pinned (OpenSpec.ofChange wireApartWrong)

/-- 'berthagelaw01.WirePuts': WHATEVER THE INPUT: true; the input reads as it did. -/
def wirePutsSpec : ChangeSpec := { name := "wirePuts", fn := fun _ => fun
  | [d1, d2, d3, d4] => { results := [.lit (.bool true)], args := [d1, d2, d3, d4] }
  | _ => none }
def wirePutsRow : OpenClaim := { program := "ytplajmcjkddikaa", sum := "28f789ceb917e8c74a9102e780e11e4231c2027877779a9f87f5f1ca409a0439", func := "berthage/berthagelaw01.WirePuts", spec := "wirePuts", apart := false }
def WirePutsSaid : Prop := wirePutsRow.holds Try.pinned (OpenSpec.ofChange wirePutsSpec)

/-- ITS FALSE NEIGHBOUR: 'it returns false'. Refute it at one input. -/
def wirePutsWrong : ChangeSpec := { name := "wirePuts", fn := fun _ => fun
  | [d1, d2, d3, d4] => { results := [.lit (.bool false)], args := [d1, d2, d3, d4] }
  | _ => none }
def WirePutsWrongFalsely : Prop := wirePutsRow.holds Try.pinned (OpenSpec.ofChange wirePutsWrong)

/-- 'berthagelaw01.WireBack': WHATEVER THE INPUT: true; the input reads as it did. -/
def wireBackSpec : ChangeSpec := { name := "wireBack", fn := fun _ => fun
  | [d1, d2, d3] => { results := [.lit (.bool true)], args := [d1, d2, d3] }
  | _ => none }
def wireBackRow : OpenClaim := { program := "ytplajmcjkddikaa", sum := "28f789ceb917e8c74a9102e780e11e4231c2027877779a9f87f5f1ca409a0439", func := "berthage/berthagelaw01.WireBack", spec := "wireBack", apart := false }
def WireBackSaid : Prop := wireBackRow.holds Try.pinned (OpenSpec.ofChange wireBackSpec)

/-- ITS FALSE NEIGHBOUR: 'it returns false'. Refute it at one input. -/
def wireBackWrong : ChangeSpec := { name := "wireBack", fn := fun _ => fun
  | [d1, d2, d3] => { results := [.lit (.bool false)], args := [d1, d2, d3] }
  | _ => none }
def WireBackWrongFalsely : Prop := wireBackRow.holds Try.pinned (OpenSpec.ofChange wireBackWrong)

/-- 'berthagelaw09.RuleNeeds': WHATEVER THE INPUT: true; the input reads as it did. -/
def ruleNeedsSpec : ChangeSpec := { name := "ruleNeeds", fn := fun _ => fun
  | [d] => { results := [.lit (.bool true)], args := [d] }
  | _ => none }
def ruleNeedsRow : OpenClaim := { program := "ytplajmcjkddikaa", sum := "28f789ceb917e8c74a9102e780e11e4231c2027877779a9f87f5f1ca409a0439", func := "berthage/berthagelaw09.RuleNeeds", spec := "ruleNeeds", apart := false }
def RuleNeedsSaid : Prop := ruleNeedsRow.holds Try.pinned (OpenSpec.ofChange ruleNeedsSpec)

/-- ITS FALSE NEIGHBOUR: 'it returns false'. Refute it at one input. -/
def ruleNeedsWrong : ChangeSpec := { name := "ruleNeeds", fn := fun _ => fun
  | [d] => { results := [.lit (.bool false)], args := [d] }
  | _ => none }
def RuleNeedsWrongFalsely : Prop := ruleNeedsRow.holds Try.pinned (OpenSpec.ofChange ruleNeedsWrong)

/-- 'berthagelaw09.RuleLanes': WHATEVER THE INPUT: true; the input reads as it did. -/
def ruleLanesSpec : ChangeSpec := { name := "ruleLanes", fn := fun _ => fun
  | [d1, d2] => { results := [.lit (.bool true)], args := [d1, d2] }
  | _ => none }
def ruleLanesRow : OpenClaim := { program := "ytplajmcjkddikaa", sum := "28f789ceb917e8c74a9102e780e11e4231c2027877779a9f87f5f1ca409a0439", func := "berthage/berthagelaw09.RuleLanes", spec := "ruleLanes", apart := false }
def RuleLanesSaid : Prop := ruleLanesRow.holds Try.pinned (OpenSpec.ofChange ruleLanesSpec)

/-- ITS FALSE NEIGHBOUR: 'it returns false'. Refute it at one input. -/
def ruleLanesWrong : ChangeSpec := { name := "ruleLanes", fn := fun _ => fun
  | [d1, d2] => { results := [.lit (.bool false)], args := [d1, d2] }
  | _ => none }
def RuleLanesWrongFalsely : Prop := ruleLanesRow.holds Try.pinned (OpenSpec.ofChange ruleLanesWrong)

/-- 'berthagelaw09.RuleCleans': WHATEVER THE INPUT: true; the input reads as it did. -/
def ruleCleansSpec : ChangeSpec := { name := "ruleCleans", fn := fun _ => fun
  | [d1, d2] => { results := [.lit (.bool true)], args := [d1, d2] }
  | _ => none }
def ruleCleansRow : OpenClaim := { program := "ytplajmcjkddikaa", sum := "28f789ceb917e8c74a9102e780e11e4231c2027877779a9f87f5f1ca409a0439", func := "berthage/berthagelaw09.RuleCleans", spec := "ruleCleans", apart := false }
def RuleCleansSaid : Prop := ruleCleansRow.holds Try.pinned (OpenSpec.ofChange ruleCleansSpec)

/-- ITS FALSE NEIGHBOUR: 'it returns false'. Refute it at one input. -/
def ruleCleansWrong : ChangeSpec := { name := "ruleCleans", fn := fun _ => fun
  | [d1, d2] => { results := [.lit (.bool false)], args := [d1, d2] }
  | _ => none }
def RuleCleansWrongFalsely : Prop := ruleCleansRow.holds Try.pinned (OpenSpec.ofChange ruleCleansWrong)

/-- 'berthagelaw16.LockGoes': WHATEVER THE INPUT: true; the input reads as it did. -/
def lockGoesSpec : ChangeSpec := { name := "lockGoes", fn := fun _ => fun
  | [d1, d2] => { results := [.lit (.bool true)], args := [d1, d2] }
  | _ => none }
def lockGoesRow : OpenClaim := { program := "ytplajmcjkddikaa", sum := "28f789ceb917e8c74a9102e780e11e4231c2027877779a9f87f5f1ca409a0439", func := "berthage/berthagelaw16.LockGoes", spec := "lockGoes", apart := false }
def LockGoesSaid : Prop := lockGoesRow.holds Try.pinned (OpenSpec.ofChange lockGoesSpec)

/-- ITS FALSE NEIGHBOUR: 'it returns false'. Refute it at one input. -/
def lockGoesWrong : ChangeSpec := { name := "lockGoes", fn := fun _ => fun
  | [d1, d2] => { results := [.lit (.bool false)], args := [d1, d2] }
  | _ => none }
def LockGoesWrongFalsely : Prop := lockGoesRow.holds Try.pinned (OpenSpec.ofChange lockGoesWrong)

/-- 'berthagelaw16.LockPlays': WHATEVER THE INPUT: true; the input reads as it did. -/
def lockPlaysSpec : ChangeSpec := { name := "lockPlays", fn := fun _ => fun
  | [d1, d2] => { results := [.lit (.bool true)], args := [d1, d2] }
  | _ => none }
def lockPlaysRow : OpenClaim := { program := "ytplajmcjkddikaa", sum := "28f789ceb917e8c74a9102e780e11e4231c2027877779a9f87f5f1ca409a0439", func := "berthage/berthagelaw16.LockPlays", spec := "lockPlays", apart := false }
def LockPlaysSaid : Prop := lockPlaysRow.holds Try.pinned (OpenSpec.ofChange lockPlaysSpec)

/-- ITS FALSE NEIGHBOUR: 'it returns false'. Refute it at one input. -/
def lockPlaysWrong : ChangeSpec := { name := "lockPlays", fn := fun _ => fun
  | [d1, d2] => { results := [.lit (.bool false)], args := [d1, d2] }
  | _ => none }
def LockPlaysWrongFalsely : Prop := lockPlaysRow.holds Try.pinned (OpenSpec.ofChange lockPlaysWrong)

/-- 'berthagelaw16.LockNobody': WHATEVER THE INPUT: true; the input reads as it did. -/
def lockNobodySpec : ChangeSpec := { name := "lockNobody", fn := fun _ => fun
  | [d1, d2] => { results := [.lit (.bool true)], args := [d1, d2] }
  | _ => none }
def lockNobodyRow : OpenClaim := { program := "ytplajmcjkddikaa", sum := "28f789ceb917e8c74a9102e780e11e4231c2027877779a9f87f5f1ca409a0439", func := "berthage/berthagelaw16.LockNobody", spec := "lockNobody", apart := false }
def LockNobodySaid : Prop := lockNobodyRow.holds Try.pinned (OpenSpec.ofChange lockNobodySpec)

/-- ITS FALSE NEIGHBOUR: 'it returns false'. Refute it at one input. -/
def lockNobodyWrong : ChangeSpec := { name := "lockNobody", fn := fun _ => fun
  | [d1, d2] => { results := [.lit (.bool false)], args := [d1, d2] }
  | _ => none }
def LockNobodyWrongFalsely : Prop := lockNobodyRow.holds Try.pinned (OpenSpec.ofChange lockNobodyWrong)

/-- 'berthagelaw11.ReplyTells': WHATEVER THE INPUT: true; the input reads as it did. -/
def replyTellsSpec : ChangeSpec := { name := "replyTells", fn := fun _ => fun
  | [d1, d2, d3, d4, d5] => { results := [.lit (.bool true)], args := [d1, d2, d3, d4, d5] }
  | _ => none }
def replyTellsRow : OpenClaim := { program := "ytplajmcjkddikaa", sum := "28f789ceb917e8c74a9102e780e11e4231c2027877779a9f87f5f1ca409a0439", func := "berthage/berthagelaw11.ReplyTells", spec := "replyTells", apart := false }
def ReplyTellsSaid : Prop := replyTellsRow.holds Try.pinned (OpenSpec.ofChange replyTellsSpec)

/-- ITS FALSE NEIGHBOUR: 'it returns false'. Refute it at one input. -/
def replyTellsWrong : ChangeSpec := { name := "replyTells", fn := fun _ => fun
  | [d1, d2, d3, d4, d5] => { results := [.lit (.bool false)], args := [d1, d2, d3, d4, d5] }
  | _ => none }
def ReplyTellsWrongFalsely : Prop := replyTellsRow.holds Try.pinned (OpenSpec.ofChange replyTellsWrong)

/-- 'berthagelaw11.ReplyBytes': WHATEVER THE INPUT: true; the input reads as it did. -/
def replyBytesSpec : ChangeSpec := { name := "replyBytes", fn := fun _ => fun
  | [d] => { results := [.lit (.bool true)], args := [d] }
  | _ => none }
def replyBytesRow : OpenClaim := { program := "ytplajmcjkddikaa", sum := "28f789ceb917e8c74a9102e780e11e4231c2027877779a9f87f5f1ca409a0439", func := "berthage/berthagelaw11.ReplyBytes", spec := "replyBytes", apart := false }
def ReplyBytesSaid : Prop := replyBytesRow.holds Try.pinned (OpenSpec.ofChange replyBytesSpec)

/-- ITS FALSE NEIGHBOUR: 'it returns false'. Refute it at one input. -/
def replyBytesWrong : ChangeSpec := { name := "replyBytes", fn := fun _ => fun
  | [d] => { results := [.lit (.bool false)], args := [d] }
  | _ => none }
def ReplyBytesWrongFalsely : Prop := replyBytesRow.holds Try.pinned (OpenSpec.ofChange replyBytesWrong)

/-- 'berthagelaw11.ReplyReads': WHATEVER THE INPUT: true; the input reads as it did. -/
def replyReadsSpec : ChangeSpec := { name := "replyReads", fn := fun _ => fun
  | [d1, d2] => { results := [.lit (.bool true)], args := [d1, d2] }
  | _ => none }
def replyReadsRow : OpenClaim := { program := "ytplajmcjkddikaa", sum := "28f789ceb917e8c74a9102e780e11e4231c2027877779a9f87f5f1ca409a0439", func := "berthage/berthagelaw11.ReplyReads", spec := "replyReads", apart := false }
def ReplyReadsSaid : Prop := replyReadsRow.holds Try.pinned (OpenSpec.ofChange replyReadsSpec)

/-- ITS FALSE NEIGHBOUR: 'it returns false'. Refute it at one input. -/
def replyReadsWrong : ChangeSpec := { name := "replyReads", fn := fun _ => fun
  | [d1, d2] => { results := [.lit (.bool false)], args := [d1, d2] }
  | _ => none }
def ReplyReadsWrongFalsely : Prop := replyReadsRow.holds Try.pinned (OpenSpec.ofChange replyReadsWrong)

/-- 'berthagelaw10.ReqApart': WHATEVER THE INPUT: true; the input reads as it did. -/
def reqApartSpec : ChangeSpec := { name := "reqApart", fn := fun _ => fun
  | [d1, d2] => { results := [.lit (.bool true)], args := [d1, d2] }
  | _ => none }
def reqApartRow : OpenClaim := { program := "ytplajmcjkddikaa", sum := "28f789ceb917e8c74a9102e780e11e4231c2027877779a9f87f5f1ca409a0439", func := "berthage/berthagelaw10.ReqApart", spec := "reqApart", apart := false }
def ReqApartSaid : Prop := reqApartRow.holds Try.pinned (OpenSpec.ofChange reqApartSpec)

/-- ITS FALSE NEIGHBOUR: 'it returns false'. Refute it at one input. -/
def reqApartWrong : ChangeSpec := { name := "reqApart", fn := fun _ => fun
  | [d1, d2] => { results := [.lit (.bool false)], args := [d1, d2] }
  | _ => none }
def ReqApartWrongFalsely : Prop := reqApartRow.holds Try.pinned (OpenSpec.ofChange reqApartWrong)

/-- 'berthagelaw10.ReqBytes': WHATEVER THE INPUT: true; the input reads as it did. -/
def reqBytesSpec : ChangeSpec := { name := "reqBytes", fn := fun _ => fun
  | [d] => { results := [.lit (.bool true)], args := [d] }
  | _ => none }
def reqBytesRow : OpenClaim := { program := "ytplajmcjkddikaa", sum := "28f789ceb917e8c74a9102e780e11e4231c2027877779a9f87f5f1ca409a0439", func := "berthage/berthagelaw10.ReqBytes", spec := "reqBytes", apart := false }
def ReqBytesSaid : Prop := reqBytesRow.holds Try.pinned (OpenSpec.ofChange reqBytesSpec)

/-- ITS FALSE NEIGHBOUR: 'it returns false'. Refute it at one input. -/
def reqBytesWrong : ChangeSpec := { name := "reqBytes", fn := fun _ => fun
  | [d] => { results := [.lit (.bool false)], args := [d] }
  | _ => none }
def ReqBytesWrongFalsely : Prop := reqBytesRow.holds Try.pinned (OpenSpec.ofChange reqBytesWrong)

/-- 'berthagelaw10.ReqReads': WHATEVER THE INPUT: true; the input reads as it did. -/
def reqReadsSpec : ChangeSpec := { name := "reqReads", fn := fun _ => fun
  | [d1, d2] => { results := [.lit (.bool true)], args := [d1, d2] }
  | _ => none }
def reqReadsRow : OpenClaim := { program := "ytplajmcjkddikaa", sum := "28f789ceb917e8c74a9102e780e11e4231c2027877779a9f87f5f1ca409a0439", func := "berthage/berthagelaw10.ReqReads", spec := "reqReads", apart := false }
def ReqReadsSaid : Prop := reqReadsRow.holds Try.pinned (OpenSpec.ofChange reqReadsSpec)

/-- ITS FALSE NEIGHBOUR: 'it returns false'. Refute it at one input. -/
def reqReadsWrong : ChangeSpec := { name := "reqReads", fn := fun _ => fun
  | [d1, d2] => { results := [.lit (.bool false)], args := [d1, d2] }
  | _ => none }
def ReqReadsWrongFalsely : Prop := reqReadsRow.holds Try.pinned (OpenSpec.ofChange reqReadsWrong)

/-- 'berthagelaw19.HistSounds': WHATEVER THE INPUT: true; the input reads as it did. -/
def histSoundsSpec : ChangeSpec := { name := "histSounds", fn := fun _ => fun
  | [d] => { results := [.lit (.bool true)], args := [d] }
  | _ => none }
def histSoundsRow : OpenClaim := { program := "ytplajmcjkddikaa", sum := "28f789ceb917e8c74a9102e780e11e4231c2027877779a9f87f5f1ca409a0439", func := "berthage/berthagelaw19.HistSounds", spec := "histSounds", apart := false }
def HistSoundsSaid : Prop := histSoundsRow.holds Try.pinned (OpenSpec.ofChange histSoundsSpec)

/-- ITS FALSE NEIGHBOUR: 'it returns false'. Refute it at one input. -/
def histSoundsWrong : ChangeSpec := { name := "histSounds", fn := fun _ => fun
  | [d] => { results := [.lit (.bool false)], args := [d] }
  | _ => none }
def HistSoundsWrongFalsely : Prop := histSoundsRow.holds Try.pinned (OpenSpec.ofChange histSoundsWrong)

/-- 'berthagelaw19.HistNotes': WHATEVER THE INPUT: true; the input reads as it did. -/
def histNotesSpec : ChangeSpec := { name := "histNotes", fn := fun _ => fun
  | [d1, d2, d3, d4] => { results := [.lit (.bool true)], args := [d1, d2, d3, d4] }
  | _ => none }
def histNotesRow : OpenClaim := { program := "ytplajmcjkddikaa", sum := "28f789ceb917e8c74a9102e780e11e4231c2027877779a9f87f5f1ca409a0439", func := "berthage/berthagelaw19.HistNotes", spec := "histNotes", apart := false }
def HistNotesSaid : Prop := histNotesRow.holds Try.pinned (OpenSpec.ofChange histNotesSpec)

/-- ITS FALSE NEIGHBOUR: 'it returns false'. Refute it at one input. -/
def histNotesWrong : ChangeSpec := { name := "histNotes", fn := fun _ => fun
  | [d1, d2, d3, d4] => { results := [.lit (.bool false)], args := [d1, d2, d3, d4] }
  | _ => none }
def HistNotesWrongFalsely : Prop := histNotesRow.holds Try.pinned (OpenSpec.ofChange histNotesWrong)

/-- 'berthagelaw19.HistEarly': WHATEVER THE INPUT: true; the input reads as it did. -/
def histEarlySpec : ChangeSpec := { name := "histEarly", fn := fun _ => fun
  | [d1, d2, d3] => { results := [.lit (.bool true)], args := [d1, d2, d3] }
  | _ => none }
def histEarlyRow : OpenClaim := { program := "ytplajmcjkddikaa", sum := "28f789ceb917e8c74a9102e780e11e4231c2027877779a9f87f5f1ca409a0439", func := "berthage/berthagelaw19.HistEarly", spec := "histEarly", apart := false }
def HistEarlySaid : Prop := histEarlyRow.holds Try.pinned (OpenSpec.ofChange histEarlySpec)

/-- ITS FALSE NEIGHBOUR: 'it returns false'. Refute it at one input. -/
def histEarlyWrong : ChangeSpec := { name := "histEarly", fn := fun _ => fun
  | [d1, d2, d3] => { results := [.lit (.bool false)], args := [d1, d2, d3] }
  | _ => none }
def HistEarlyWrongFalsely : Prop := histEarlyRow.holds Try.pinned (OpenSpec.ofChange histEarlyWrong)

/- THE SECOND FORM. 'bulk': how many values and letters a reading holds, each counted each time it is reached (what is shared counts as often as it is met; a slice's spare places count too). A statement '..UptoSaid' is the law's where the arguments, and the package variables that the reading takes, are together of bulk at most 1048576: NARROWER than '..Said'. Prove '..Said' where nothing that the law and all that it calls make is longer than what came in: it says more and counts as full. Else prove '..UptoSaid'. A law counts once. -/
mutual
def uptoBulk {H : Type} : DataW H → Nat
  | .lit (.string bytes) => bytes.length + 1
  | .lit _ => 1
  | .nil => 1
  | .ptr d => uptoBulk d + 1
  | .slice elems spare => uptoBulkAll elems + uptoBulkAll spare + 1
  | .agg parts => uptoBulkAll parts + 1
  | .iface _ d => uptoBulk d + 1
  | .map entries => uptoBulkEntries entries + 1
  | .held _ => 1
def uptoBulkAll {H : Type} : List (DataW H) → Nat
  | [] => 0
  | d :: r => uptoBulk d + uptoBulkAll r
def uptoBulkEntries {H : Type} : List (Lit × DataW H) → Nat
  | [] => 0
  | x :: r => uptoBulkEntry x + uptoBulkEntries r
def uptoBulkEntry {H : Type} : Lit × DataW H → Nat
  | (.string bytes, d) => bytes.length + uptoBulk d + 1
  | (_, d) => uptoBulk d + 1
 end
def uptoSmall : (H : Type) → List (DataW H) → Bool := fun _ ds => decide (uptoBulkAll ds ≤ 1048576)
def OpenSpec.upto (s : _root_.Go.ChangeSpec) : _root_.Go.OpenSpec := { _root_.Go.OpenSpec.ofChange s with cond := some uptoSmall }

/-- 'berthagelaw02.SatSums', WHERE WHAT IT READS IS OF BULK AT MOST 1048576: true; the input reads as it did. -/
def satSumsUptoRow : OpenClaim := { program := "ytplajmcjkddikaa", sum := "28f789ceb917e8c74a9102e780e11e4231c2027877779a9f87f5f1ca409a0439", func := "berthage/berthagelaw02.SatSums", spec := "satSums", apart := false, narrowed := true }
def SatSumsUptoSaid : Prop := satSumsUptoRow.holds Try.pinned (OpenSpec.upto satSumsSpec)

/-- 'berthagelaw02.SatParts', WHERE WHAT IT READS IS OF BULK AT MOST 1048576: true; the input reads as it did. -/
def satPartsUptoRow : OpenClaim := { program := "ytplajmcjkddikaa", sum := "28f789ceb917e8c74a9102e780e11e4231c2027877779a9f87f5f1ca409a0439", func := "berthage/berthagelaw02.SatParts", spec := "satParts", apart := false, narrowed := true }
def SatPartsUptoSaid : Prop := satPartsUptoRow.holds Try.pinned (OpenSpec.upto satPartsSpec)

/-- 'berthagelaw02.SatAreas', WHERE WHAT IT READS IS OF BULK AT MOST 1048576: true; the input reads as it did. -/
def satAreasUptoRow : OpenClaim := { program := "ytplajmcjkddikaa", sum := "28f789ceb917e8c74a9102e780e11e4231c2027877779a9f87f5f1ca409a0439", func := "berthage/berthagelaw02.SatAreas", spec := "satAreas", apart := false, narrowed := true }
def SatAreasUptoSaid : Prop := satAreasUptoRow.holds Try.pinned (OpenSpec.upto satAreasSpec)

/-- 'berthagelaw29.ScoreSlows', WHERE WHAT IT READS IS OF BULK AT MOST 1048576: true; the input reads as it did. -/
def scoreSlowsUptoRow : OpenClaim := { program := "ytplajmcjkddikaa", sum := "28f789ceb917e8c74a9102e780e11e4231c2027877779a9f87f5f1ca409a0439", func := "berthage/berthagelaw29.ScoreSlows", spec := "scoreSlows", apart := false, narrowed := true }
def ScoreSlowsUptoSaid : Prop := scoreSlowsUptoRow.holds Try.pinned (OpenSpec.upto scoreSlowsSpec)

/-- 'berthagelaw01.WireApart', WHERE WHAT IT READS IS OF BULK AT MOST 1048576: true; the input reads as it did. -/
def wireApartUptoRow : OpenClaim := { program := "ytplajmcjkddikaa", sum := "28f789ceb917e8c74a9102e780e11e4231c2027877779a9f87f5f1ca409a0439", func := "berthage/berthagelaw01.WireApart", spec := "wireApart", apart := false, narrowed := true }
def WireApartUptoSaid : Prop := wireApartUptoRow.holds Try.pinned (OpenSpec.upto wireApartSpec)

/-- 'berthagelaw01.WirePuts', WHERE WHAT IT READS IS OF BULK AT MOST 1048576: true; the input reads as it did. -/
def wirePutsUptoRow : OpenClaim := { program := "ytplajmcjkddikaa", sum := "28f789ceb917e8c74a9102e780e11e4231c2027877779a9f87f5f1ca409a0439", func := "berthage/berthagelaw01.WirePuts", spec := "wirePuts", apart := false, narrowed := true }
def WirePutsUptoSaid : Prop := wirePutsUptoRow.holds Try.pinned (OpenSpec.upto wirePutsSpec)

/-- 'berthagelaw01.WireBack', WHERE WHAT IT READS IS OF BULK AT MOST 1048576: true; the input reads as it did. -/
def wireBackUptoRow : OpenClaim := { program := "ytplajmcjkddikaa", sum := "28f789ceb917e8c74a9102e780e11e4231c2027877779a9f87f5f1ca409a0439", func := "berthage/berthagelaw01.WireBack", spec := "wireBack", apart := false, narrowed := true }
def WireBackUptoSaid : Prop := wireBackUptoRow.holds Try.pinned (OpenSpec.upto wireBackSpec)

/-- 'berthagelaw09.RuleNeeds', WHERE WHAT IT READS IS OF BULK AT MOST 1048576: true; the input reads as it did. -/
def ruleNeedsUptoRow : OpenClaim := { program := "ytplajmcjkddikaa", sum := "28f789ceb917e8c74a9102e780e11e4231c2027877779a9f87f5f1ca409a0439", func := "berthage/berthagelaw09.RuleNeeds", spec := "ruleNeeds", apart := false, narrowed := true }
def RuleNeedsUptoSaid : Prop := ruleNeedsUptoRow.holds Try.pinned (OpenSpec.upto ruleNeedsSpec)

/-- 'berthagelaw09.RuleLanes', WHERE WHAT IT READS IS OF BULK AT MOST 1048576: true; the input reads as it did. -/
def ruleLanesUptoRow : OpenClaim := { program := "ytplajmcjkddikaa", sum := "28f789ceb917e8c74a9102e780e11e4231c2027877779a9f87f5f1ca409a0439", func := "berthage/berthagelaw09.RuleLanes", spec := "ruleLanes", apart := false, narrowed := true }
def RuleLanesUptoSaid : Prop := ruleLanesUptoRow.holds Try.pinned (OpenSpec.upto ruleLanesSpec)

/-- 'berthagelaw09.RuleCleans', WHERE WHAT IT READS IS OF BULK AT MOST 1048576: true; the input reads as it did. -/
def ruleCleansUptoRow : OpenClaim := { program := "ytplajmcjkddikaa", sum := "28f789ceb917e8c74a9102e780e11e4231c2027877779a9f87f5f1ca409a0439", func := "berthage/berthagelaw09.RuleCleans", spec := "ruleCleans", apart := false, narrowed := true }
def RuleCleansUptoSaid : Prop := ruleCleansUptoRow.holds Try.pinned (OpenSpec.upto ruleCleansSpec)

/-- 'berthagelaw16.LockGoes', WHERE WHAT IT READS IS OF BULK AT MOST 1048576: true; the input reads as it did. -/
def lockGoesUptoRow : OpenClaim := { program := "ytplajmcjkddikaa", sum := "28f789ceb917e8c74a9102e780e11e4231c2027877779a9f87f5f1ca409a0439", func := "berthage/berthagelaw16.LockGoes", spec := "lockGoes", apart := false, narrowed := true }
def LockGoesUptoSaid : Prop := lockGoesUptoRow.holds Try.pinned (OpenSpec.upto lockGoesSpec)

/-- 'berthagelaw16.LockPlays', WHERE WHAT IT READS IS OF BULK AT MOST 1048576: true; the input reads as it did. -/
def lockPlaysUptoRow : OpenClaim := { program := "ytplajmcjkddikaa", sum := "28f789ceb917e8c74a9102e780e11e4231c2027877779a9f87f5f1ca409a0439", func := "berthage/berthagelaw16.LockPlays", spec := "lockPlays", apart := false, narrowed := true }
def LockPlaysUptoSaid : Prop := lockPlaysUptoRow.holds Try.pinned (OpenSpec.upto lockPlaysSpec)

/-- 'berthagelaw16.LockNobody', WHERE WHAT IT READS IS OF BULK AT MOST 1048576: true; the input reads as it did. -/
def lockNobodyUptoRow : OpenClaim := { program := "ytplajmcjkddikaa", sum := "28f789ceb917e8c74a9102e780e11e4231c2027877779a9f87f5f1ca409a0439", func := "berthage/berthagelaw16.LockNobody", spec := "lockNobody", apart := false, narrowed := true }
def LockNobodyUptoSaid : Prop := lockNobodyUptoRow.holds Try.pinned (OpenSpec.upto lockNobodySpec)

/-- 'berthagelaw11.ReplyTells', WHERE WHAT IT READS IS OF BULK AT MOST 1048576: true; the input reads as it did. -/
def replyTellsUptoRow : OpenClaim := { program := "ytplajmcjkddikaa", sum := "28f789ceb917e8c74a9102e780e11e4231c2027877779a9f87f5f1ca409a0439", func := "berthage/berthagelaw11.ReplyTells", spec := "replyTells", apart := false, narrowed := true }
def ReplyTellsUptoSaid : Prop := replyTellsUptoRow.holds Try.pinned (OpenSpec.upto replyTellsSpec)

/-- 'berthagelaw11.ReplyBytes', WHERE WHAT IT READS IS OF BULK AT MOST 1048576: true; the input reads as it did. -/
def replyBytesUptoRow : OpenClaim := { program := "ytplajmcjkddikaa", sum := "28f789ceb917e8c74a9102e780e11e4231c2027877779a9f87f5f1ca409a0439", func := "berthage/berthagelaw11.ReplyBytes", spec := "replyBytes", apart := false, narrowed := true }
def ReplyBytesUptoSaid : Prop := replyBytesUptoRow.holds Try.pinned (OpenSpec.upto replyBytesSpec)

/-- 'berthagelaw11.ReplyReads', WHERE WHAT IT READS IS OF BULK AT MOST 1048576: true; the input reads as it did. -/
def replyReadsUptoRow : OpenClaim := { program := "ytplajmcjkddikaa", sum := "28f789ceb917e8c74a9102e780e11e4231c2027877779a9f87f5f1ca409a0439", func := "berthage/berthagelaw11.ReplyReads", spec := "replyReads", apart := false, narrowed := true }
def ReplyReadsUptoSaid : Prop := replyReadsUptoRow.holds Try.pinned (OpenSpec.upto replyReadsSpec)

/-- 'berthagelaw10.ReqApart', WHERE WHAT IT READS IS OF BULK AT MOST 1048576: true; the input reads as it did. -/
def reqApartUptoRow : OpenClaim := { program := "ytplajmcjkddikaa", sum := "28f789ceb917e8c74a9102e780e11e4231c2027877779a9f87f5f1ca409a0439", func := "berthage/berthagelaw10.ReqApart", spec := "reqApart", apart := false, narrowed := true }
def ReqApartUptoSaid : Prop := reqApartUptoRow.holds Try.pinned (OpenSpec.upto reqApartSpec)

/-- 'berthagelaw10.ReqBytes', WHERE WHAT IT READS IS OF BULK AT MOST 1048576: true; the input reads as it did. -/
def reqBytesUptoRow : OpenClaim := { program := "ytplajmcjkddikaa", sum := "28f789ceb917e8c74a9102e780e11e4231c2027877779a9f87f5f1ca409a0439", func := "berthage/berthagelaw10.ReqBytes", spec := "reqBytes", apart := false, narrowed := true }
def ReqBytesUptoSaid : Prop := reqBytesUptoRow.holds Try.pinned (OpenSpec.upto reqBytesSpec)

/-- 'berthagelaw10.ReqReads', WHERE WHAT IT READS IS OF BULK AT MOST 1048576: true; the input reads as it did. -/
def reqReadsUptoRow : OpenClaim := { program := "ytplajmcjkddikaa", sum := "28f789ceb917e8c74a9102e780e11e4231c2027877779a9f87f5f1ca409a0439", func := "berthage/berthagelaw10.ReqReads", spec := "reqReads", apart := false, narrowed := true }
def ReqReadsUptoSaid : Prop := reqReadsUptoRow.holds Try.pinned (OpenSpec.upto reqReadsSpec)

/-- 'berthagelaw19.HistSounds', WHERE WHAT IT READS IS OF BULK AT MOST 1048576: true; the input reads as it did. -/
def histSoundsUptoRow : OpenClaim := { program := "ytplajmcjkddikaa", sum := "28f789ceb917e8c74a9102e780e11e4231c2027877779a9f87f5f1ca409a0439", func := "berthage/berthagelaw19.HistSounds", spec := "histSounds", apart := false, narrowed := true }
def HistSoundsUptoSaid : Prop := histSoundsUptoRow.holds Try.pinned (OpenSpec.upto histSoundsSpec)

/-- 'berthagelaw19.HistNotes', WHERE WHAT IT READS IS OF BULK AT MOST 1048576: true; the input reads as it did. -/
def histNotesUptoRow : OpenClaim := { program := "ytplajmcjkddikaa", sum := "28f789ceb917e8c74a9102e780e11e4231c2027877779a9f87f5f1ca409a0439", func := "berthage/berthagelaw19.HistNotes", spec := "histNotes", apart := false, narrowed := true }
def HistNotesUptoSaid : Prop := histNotesUptoRow.holds Try.pinned (OpenSpec.upto histNotesSpec)

/-- 'berthagelaw19.HistEarly', WHERE WHAT IT READS IS OF BULK AT MOST 1048576: true; the input reads as it did. -/
def histEarlyUptoRow : OpenClaim := { program := "ytplajmcjkddikaa", sum := "28f789ceb917e8c74a9102e780e11e4231c2027877779a9f87f5f1ca409a0439", func := "berthage/berthagelaw19.HistEarly", spec := "histEarly", apart := false, narrowed := true }
def HistEarlyUptoSaid : Prop := histEarlyUptoRow.holds Try.pinned (OpenSpec.upto histEarlySpec)

end Rows
end Go.Proofs.Ytplajmcjkddikaa
