/-
  NARROWER THAN 'FOR EVERY INPUT', by the rows' own cells (each row's printed sentence says how): SetFirsts: laid · SetLists: laid · SetApart: laid · SetNodes: laid · NodeBack: laid · NodePlays: laid · NodeNobody: laid · PowerSpares: laid · PowerNobody: laid · PowerPlays: laid · PickRules: laid · PickRows: laid · PickTight: laid · TopoHops: laid · TopoPicks: laid · TopoNobody: laid.
  DERIVED. THE GIVEN ROWS OF THIS SEAT. 16 by the template 'for every input the law returns true; each argument reads behind the call as it read before'; 0 by the template 'total and deterministic' (their statements: YtmjkgnlmdcmdbaaDoorTotals.lean).
  GIVEN WITH THE SEED: the statements are not yours to turn. If you find one false, say at which input.
  Laid BY PROGRAM, IN A SANDBOX (cutbox-rows.mjs): the forced cells as the released guide's own fill.sh prints them over the translation d2df7a232f07997e… (all of the seat's roots in one cut). By AI agents, Wed Nov 11 2026. No macro, syntax, notation, axiom, sorry.
-/
import Derived.Test.YtmjkgnlmdcmdbaaDoorChecked
import GoSem.Claim
import GoSem.ClaimJoined
import GoSem.ClaimMapViews
import Derived.JoinedTies
import Derived.KernelRfl
namespace Go.Proofs.YtmjkgnlmdcmdbaaDoor
/- THE CELL 'sum', in the pinned program and in every row, IS THE sha256 OF THE DUMP (.gsa) THAT YtmjkgnlmdcmdbaaDoorProg.lean LOADS. Nothing in Lean hashes anything: it is a label: what it is worth is what the hold of that sum in a sandbox is worth. -/
noncomputable def Tryd.pinned : Pinned := { name := "ytmjkgnlmdcmdbaadoor", sum := "d2df7a232f07997e05443736ae845da25a9a6f96ba47440990b4b16963e779e2", checked := Tryd.checked }
namespace Rows
def none {H : Type} : Left H := { results := [], args := [] }

/- WHAT THE LISTED PACKAGE-LEVEL VARIABLES READ AS WHEN THE CALL BEGINS. Each datum BY PROGRAM (the guide's laid-datum.mjs) off the statement by which the dump's own 'gosem.cut.vars' lays the variable. In a bare row this is a premise. The card (YtmjkgnlmdcmdbaaDoorCards.lean) ties it to the program's text. -/
def laid_math_bits_deBruijn64tab {H : Type} : DataW H := .agg [.lit (.int .u8 0), .lit (.int .u8 1), .lit (.int .u8 56), .lit (.int .u8 2), .lit (.int .u8 57), .lit (.int .u8 49), .lit (.int .u8 28), .lit (.int .u8 3), .lit (.int .u8 61), .lit (.int .u8 58), .lit (.int .u8 42), .lit (.int .u8 50), .lit (.int .u8 38), .lit (.int .u8 29), .lit (.int .u8 17), .lit (.int .u8 4), .lit (.int .u8 62), .lit (.int .u8 47), .lit (.int .u8 59), .lit (.int .u8 36), .lit (.int .u8 45), .lit (.int .u8 43), .lit (.int .u8 51), .lit (.int .u8 22), .lit (.int .u8 53), .lit (.int .u8 39), .lit (.int .u8 33), .lit (.int .u8 30), .lit (.int .u8 24), .lit (.int .u8 18), .lit (.int .u8 12), .lit (.int .u8 5), .lit (.int .u8 63), .lit (.int .u8 55), .lit (.int .u8 48), .lit (.int .u8 27), .lit (.int .u8 60), .lit (.int .u8 41), .lit (.int .u8 37), .lit (.int .u8 16), .lit (.int .u8 46), .lit (.int .u8 35), .lit (.int .u8 44), .lit (.int .u8 21), .lit (.int .u8 52), .lit (.int .u8 32), .lit (.int .u8 23), .lit (.int .u8 11), .lit (.int .u8 54), .lit (.int .u8 26), .lit (.int .u8 40), .lit (.int .u8 15), .lit (.int .u8 34), .lit (.int .u8 20), .lit (.int .u8 31), .lit (.int .u8 10), .lit (.int .u8 25), .lit (.int .u8 14), .lit (.int .u8 19), .lit (.int .u8 9), .lit (.int .u8 13), .lit (.int .u8 8), .lit (.int .u8 7), .lit (.int .u8 6)]

/-- 'berthagelaw03.SetFirsts': WHATEVER THE INPUT: true; the input reads as it did. -/
def setFirstsSpec : ChangeSpec := { name := "setFirsts", fn := fun _ => fun
  | [d1, d2] => { results := [.lit (.bool true)], args := [d1, d2] }
  | _ => none }
def setFirstsRow : OpenClaim := { program := "ytmjkgnlmdcmdbaadoor", sum := "d2df7a232f07997e05443736ae845da25a9a6f96ba47440990b4b16963e779e2", func := "berthage/berthagelaw03.SetFirsts", spec := "setFirsts", named := ["math/bits.deBruijn64tab"], apart := false, laid := [("math/bits.deBruijn64tab", laid_math_bits_deBruijn64tab)] }
def SetFirstsSaid : Prop := setFirstsRow.holds Tryd.pinned (OpenSpec.ofChange setFirstsSpec)

/-- ITS FALSE NEIGHBOUR: 'it returns false'. Refute it at one input. -/
def setFirstsWrong : ChangeSpec := { name := "setFirsts", fn := fun _ => fun
  | [d1, d2] => { results := [.lit (.bool false)], args := [d1, d2] }
  | _ => none }
def SetFirstsWrongFalsely : Prop := setFirstsRow.holds Tryd.pinned (OpenSpec.ofChange setFirstsWrong)

/-- 'berthagelaw03.SetLists': WHATEVER THE INPUT: true; the input reads as it did. -/
def setListsSpec : ChangeSpec := { name := "setLists", fn := fun _ => fun
  | [d1, d2] => { results := [.lit (.bool true)], args := [d1, d2] }
  | _ => none }
def setListsRow : OpenClaim := { program := "ytmjkgnlmdcmdbaadoor", sum := "d2df7a232f07997e05443736ae845da25a9a6f96ba47440990b4b16963e779e2", func := "berthage/berthagelaw03.SetLists", spec := "setLists", named := ["math/bits.deBruijn64tab"], apart := false, laid := [("math/bits.deBruijn64tab", laid_math_bits_deBruijn64tab)] }
def SetListsSaid : Prop := setListsRow.holds Tryd.pinned (OpenSpec.ofChange setListsSpec)

/-- ITS FALSE NEIGHBOUR: 'it returns false'. Refute it at one input. -/
def setListsWrong : ChangeSpec := { name := "setLists", fn := fun _ => fun
  | [d1, d2] => { results := [.lit (.bool false)], args := [d1, d2] }
  | _ => none }
def SetListsWrongFalsely : Prop := setListsRow.holds Tryd.pinned (OpenSpec.ofChange setListsWrong)

/-- 'berthagelaw03.SetApart': WHATEVER THE INPUT: true; the input reads as it did. -/
def setApartSpec : ChangeSpec := { name := "setApart", fn := fun _ => fun
  | [d] => { results := [.lit (.bool true)], args := [d] }
  | _ => none }
def setApartRow : OpenClaim := { program := "ytmjkgnlmdcmdbaadoor", sum := "d2df7a232f07997e05443736ae845da25a9a6f96ba47440990b4b16963e779e2", func := "berthage/berthagelaw03.SetApart", spec := "setApart", named := ["math/bits.deBruijn64tab"], apart := false, laid := [("math/bits.deBruijn64tab", laid_math_bits_deBruijn64tab)] }
def SetApartSaid : Prop := setApartRow.holds Tryd.pinned (OpenSpec.ofChange setApartSpec)

/-- ITS FALSE NEIGHBOUR: 'it returns false'. Refute it at one input. -/
def setApartWrong : ChangeSpec := { name := "setApart", fn := fun _ => fun
  | [d] => { results := [.lit (.bool false)], args := [d] }
  | _ => none }
def SetApartWrongFalsely : Prop := setApartRow.holds Tryd.pinned (OpenSpec.ofChange setApartWrong)

/-- 'berthagelaw03.SetNodes': WHATEVER THE INPUT: true; the input reads as it did. -/
def setNodesSpec : ChangeSpec := { name := "setNodes", fn := fun _ => fun
  | [d1, d2] => { results := [.lit (.bool true)], args := [d1, d2] }
  | _ => none }
def setNodesRow : OpenClaim := { program := "ytmjkgnlmdcmdbaadoor", sum := "d2df7a232f07997e05443736ae845da25a9a6f96ba47440990b4b16963e779e2", func := "berthage/berthagelaw03.SetNodes", spec := "setNodes", named := ["math/bits.deBruijn64tab"], apart := false, laid := [("math/bits.deBruijn64tab", laid_math_bits_deBruijn64tab)] }
def SetNodesSaid : Prop := setNodesRow.holds Tryd.pinned (OpenSpec.ofChange setNodesSpec)

/-- ITS FALSE NEIGHBOUR: 'it returns false'. Refute it at one input. -/
def setNodesWrong : ChangeSpec := { name := "setNodes", fn := fun _ => fun
  | [d1, d2] => { results := [.lit (.bool false)], args := [d1, d2] }
  | _ => none }
def SetNodesWrongFalsely : Prop := setNodesRow.holds Tryd.pinned (OpenSpec.ofChange setNodesWrong)

/-- 'berthagelaw06.NodeBack': WHATEVER THE INPUT: true; the input reads as it did. -/
def nodeBackSpec : ChangeSpec := { name := "nodeBack", fn := fun _ => fun
  | [d1, d2, d3] => { results := [.lit (.bool true)], args := [d1, d2, d3] }
  | _ => none }
def nodeBackRow : OpenClaim := { program := "ytmjkgnlmdcmdbaadoor", sum := "d2df7a232f07997e05443736ae845da25a9a6f96ba47440990b4b16963e779e2", func := "berthage/berthagelaw06.NodeBack", spec := "nodeBack", named := ["math/bits.deBruijn64tab"], apart := false, laid := [("math/bits.deBruijn64tab", laid_math_bits_deBruijn64tab)] }
def NodeBackSaid : Prop := nodeBackRow.holds Tryd.pinned (OpenSpec.ofChange nodeBackSpec)

/-- ITS FALSE NEIGHBOUR: 'it returns false'. Refute it at one input. -/
def nodeBackWrong : ChangeSpec := { name := "nodeBack", fn := fun _ => fun
  | [d1, d2, d3] => { results := [.lit (.bool false)], args := [d1, d2, d3] }
  | _ => none }
def NodeBackWrongFalsely : Prop := nodeBackRow.holds Tryd.pinned (OpenSpec.ofChange nodeBackWrong)

/-- 'berthagelaw06.NodePlays': WHATEVER THE INPUT: true; the input reads as it did. -/
def nodePlaysSpec : ChangeSpec := { name := "nodePlays", fn := fun _ => fun
  | [d1, d2] => { results := [.lit (.bool true)], args := [d1, d2] }
  | _ => none }
def nodePlaysRow : OpenClaim := { program := "ytmjkgnlmdcmdbaadoor", sum := "d2df7a232f07997e05443736ae845da25a9a6f96ba47440990b4b16963e779e2", func := "berthage/berthagelaw06.NodePlays", spec := "nodePlays", unfollowed := true, recurses := true, named := ["math/bits.deBruijn64tab"], apart := false, laid := [("math/bits.deBruijn64tab", laid_math_bits_deBruijn64tab)] }
def NodePlaysSaid : Prop := nodePlaysRow.holds Tryd.pinned (OpenSpec.ofChange nodePlaysSpec)

/-- ITS FALSE NEIGHBOUR: 'it returns false'. Refute it at one input. -/
def nodePlaysWrong : ChangeSpec := { name := "nodePlays", fn := fun _ => fun
  | [d1, d2] => { results := [.lit (.bool false)], args := [d1, d2] }
  | _ => none }
def NodePlaysWrongFalsely : Prop := nodePlaysRow.holds Tryd.pinned (OpenSpec.ofChange nodePlaysWrong)

/-- 'berthagelaw06.NodeNobody': WHATEVER THE INPUT: true; the input reads as it did. -/
def nodeNobodySpec : ChangeSpec := { name := "nodeNobody", fn := fun _ => fun
  | [d1, d2] => { results := [.lit (.bool true)], args := [d1, d2] }
  | _ => none }
def nodeNobodyRow : OpenClaim := { program := "ytmjkgnlmdcmdbaadoor", sum := "d2df7a232f07997e05443736ae845da25a9a6f96ba47440990b4b16963e779e2", func := "berthage/berthagelaw06.NodeNobody", spec := "nodeNobody", unfollowed := true, recurses := true, named := ["math/bits.deBruijn64tab"], apart := false, laid := [("math/bits.deBruijn64tab", laid_math_bits_deBruijn64tab)] }
def NodeNobodySaid : Prop := nodeNobodyRow.holds Tryd.pinned (OpenSpec.ofChange nodeNobodySpec)

/-- ITS FALSE NEIGHBOUR: 'it returns false'. Refute it at one input. -/
def nodeNobodyWrong : ChangeSpec := { name := "nodeNobody", fn := fun _ => fun
  | [d1, d2] => { results := [.lit (.bool false)], args := [d1, d2] }
  | _ => none }
def NodeNobodyWrongFalsely : Prop := nodeNobodyRow.holds Tryd.pinned (OpenSpec.ofChange nodeNobodyWrong)

/-- 'berthagelaw42.PowerSpares': WHATEVER THE INPUT: true; the input reads as it did. -/
def powerSparesSpec : ChangeSpec := { name := "powerSpares", fn := fun _ => fun
  | [d1, d2, d3] => { results := [.lit (.bool true)], args := [d1, d2, d3] }
  | _ => none }
def powerSparesRow : OpenClaim := { program := "ytmjkgnlmdcmdbaadoor", sum := "d2df7a232f07997e05443736ae845da25a9a6f96ba47440990b4b16963e779e2", func := "berthage/berthagelaw42.PowerSpares", spec := "powerSpares", unfollowed := true, recurses := true, named := ["math/bits.deBruijn64tab"], apart := false, laid := [("math/bits.deBruijn64tab", laid_math_bits_deBruijn64tab)] }
def PowerSparesSaid : Prop := powerSparesRow.holds Tryd.pinned (OpenSpec.ofChange powerSparesSpec)

/-- ITS FALSE NEIGHBOUR: 'it returns false'. Refute it at one input. -/
def powerSparesWrong : ChangeSpec := { name := "powerSpares", fn := fun _ => fun
  | [d1, d2, d3] => { results := [.lit (.bool false)], args := [d1, d2, d3] }
  | _ => none }
def PowerSparesWrongFalsely : Prop := powerSparesRow.holds Tryd.pinned (OpenSpec.ofChange powerSparesWrong)

/-- 'berthagelaw42.PowerNobody': WHATEVER THE INPUT: true; the input reads as it did. -/
def powerNobodySpec : ChangeSpec := { name := "powerNobody", fn := fun _ => fun
  | [d] => { results := [.lit (.bool true)], args := [d] }
  | _ => none }
def powerNobodyRow : OpenClaim := { program := "ytmjkgnlmdcmdbaadoor", sum := "d2df7a232f07997e05443736ae845da25a9a6f96ba47440990b4b16963e779e2", func := "berthage/berthagelaw42.PowerNobody", spec := "powerNobody", unfollowed := true, recurses := true, named := ["math/bits.deBruijn64tab"], apart := false, laid := [("math/bits.deBruijn64tab", laid_math_bits_deBruijn64tab)] }
def PowerNobodySaid : Prop := powerNobodyRow.holds Tryd.pinned (OpenSpec.ofChange powerNobodySpec)

/-- ITS FALSE NEIGHBOUR: 'it returns false'. Refute it at one input. -/
def powerNobodyWrong : ChangeSpec := { name := "powerNobody", fn := fun _ => fun
  | [d] => { results := [.lit (.bool false)], args := [d] }
  | _ => none }
def PowerNobodyWrongFalsely : Prop := powerNobodyRow.holds Tryd.pinned (OpenSpec.ofChange powerNobodyWrong)

/-- 'berthagelaw42.PowerPlays': WHATEVER THE INPUT: true; the input reads as it did. -/
def powerPlaysSpec : ChangeSpec := { name := "powerPlays", fn := fun _ => fun
  | [d1, d2, d3] => { results := [.lit (.bool true)], args := [d1, d2, d3] }
  | _ => none }
def powerPlaysRow : OpenClaim := { program := "ytmjkgnlmdcmdbaadoor", sum := "d2df7a232f07997e05443736ae845da25a9a6f96ba47440990b4b16963e779e2", func := "berthage/berthagelaw42.PowerPlays", spec := "powerPlays", unfollowed := true, recurses := true, named := ["math/bits.deBruijn64tab"], apart := false, laid := [("math/bits.deBruijn64tab", laid_math_bits_deBruijn64tab)] }
def PowerPlaysSaid : Prop := powerPlaysRow.holds Tryd.pinned (OpenSpec.ofChange powerPlaysSpec)

/-- ITS FALSE NEIGHBOUR: 'it returns false'. Refute it at one input. -/
def powerPlaysWrong : ChangeSpec := { name := "powerPlays", fn := fun _ => fun
  | [d1, d2, d3] => { results := [.lit (.bool false)], args := [d1, d2, d3] }
  | _ => none }
def PowerPlaysWrongFalsely : Prop := powerPlaysRow.holds Tryd.pinned (OpenSpec.ofChange powerPlaysWrong)

/-- 'berthagelaw38.PickRules': WHATEVER THE INPUT: true; the input reads as it did. -/
def pickRulesSpec : ChangeSpec := { name := "pickRules", fn := fun _ => fun
  | [d1, d2, d3] => { results := [.lit (.bool true)], args := [d1, d2, d3] }
  | _ => none }
def pickRulesRow : OpenClaim := { program := "ytmjkgnlmdcmdbaadoor", sum := "d2df7a232f07997e05443736ae845da25a9a6f96ba47440990b4b16963e779e2", func := "berthage/berthagelaw38.PickRules", spec := "pickRules", unfollowed := true, recurses := true, named := ["math/bits.deBruijn64tab"], apart := false, laid := [("math/bits.deBruijn64tab", laid_math_bits_deBruijn64tab)] }
def PickRulesSaid : Prop := pickRulesRow.holds Tryd.pinned (OpenSpec.ofChange pickRulesSpec)

/-- ITS FALSE NEIGHBOUR: 'it returns false'. Refute it at one input. -/
def pickRulesWrong : ChangeSpec := { name := "pickRules", fn := fun _ => fun
  | [d1, d2, d3] => { results := [.lit (.bool false)], args := [d1, d2, d3] }
  | _ => none }
def PickRulesWrongFalsely : Prop := pickRulesRow.holds Tryd.pinned (OpenSpec.ofChange pickRulesWrong)

/-- 'berthagelaw38.PickRows': WHATEVER THE INPUT: true; the input reads as it did. -/
def pickRowsSpec : ChangeSpec := { name := "pickRows", fn := fun _ => fun
  | [d] => { results := [.lit (.bool true)], args := [d] }
  | _ => none }
def pickRowsRow : OpenClaim := { program := "ytmjkgnlmdcmdbaadoor", sum := "d2df7a232f07997e05443736ae845da25a9a6f96ba47440990b4b16963e779e2", func := "berthage/berthagelaw38.PickRows", spec := "pickRows", unfollowed := true, recurses := true, named := ["math/bits.deBruijn64tab"], apart := false, laid := [("math/bits.deBruijn64tab", laid_math_bits_deBruijn64tab)] }
def PickRowsSaid : Prop := pickRowsRow.holds Tryd.pinned (OpenSpec.ofChange pickRowsSpec)

/-- ITS FALSE NEIGHBOUR: 'it returns false'. Refute it at one input. -/
def pickRowsWrong : ChangeSpec := { name := "pickRows", fn := fun _ => fun
  | [d] => { results := [.lit (.bool false)], args := [d] }
  | _ => none }
def PickRowsWrongFalsely : Prop := pickRowsRow.holds Tryd.pinned (OpenSpec.ofChange pickRowsWrong)

/-- 'berthagelaw38.PickTight': WHATEVER THE INPUT: true; the input reads as it did. -/
def pickTightSpec : ChangeSpec := { name := "pickTight", fn := fun _ => fun
  | [d1, d2] => { results := [.lit (.bool true)], args := [d1, d2] }
  | _ => none }
def pickTightRow : OpenClaim := { program := "ytmjkgnlmdcmdbaadoor", sum := "d2df7a232f07997e05443736ae845da25a9a6f96ba47440990b4b16963e779e2", func := "berthage/berthagelaw38.PickTight", spec := "pickTight", unfollowed := true, recurses := true, named := ["math/bits.deBruijn64tab"], apart := false, laid := [("math/bits.deBruijn64tab", laid_math_bits_deBruijn64tab)] }
def PickTightSaid : Prop := pickTightRow.holds Tryd.pinned (OpenSpec.ofChange pickTightSpec)

/-- ITS FALSE NEIGHBOUR: 'it returns false'. Refute it at one input. -/
def pickTightWrong : ChangeSpec := { name := "pickTight", fn := fun _ => fun
  | [d1, d2] => { results := [.lit (.bool false)], args := [d1, d2] }
  | _ => none }
def PickTightWrongFalsely : Prop := pickTightRow.holds Tryd.pinned (OpenSpec.ofChange pickTightWrong)

/-- 'berthagelaw39.TopoHops': WHATEVER THE INPUT: true; the input reads as it did. -/
def topoHopsSpec : ChangeSpec := { name := "topoHops", fn := fun _ => fun
  | [d1, d2, d3, d4] => { results := [.lit (.bool true)], args := [d1, d2, d3, d4] }
  | _ => none }
def topoHopsRow : OpenClaim := { program := "ytmjkgnlmdcmdbaadoor", sum := "d2df7a232f07997e05443736ae845da25a9a6f96ba47440990b4b16963e779e2", func := "berthage/berthagelaw39.TopoHops", spec := "topoHops", named := ["math/bits.deBruijn64tab"], apart := false, laid := [("math/bits.deBruijn64tab", laid_math_bits_deBruijn64tab)] }
def TopoHopsSaid : Prop := topoHopsRow.holds Tryd.pinned (OpenSpec.ofChange topoHopsSpec)

/-- ITS FALSE NEIGHBOUR: 'it returns false'. Refute it at one input. -/
def topoHopsWrong : ChangeSpec := { name := "topoHops", fn := fun _ => fun
  | [d1, d2, d3, d4] => { results := [.lit (.bool false)], args := [d1, d2, d3, d4] }
  | _ => none }
def TopoHopsWrongFalsely : Prop := topoHopsRow.holds Tryd.pinned (OpenSpec.ofChange topoHopsWrong)

/-- 'berthagelaw39.TopoPicks': WHATEVER THE INPUT: true; the input reads as it did. -/
def topoPicksSpec : ChangeSpec := { name := "topoPicks", fn := fun _ => fun
  | [d1, d2, d3] => { results := [.lit (.bool true)], args := [d1, d2, d3] }
  | _ => none }
def topoPicksRow : OpenClaim := { program := "ytmjkgnlmdcmdbaadoor", sum := "d2df7a232f07997e05443736ae845da25a9a6f96ba47440990b4b16963e779e2", func := "berthage/berthagelaw39.TopoPicks", spec := "topoPicks", named := ["math/bits.deBruijn64tab"], apart := false, laid := [("math/bits.deBruijn64tab", laid_math_bits_deBruijn64tab)] }
def TopoPicksSaid : Prop := topoPicksRow.holds Tryd.pinned (OpenSpec.ofChange topoPicksSpec)

/-- ITS FALSE NEIGHBOUR: 'it returns false'. Refute it at one input. -/
def topoPicksWrong : ChangeSpec := { name := "topoPicks", fn := fun _ => fun
  | [d1, d2, d3] => { results := [.lit (.bool false)], args := [d1, d2, d3] }
  | _ => none }
def TopoPicksWrongFalsely : Prop := topoPicksRow.holds Tryd.pinned (OpenSpec.ofChange topoPicksWrong)

/-- 'berthagelaw39.TopoNobody': WHATEVER THE INPUT: true; the input reads as it did. -/
def topoNobodySpec : ChangeSpec := { name := "topoNobody", fn := fun _ => fun
  | [d1, d2] => { results := [.lit (.bool true)], args := [d1, d2] }
  | _ => none }
def topoNobodyRow : OpenClaim := { program := "ytmjkgnlmdcmdbaadoor", sum := "d2df7a232f07997e05443736ae845da25a9a6f96ba47440990b4b16963e779e2", func := "berthage/berthagelaw39.TopoNobody", spec := "topoNobody", named := ["math/bits.deBruijn64tab"], apart := false, laid := [("math/bits.deBruijn64tab", laid_math_bits_deBruijn64tab)] }
def TopoNobodySaid : Prop := topoNobodyRow.holds Tryd.pinned (OpenSpec.ofChange topoNobodySpec)

/-- ITS FALSE NEIGHBOUR: 'it returns false'. Refute it at one input. -/
def topoNobodyWrong : ChangeSpec := { name := "topoNobody", fn := fun _ => fun
  | [d1, d2] => { results := [.lit (.bool false)], args := [d1, d2] }
  | _ => none }
def TopoNobodyWrongFalsely : Prop := topoNobodyRow.holds Tryd.pinned (OpenSpec.ofChange topoNobodyWrong)

/- THE SECOND FORM. 'bulk': how many values and letters a reading holds, each counted each time it is reached (what is shared counts as often as it is met; a slice's spare places count too). A statement '..UptoSaid' is the law's where the arguments, and the package variables that the reading takes, are together of bulk at most 1048576: NARROWER than '..Said'. Prove '..Said' where nothing that the law and all that it calls make is longer than what came in: it says more and counts as full. Else prove '..UptoSaid'. A law counts once. -/
mutual
def uptoBulk {H : Type} : DataW H → Nat
  | .lit (.string bytes) => bytes.length + 1
  | .lit _ => 1
  | .nil => 1
  | .ptr d => uptoBulk d + 1
  | .slice elems spare => uptoBulkAll elems + uptoBulkAll spare + 1
  | .agg parts => uptoBulkAll parts + 1
  | .iface _ d => uptoBulk d + 1
  | .map entries => uptoBulkEntries entries + 1
  | .held _ => 1
def uptoBulkAll {H : Type} : List (DataW H) → Nat
  | [] => 0
  | d :: r => uptoBulk d + uptoBulkAll r
def uptoBulkEntries {H : Type} : List (Lit × DataW H) → Nat
  | [] => 0
  | x :: r => uptoBulkEntry x + uptoBulkEntries r
def uptoBulkEntry {H : Type} : Lit × DataW H → Nat
  | (.string bytes, d) => bytes.length + uptoBulk d + 1
  | (_, d) => uptoBulk d + 1
 end
def uptoSmall : (H : Type) → List (DataW H) → Bool := fun _ ds => decide (uptoBulkAll ds ≤ 1048576)
def OpenSpec.upto (s : _root_.Go.ChangeSpec) : _root_.Go.OpenSpec := { _root_.Go.OpenSpec.ofChange s with cond := some uptoSmall }

/-- 'berthagelaw03.SetFirsts', WHERE WHAT IT READS IS OF BULK AT MOST 1048576: true; the input reads as it did. -/
def setFirstsUptoRow : OpenClaim := { program := "ytmjkgnlmdcmdbaadoor", sum := "d2df7a232f07997e05443736ae845da25a9a6f96ba47440990b4b16963e779e2", func := "berthage/berthagelaw03.SetFirsts", spec := "setFirsts", named := ["math/bits.deBruijn64tab"], apart := false, laid := [("math/bits.deBruijn64tab", laid_math_bits_deBruijn64tab)], narrowed := true }
def SetFirstsUptoSaid : Prop := setFirstsUptoRow.holds Tryd.pinned (OpenSpec.upto setFirstsSpec)

/-- 'berthagelaw03.SetLists', WHERE WHAT IT READS IS OF BULK AT MOST 1048576: true; the input reads as it did. -/
def setListsUptoRow : OpenClaim := { program := "ytmjkgnlmdcmdbaadoor", sum := "d2df7a232f07997e05443736ae845da25a9a6f96ba47440990b4b16963e779e2", func := "berthage/berthagelaw03.SetLists", spec := "setLists", named := ["math/bits.deBruijn64tab"], apart := false, laid := [("math/bits.deBruijn64tab", laid_math_bits_deBruijn64tab)], narrowed := true }
def SetListsUptoSaid : Prop := setListsUptoRow.holds Tryd.pinned (OpenSpec.upto setListsSpec)

/-- 'berthagelaw03.SetApart', WHERE WHAT IT READS IS OF BULK AT MOST 1048576: true; the input reads as it did. -/
def setApartUptoRow : OpenClaim := { program := "ytmjkgnlmdcmdbaadoor", sum := "d2df7a232f07997e05443736ae845da25a9a6f96ba47440990b4b16963e779e2", func := "berthage/berthagelaw03.SetApart", spec := "setApart", named := ["math/bits.deBruijn64tab"], apart := false, laid := [("math/bits.deBruijn64tab", laid_math_bits_deBruijn64tab)], narrowed := true }
def SetApartUptoSaid : Prop := setApartUptoRow.holds Tryd.pinned (OpenSpec.upto setApartSpec)

/-- 'berthagelaw03.SetNodes', WHERE WHAT IT READS IS OF BULK AT MOST 1048576: true; the input reads as it did. -/
def setNodesUptoRow : OpenClaim := { program := "ytmjkgnlmdcmdbaadoor", sum := "d2df7a232f07997e05443736ae845da25a9a6f96ba47440990b4b16963e779e2", func := "berthage/berthagelaw03.SetNodes", spec := "setNodes", named := ["math/bits.deBruijn64tab"], apart := false, laid := [("math/bits.deBruijn64tab", laid_math_bits_deBruijn64tab)], narrowed := true }
def SetNodesUptoSaid : Prop := setNodesUptoRow.holds Tryd.pinned (OpenSpec.upto setNodesSpec)

/-- 'berthagelaw06.NodeBack', WHERE WHAT IT READS IS OF BULK AT MOST 1048576: true; the input reads as it did. -/
def nodeBackUptoRow : OpenClaim := { program := "ytmjkgnlmdcmdbaadoor", sum := "d2df7a232f07997e05443736ae845da25a9a6f96ba47440990b4b16963e779e2", func := "berthage/berthagelaw06.NodeBack", spec := "nodeBack", named := ["math/bits.deBruijn64tab"], apart := false, laid := [("math/bits.deBruijn64tab", laid_math_bits_deBruijn64tab)], narrowed := true }
def NodeBackUptoSaid : Prop := nodeBackUptoRow.holds Tryd.pinned (OpenSpec.upto nodeBackSpec)

/-- 'berthagelaw06.NodePlays', WHERE WHAT IT READS IS OF BULK AT MOST 1048576: true; the input reads as it did. -/
def nodePlaysUptoRow : OpenClaim := { program := "ytmjkgnlmdcmdbaadoor", sum := "d2df7a232f07997e05443736ae845da25a9a6f96ba47440990b4b16963e779e2", func := "berthage/berthagelaw06.NodePlays", spec := "nodePlays", unfollowed := true, recurses := true, named := ["math/bits.deBruijn64tab"], apart := false, laid := [("math/bits.deBruijn64tab", laid_math_bits_deBruijn64tab)], narrowed := true }
def NodePlaysUptoSaid : Prop := nodePlaysUptoRow.holds Tryd.pinned (OpenSpec.upto nodePlaysSpec)

/-- 'berthagelaw06.NodeNobody', WHERE WHAT IT READS IS OF BULK AT MOST 1048576: true; the input reads as it did. -/
def nodeNobodyUptoRow : OpenClaim := { program := "ytmjkgnlmdcmdbaadoor", sum := "d2df7a232f07997e05443736ae845da25a9a6f96ba47440990b4b16963e779e2", func := "berthage/berthagelaw06.NodeNobody", spec := "nodeNobody", unfollowed := true, recurses := true, named := ["math/bits.deBruijn64tab"], apart := false, laid := [("math/bits.deBruijn64tab", laid_math_bits_deBruijn64tab)], narrowed := true }
def NodeNobodyUptoSaid : Prop := nodeNobodyUptoRow.holds Tryd.pinned (OpenSpec.upto nodeNobodySpec)

/-- 'berthagelaw42.PowerSpares', WHERE WHAT IT READS IS OF BULK AT MOST 1048576: true; the input reads as it did. -/
def powerSparesUptoRow : OpenClaim := { program := "ytmjkgnlmdcmdbaadoor", sum := "d2df7a232f07997e05443736ae845da25a9a6f96ba47440990b4b16963e779e2", func := "berthage/berthagelaw42.PowerSpares", spec := "powerSpares", unfollowed := true, recurses := true, named := ["math/bits.deBruijn64tab"], apart := false, laid := [("math/bits.deBruijn64tab", laid_math_bits_deBruijn64tab)], narrowed := true }
def PowerSparesUptoSaid : Prop := powerSparesUptoRow.holds Tryd.pinned (OpenSpec.upto powerSparesSpec)

/-- 'berthagelaw42.PowerNobody', WHERE WHAT IT READS IS OF BULK AT MOST 1048576: true; the input reads as it did. -/
def powerNobodyUptoRow : OpenClaim := { program := "ytmjkgnlmdcmdbaadoor", sum := "d2df7a232f07997e05443736ae845da25a9a6f96ba47440990b4b16963e779e2", func := "berthage/berthagelaw42.PowerNobody", spec := "powerNobody", unfollowed := true, recurses := true, named := ["math/bits.deBruijn64tab"], apart := false, laid := [("math/bits.deBruijn64tab", laid_math_bits_deBruijn64tab)], narrowed := true }
def PowerNobodyUptoSaid : Prop := powerNobodyUptoRow.holds Tryd.pinned (OpenSpec.upto powerNobodySpec)

/-- 'berthagelaw42.PowerPlays', WHERE WHAT IT READS IS OF BULK AT MOST 1048576: true; the input reads as it did. -/
def powerPlaysUptoRow : OpenClaim := { program := "ytmjkgnlmdcmdbaadoor", sum := "d2df7a232f07997e05443736ae845da25a9a6f96ba47440990b4b16963e779e2", func := "berthage/berthagelaw42.PowerPlays", spec := "powerPlays", unfollowed := true, recurses := true, named := ["math/bits.deBruijn64tab"], apart := false, laid := [("math/bits.deBruijn64tab", laid_math_bits_deBruijn64tab)], narrowed := true }
def PowerPlaysUptoSaid : Prop := powerPlaysUptoRow.holds Tryd.pinned (OpenSpec.upto powerPlaysSpec)

/-- 'berthagelaw38.PickRules', WHERE WHAT IT READS IS OF BULK AT MOST 1048576: true; the input reads as it did. -/
def pickRulesUptoRow : OpenClaim := { program := "ytmjkgnlmdcmdbaadoor", sum := "d2df7a232f07997e05443736ae845da25a9a6f96ba47440990b4b16963e779e2", func := "berthage/berthagelaw38.PickRules", spec := "pickRules", unfollowed := true, recurses := true, named := ["math/bits.deBruijn64tab"], apart := false, laid := [("math/bits.deBruijn64tab", laid_math_bits_deBruijn64tab)], narrowed := true }
def PickRulesUptoSaid : Prop := pickRulesUptoRow.holds Tryd.pinned (OpenSpec.upto pickRulesSpec)

/-- 'berthagelaw38.PickRows', WHERE WHAT IT READS IS OF BULK AT MOST 1048576: true; the input reads as it did. -/
def pickRowsUptoRow : OpenClaim := { program := "ytmjkgnlmdcmdbaadoor", sum := "d2df7a232f07997e05443736ae845da25a9a6f96ba47440990b4b16963e779e2", func := "berthage/berthagelaw38.PickRows", spec := "pickRows", unfollowed := true, recurses := true, named := ["math/bits.deBruijn64tab"], apart := false, laid := [("math/bits.deBruijn64tab", laid_math_bits_deBruijn64tab)], narrowed := true }
def PickRowsUptoSaid : Prop := pickRowsUptoRow.holds Tryd.pinned (OpenSpec.upto pickRowsSpec)

/-- 'berthagelaw38.PickTight', WHERE WHAT IT READS IS OF BULK AT MOST 1048576: true; the input reads as it did. -/
def pickTightUptoRow : OpenClaim := { program := "ytmjkgnlmdcmdbaadoor", sum := "d2df7a232f07997e05443736ae845da25a9a6f96ba47440990b4b16963e779e2", func := "berthage/berthagelaw38.PickTight", spec := "pickTight", unfollowed := true, recurses := true, named := ["math/bits.deBruijn64tab"], apart := false, laid := [("math/bits.deBruijn64tab", laid_math_bits_deBruijn64tab)], narrowed := true }
def PickTightUptoSaid : Prop := pickTightUptoRow.holds Tryd.pinned (OpenSpec.upto pickTightSpec)

/-- 'berthagelaw39.TopoHops', WHERE WHAT IT READS IS OF BULK AT MOST 1048576: true; the input reads as it did. -/
def topoHopsUptoRow : OpenClaim := { program := "ytmjkgnlmdcmdbaadoor", sum := "d2df7a232f07997e05443736ae845da25a9a6f96ba47440990b4b16963e779e2", func := "berthage/berthagelaw39.TopoHops", spec := "topoHops", named := ["math/bits.deBruijn64tab"], apart := false, laid := [("math/bits.deBruijn64tab", laid_math_bits_deBruijn64tab)], narrowed := true }
def TopoHopsUptoSaid : Prop := topoHopsUptoRow.holds Tryd.pinned (OpenSpec.upto topoHopsSpec)

/-- 'berthagelaw39.TopoPicks', WHERE WHAT IT READS IS OF BULK AT MOST 1048576: true; the input reads as it did. -/
def topoPicksUptoRow : OpenClaim := { program := "ytmjkgnlmdcmdbaadoor", sum := "d2df7a232f07997e05443736ae845da25a9a6f96ba47440990b4b16963e779e2", func := "berthage/berthagelaw39.TopoPicks", spec := "topoPicks", named := ["math/bits.deBruijn64tab"], apart := false, laid := [("math/bits.deBruijn64tab", laid_math_bits_deBruijn64tab)], narrowed := true }
def TopoPicksUptoSaid : Prop := topoPicksUptoRow.holds Tryd.pinned (OpenSpec.upto topoPicksSpec)

/-- 'berthagelaw39.TopoNobody', WHERE WHAT IT READS IS OF BULK AT MOST 1048576: true; the input reads as it did. -/
def topoNobodyUptoRow : OpenClaim := { program := "ytmjkgnlmdcmdbaadoor", sum := "d2df7a232f07997e05443736ae845da25a9a6f96ba47440990b4b16963e779e2", func := "berthage/berthagelaw39.TopoNobody", spec := "topoNobody", named := ["math/bits.deBruijn64tab"], apart := false, laid := [("math/bits.deBruijn64tab", laid_math_bits_deBruijn64tab)], narrowed := true }
def TopoNobodyUptoSaid : Prop := topoNobodyUptoRow.holds Tryd.pinned (OpenSpec.upto topoNobodySpec)

end Rows
end Go.Proofs.YtmjkgnlmdcmdbaaDoor
