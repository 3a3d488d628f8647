/-
  NARROWER THAN 'FOR EVERY INPUT', by the rows' own cells (each row's printed sentence says how): CopiesAltered: laid · CopiesChecks: laid · CopiesSalts: laid · CopiesGenuine: laid · CopiesBytes: laid.
  DERIVED. THE GIVEN ROWS OF THIS SEAT. 5 by the template 'for every input the law returns true; each argument reads behind the call as it read before'; 0 by the template 'total and deterministic' (their statements: YtbeaijjaecaidaaGreatDoorTotals.lean).
  GIVEN WITH THE SEED: the statements are not yours to turn. If you find one false, say at which input.
  Laid BY PROGRAM, IN A SANDBOX (cutbox-rows.mjs): the forced cells as the released guide's own fill.sh prints them over the translation d45179f2f4f18ce0… (all of the seat's roots in one cut). By AI agents, Wed Nov 11 2026. No macro, syntax, notation, axiom, sorry.
-/
import Derived.Test.YtbeaijjaecaidaaGreatDoorChecked
import GoSem.Claim
import GoSem.ClaimJoined
import GoSem.ClaimMapViews
import Derived.JoinedTies
import Derived.KernelRfl
namespace Go.Proofs.YtbeaijjaecaidaaGreatDoor
/- THE CELL 'sum', in the pinned program and in every row, IS THE sha256 OF THE DUMP (.gsa) THAT YtbeaijjaecaidaaGreatDoorProg.lean LOADS. Nothing in Lean hashes anything: it is a label: what it is worth is what the hold of that sum in a sandbox is worth. -/
noncomputable def Tryz.pinned : Pinned := { name := "ytbeaijjaecaidaagreatdoor", sum := "d45179f2f4f18ce0577f6b72881c358a241e31d506f08cbaa430312b8f99d4f9", checked := Tryz.checked }
namespace Rows
def none {H : Type} : Left H := { results := [], args := [] }

/- WHAT THE LISTED PACKAGE-LEVEL VARIABLES READ AS WHEN THE CALL BEGINS. Each datum BY PROGRAM (the guide's laid-datum.mjs) off the statement by which the dump's own 'gosem.cut.vars' lays the variable. In a bare row this is a premise. The card (YtbeaijjaecaidaaGreatDoorCards.lean) ties it to the program's text. -/
def laid_priorart_acts_fields {H : Type} : DataW H := .agg [.lit (.int .i64 655), .lit (.int .i64 1), .lit (.int .i64 1), .lit (.int .i64 257), .lit (.int .i64 61), .lit (.int .i64 20), .lit (.int .i64 17), .lit (.int .i64 17), .lit (.int .i64 49), .lit (.int .i64 17), .lit (.int .i64 1), .lit (.int .i64 1), .lit (.int .i64 5), .lit (.int .i64 281), .lit (.int .i64 5), .lit (.int .i64 257), .lit (.int .i64 77), .lit (.int .i64 29), .lit (.int .i64 17), .lit (.int .i64 1024), .lit (.int .i64 18), .lit (.int .i64 50)]

/-- 'priorartlaw37.CopiesAltered': WHATEVER THE INPUT: true; the input reads as it did. -/
def copiesAlteredSpec : ChangeSpec := { name := "copiesAltered", fn := fun _ => fun
  | [d1, d2, d3, d4] => { results := [.lit (.bool true)], args := [d1, d2, d3, d4] }
  | _ => none }
def copiesAlteredRow : OpenClaim := { program := "ytbeaijjaecaidaagreatdoor", sum := "d45179f2f4f18ce0577f6b72881c358a241e31d506f08cbaa430312b8f99d4f9", func := "priorart/priorartlaw37.CopiesAltered", spec := "copiesAltered", unfollowed := true, recurses := true, named := ["priorart/acts.fields"], plainKeys := false, apart := false, laid := [("priorart/acts.fields", laid_priorart_acts_fields)] }
def CopiesAlteredSaid : Prop := copiesAlteredRow.holds Tryz.pinned (OpenSpec.ofChange copiesAlteredSpec)

/-- ITS FALSE NEIGHBOUR: 'it returns false'. Refute it at one input. -/
def copiesAlteredWrong : ChangeSpec := { name := "copiesAltered", fn := fun _ => fun
  | [d1, d2, d3, d4] => { results := [.lit (.bool false)], args := [d1, d2, d3, d4] }
  | _ => none }
def CopiesAlteredWrongFalsely : Prop := copiesAlteredRow.holds Tryz.pinned (OpenSpec.ofChange copiesAlteredWrong)

/-- 'priorartlaw37.CopiesChecks': WHATEVER THE INPUT: true; the input reads as it did. -/
def copiesChecksSpec : ChangeSpec := { name := "copiesChecks", fn := fun _ => fun
  | [d1, d2, d3, d4, d5] => { results := [.lit (.bool true)], args := [d1, d2, d3, d4, d5] }
  | _ => none }
def copiesChecksRow : OpenClaim := { program := "ytbeaijjaecaidaagreatdoor", sum := "d45179f2f4f18ce0577f6b72881c358a241e31d506f08cbaa430312b8f99d4f9", func := "priorart/priorartlaw37.CopiesChecks", spec := "copiesChecks", unfollowed := true, recurses := true, named := ["priorart/acts.fields"], plainKeys := false, apart := false, laid := [("priorart/acts.fields", laid_priorart_acts_fields)] }
def CopiesChecksSaid : Prop := copiesChecksRow.holds Tryz.pinned (OpenSpec.ofChange copiesChecksSpec)

/-- ITS FALSE NEIGHBOUR: 'it returns false'. Refute it at one input. -/
def copiesChecksWrong : ChangeSpec := { name := "copiesChecks", fn := fun _ => fun
  | [d1, d2, d3, d4, d5] => { results := [.lit (.bool false)], args := [d1, d2, d3, d4, d5] }
  | _ => none }
def CopiesChecksWrongFalsely : Prop := copiesChecksRow.holds Tryz.pinned (OpenSpec.ofChange copiesChecksWrong)

/-- 'priorartlaw37.CopiesSalts': WHATEVER THE INPUT: true; the input reads as it did. -/
def copiesSaltsSpec : ChangeSpec := { name := "copiesSalts", fn := fun _ => fun
  | [d1, d2, d3] => { results := [.lit (.bool true)], args := [d1, d2, d3] }
  | _ => none }
def copiesSaltsRow : OpenClaim := { program := "ytbeaijjaecaidaagreatdoor", sum := "d45179f2f4f18ce0577f6b72881c358a241e31d506f08cbaa430312b8f99d4f9", func := "priorart/priorartlaw37.CopiesSalts", spec := "copiesSalts", unfollowed := true, recurses := true, named := ["priorart/acts.fields"], plainKeys := false, apart := false, laid := [("priorart/acts.fields", laid_priorart_acts_fields)] }
def CopiesSaltsSaid : Prop := copiesSaltsRow.holds Tryz.pinned (OpenSpec.ofChange copiesSaltsSpec)

/-- ITS FALSE NEIGHBOUR: 'it returns false'. Refute it at one input. -/
def copiesSaltsWrong : ChangeSpec := { name := "copiesSalts", fn := fun _ => fun
  | [d1, d2, d3] => { results := [.lit (.bool false)], args := [d1, d2, d3] }
  | _ => none }
def CopiesSaltsWrongFalsely : Prop := copiesSaltsRow.holds Tryz.pinned (OpenSpec.ofChange copiesSaltsWrong)

/-- 'priorartlaw37.CopiesGenuine': WHATEVER THE INPUT: true; the input reads as it did. -/
def copiesGenuineSpec : ChangeSpec := { name := "copiesGenuine", fn := fun _ => fun
  | [d1, d2] => { results := [.lit (.bool true)], args := [d1, d2] }
  | _ => none }
def copiesGenuineRow : OpenClaim := { program := "ytbeaijjaecaidaagreatdoor", sum := "d45179f2f4f18ce0577f6b72881c358a241e31d506f08cbaa430312b8f99d4f9", func := "priorart/priorartlaw37.CopiesGenuine", spec := "copiesGenuine", unfollowed := true, recurses := true, named := ["priorart/acts.fields"], plainKeys := false, apart := false, laid := [("priorart/acts.fields", laid_priorart_acts_fields)] }
def CopiesGenuineSaid : Prop := copiesGenuineRow.holds Tryz.pinned (OpenSpec.ofChange copiesGenuineSpec)

/-- ITS FALSE NEIGHBOUR: 'it returns false'. Refute it at one input. -/
def copiesGenuineWrong : ChangeSpec := { name := "copiesGenuine", fn := fun _ => fun
  | [d1, d2] => { results := [.lit (.bool false)], args := [d1, d2] }
  | _ => none }
def CopiesGenuineWrongFalsely : Prop := copiesGenuineRow.holds Tryz.pinned (OpenSpec.ofChange copiesGenuineWrong)

/-- 'priorartlaw37.CopiesBytes': WHATEVER THE INPUT: true; the input reads as it did. -/
def copiesBytesSpec : ChangeSpec := { name := "copiesBytes", fn := fun _ => fun
  | [d1, d2, d3, d4, d5, d6] => { results := [.lit (.bool true)], args := [d1, d2, d3, d4, d5, d6] }
  | _ => none }
def copiesBytesRow : OpenClaim := { program := "ytbeaijjaecaidaagreatdoor", sum := "d45179f2f4f18ce0577f6b72881c358a241e31d506f08cbaa430312b8f99d4f9", func := "priorart/priorartlaw37.CopiesBytes", spec := "copiesBytes", unfollowed := true, recurses := true, named := ["priorart/acts.fields"], plainKeys := false, apart := false, laid := [("priorart/acts.fields", laid_priorart_acts_fields)] }
def CopiesBytesSaid : Prop := copiesBytesRow.holds Tryz.pinned (OpenSpec.ofChange copiesBytesSpec)

/-- ITS FALSE NEIGHBOUR: 'it returns false'. Refute it at one input. -/
def copiesBytesWrong : ChangeSpec := { name := "copiesBytes", fn := fun _ => fun
  | [d1, d2, d3, d4, d5, d6] => { results := [.lit (.bool false)], args := [d1, d2, d3, d4, d5, d6] }
  | _ => none }
def CopiesBytesWrongFalsely : Prop := copiesBytesRow.holds Tryz.pinned (OpenSpec.ofChange copiesBytesWrong)

/- THE SECOND FORM. 'bulk': how many values and letters a reading holds, each counted each time it is reached (what is shared counts as often as it is met; a slice's spare places count too). A statement '..UptoSaid' is the law's where the arguments, and the package variables that the reading takes, are together of bulk at most 1048576: NARROWER than '..Said'. Prove '..Said' where nothing that the law and all that it calls make is longer than what came in: it says more and counts as full. Else prove '..UptoSaid'. A law counts once. -/
mutual
def uptoBulk {H : Type} : DataW H → Nat
  | .lit (.string bytes) => bytes.length + 1
  | .lit _ => 1
  | .nil => 1
  | .ptr d => uptoBulk d + 1
  | .slice elems spare => uptoBulkAll elems + uptoBulkAll spare + 1
  | .agg parts => uptoBulkAll parts + 1
  | .iface _ d => uptoBulk d + 1
  | .map entries => uptoBulkEntries entries + 1
  | .held _ => 1
def uptoBulkAll {H : Type} : List (DataW H) → Nat
  | [] => 0
  | d :: r => uptoBulk d + uptoBulkAll r
def uptoBulkEntries {H : Type} : List (Lit × DataW H) → Nat
  | [] => 0
  | x :: r => uptoBulkEntry x + uptoBulkEntries r
def uptoBulkEntry {H : Type} : Lit × DataW H → Nat
  | (.string bytes, d) => bytes.length + uptoBulk d + 1
  | (_, d) => uptoBulk d + 1
 end
def uptoSmall : (H : Type) → List (DataW H) → Bool := fun _ ds => decide (uptoBulkAll ds ≤ 1048576)
def OpenSpec.upto (s : _root_.Go.ChangeSpec) : _root_.Go.OpenSpec := { _root_.Go.OpenSpec.ofChange s with cond := some uptoSmall }

/-- 'priorartlaw37.CopiesAltered', WHERE WHAT IT READS IS OF BULK AT MOST 1048576: true; the input reads as it did. -/
def copiesAlteredUptoRow : OpenClaim := { program := "ytbeaijjaecaidaagreatdoor", sum := "d45179f2f4f18ce0577f6b72881c358a241e31d506f08cbaa430312b8f99d4f9", func := "priorart/priorartlaw37.CopiesAltered", spec := "copiesAltered", unfollowed := true, recurses := true, named := ["priorart/acts.fields"], plainKeys := false, apart := false, laid := [("priorart/acts.fields", laid_priorart_acts_fields)], narrowed := true }
def CopiesAlteredUptoSaid : Prop := copiesAlteredUptoRow.holds Tryz.pinned (OpenSpec.upto copiesAlteredSpec)

/-- 'priorartlaw37.CopiesChecks', WHERE WHAT IT READS IS OF BULK AT MOST 1048576: true; the input reads as it did. -/
def copiesChecksUptoRow : OpenClaim := { program := "ytbeaijjaecaidaagreatdoor", sum := "d45179f2f4f18ce0577f6b72881c358a241e31d506f08cbaa430312b8f99d4f9", func := "priorart/priorartlaw37.CopiesChecks", spec := "copiesChecks", unfollowed := true, recurses := true, named := ["priorart/acts.fields"], plainKeys := false, apart := false, laid := [("priorart/acts.fields", laid_priorart_acts_fields)], narrowed := true }
def CopiesChecksUptoSaid : Prop := copiesChecksUptoRow.holds Tryz.pinned (OpenSpec.upto copiesChecksSpec)

/-- 'priorartlaw37.CopiesSalts', WHERE WHAT IT READS IS OF BULK AT MOST 1048576: true; the input reads as it did. -/
def copiesSaltsUptoRow : OpenClaim := { program := "ytbeaijjaecaidaagreatdoor", sum := "d45179f2f4f18ce0577f6b72881c358a241e31d506f08cbaa430312b8f99d4f9", func := "priorart/priorartlaw37.CopiesSalts", spec := "copiesSalts", unfollowed := true, recurses := true, named := ["priorart/acts.fields"], plainKeys := false, apart := false, laid := [("priorart/acts.fields", laid_priorart_acts_fields)], narrowed := true }
def CopiesSaltsUptoSaid : Prop := copiesSaltsUptoRow.holds Tryz.pinned (OpenSpec.upto copiesSaltsSpec)

/-- 'priorartlaw37.CopiesGenuine', WHERE WHAT IT READS IS OF BULK AT MOST 1048576: true; the input reads as it did. -/
def copiesGenuineUptoRow : OpenClaim := { program := "ytbeaijjaecaidaagreatdoor", sum := "d45179f2f4f18ce0577f6b72881c358a241e31d506f08cbaa430312b8f99d4f9", func := "priorart/priorartlaw37.CopiesGenuine", spec := "copiesGenuine", unfollowed := true, recurses := true, named := ["priorart/acts.fields"], plainKeys := false, apart := false, laid := [("priorart/acts.fields", laid_priorart_acts_fields)], narrowed := true }
def CopiesGenuineUptoSaid : Prop := copiesGenuineUptoRow.holds Tryz.pinned (OpenSpec.upto copiesGenuineSpec)

/-- 'priorartlaw37.CopiesBytes', WHERE WHAT IT READS IS OF BULK AT MOST 1048576: true; the input reads as it did. -/
def copiesBytesUptoRow : OpenClaim := { program := "ytbeaijjaecaidaagreatdoor", sum := "d45179f2f4f18ce0577f6b72881c358a241e31d506f08cbaa430312b8f99d4f9", func := "priorart/priorartlaw37.CopiesBytes", spec := "copiesBytes", unfollowed := true, recurses := true, named := ["priorart/acts.fields"], plainKeys := false, apart := false, laid := [("priorart/acts.fields", laid_priorart_acts_fields)], narrowed := true }
def CopiesBytesUptoSaid : Prop := copiesBytesUptoRow.holds Tryz.pinned (OpenSpec.upto copiesBytesSpec)

end Rows
end Go.Proofs.YtbeaijjaecaidaaGreatDoor
