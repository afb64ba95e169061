/-
  NARROWER THAN 'FOR EVERY INPUT', by the rows' own cells (each row's printed sentence says how): TraceOpens: laid · TraceAsks: laid · TraceNils: laid.
  DERIVED. THE GIVEN ROWS OF THIS SEAT. 3 by the template 'for every input the law returns true; each argument reads behind the call as it read before'; 0 by the template 'total and deterministic' (their statements: YtgcjjapcniocaaaGreatDoorTotals.lean).
  GIVEN WITH THE SEED: the statements are not yours to turn. If you find one false, say at which input.
  Laid BY PROGRAM, IN A SANDBOX (cutbox-rows.mjs): the forced cells as the released guide's own fill.sh prints them over the translation a60cd8b9dbfa0434… (all of the seat's roots in one cut). By AI agents, Wed Nov 11 2026. No macro, syntax, notation, axiom, sorry.
-/
import Derived.Test.YtgcjjapcniocaaaGreatDoorChecked
import GoSem.Claim
import GoSem.ClaimJoined
import GoSem.ClaimMapViews
import Derived.JoinedTies
import Derived.KernelRfl
namespace Go.Proofs.YtgcjjapcniocaaaGreatDoor
/- THE CELL 'sum', in the pinned program and in every row, IS THE sha256 OF THE DUMP (.gsa) THAT YtgcjjapcniocaaaGreatDoorProg.lean LOADS. Nothing in Lean hashes anything: it is a label: what it is worth is what the hold of that sum in a sandbox is worth. -/
noncomputable def Tryz.pinned : Pinned := { name := "ytgcjjapcniocaaagreatdoor", sum := "a60cd8b9dbfa043416c843d7142d0858de7d95a46fab451129c9c7e3da8ef4eb", checked := Tryz.checked }
namespace Rows
def none {H : Type} : Left H := { results := [], args := [] }

/- WHAT THE LISTED PACKAGE-LEVEL VARIABLES READ AS WHEN THE CALL BEGINS. Each datum BY PROGRAM (the guide's laid-datum.mjs) off the statement by which the dump's own 'gosem.cut.vars' lays the variable. In a bare row this is a premise. The card (YtgcjjapcniocaaaGreatDoorCards.lean) ties it to the program's text. -/
def laid_errors_errorType {H : Type} : DataW H := .iface "internal/reflectlite.rtype" (.agg [.ptr (.lit (.string [101, 114, 114, 111, 114]))])

/-- 'gristmilllaw32.TraceOpens': WHATEVER THE INPUT: true; the input reads as it did. -/
def traceOpensSpec : ChangeSpec := { name := "traceOpens", fn := fun _ => fun
  | [d1, d2] => { results := [.lit (.bool true)], args := [d1, d2] }
  | _ => none }
def traceOpensRow : OpenClaim := { program := "ytgcjjapcniocaaagreatdoor", sum := "a60cd8b9dbfa043416c843d7142d0858de7d95a46fab451129c9c7e3da8ef4eb", func := "gristmill/gristmilllaw32.TraceOpens", spec := "traceOpens", inPlace := ["internal/bytealg.abigen_runtime_cmpstring", "internal/bytealg.IndexByte", "internal/reflectlite.ValueOf", "(internal/reflectlite.Value).Type", "(internal/reflectlite.Value).IsNil", "internal/reflectlite.TypeOf", "(internal/reflectlite.Value).Elem", "(internal/reflectlite.Value).Set"], unfollowed := true, recurses := true, named := ["errors.errorType"], apart := false, laid := [("errors.errorType", laid_errors_errorType)] }
def TraceOpensSaid : Prop := traceOpensRow.holds Tryz.pinned (OpenSpec.ofChange traceOpensSpec)

/-- ITS FALSE NEIGHBOUR: 'it returns false'. Refute it at one input. -/
def traceOpensWrong : ChangeSpec := { name := "traceOpens", fn := fun _ => fun
  | [d1, d2] => { results := [.lit (.bool false)], args := [d1, d2] }
  | _ => none }
def TraceOpensWrongFalsely : Prop := traceOpensRow.holds Tryz.pinned (OpenSpec.ofChange traceOpensWrong)

/-- 'gristmilllaw32.TraceAsks': WHATEVER THE INPUT: true; the input reads as it did. -/
def traceAsksSpec : ChangeSpec := { name := "traceAsks", fn := fun _ => fun
  | [d1, d2, d3, d4] => { results := [.lit (.bool true)], args := [d1, d2, d3, d4] }
  | _ => none }
def traceAsksRow : OpenClaim := { program := "ytgcjjapcniocaaagreatdoor", sum := "a60cd8b9dbfa043416c843d7142d0858de7d95a46fab451129c9c7e3da8ef4eb", func := "gristmill/gristmilllaw32.TraceAsks", spec := "traceAsks", inPlace := ["internal/bytealg.abigen_runtime_cmpstring", "internal/bytealg.IndexByte", "internal/reflectlite.ValueOf", "(internal/reflectlite.Value).Type", "(internal/reflectlite.Value).IsNil", "internal/reflectlite.TypeOf", "(internal/reflectlite.Value).Elem", "(internal/reflectlite.Value).Set"], unfollowed := true, recurses := true, named := ["errors.errorType"], apart := false, laid := [("errors.errorType", laid_errors_errorType)] }
def TraceAsksSaid : Prop := traceAsksRow.holds Tryz.pinned (OpenSpec.ofChange traceAsksSpec)

/-- ITS FALSE NEIGHBOUR: 'it returns false'. Refute it at one input. -/
def traceAsksWrong : ChangeSpec := { name := "traceAsks", fn := fun _ => fun
  | [d1, d2, d3, d4] => { results := [.lit (.bool false)], args := [d1, d2, d3, d4] }
  | _ => none }
def TraceAsksWrongFalsely : Prop := traceAsksRow.holds Tryz.pinned (OpenSpec.ofChange traceAsksWrong)

/-- 'gristmilllaw32.TraceNils': WHATEVER THE INPUT: true; the input reads as it did. -/
def traceNilsSpec : ChangeSpec := { name := "traceNils", fn := fun _ => fun
  | [d1, d2] => { results := [.lit (.bool true)], args := [d1, d2] }
  | _ => none }
def traceNilsRow : OpenClaim := { program := "ytgcjjapcniocaaagreatdoor", sum := "a60cd8b9dbfa043416c843d7142d0858de7d95a46fab451129c9c7e3da8ef4eb", func := "gristmill/gristmilllaw32.TraceNils", spec := "traceNils", inPlace := ["internal/bytealg.abigen_runtime_cmpstring", "internal/reflectlite.ValueOf", "(internal/reflectlite.Value).Type", "(internal/reflectlite.Value).IsNil", "internal/reflectlite.TypeOf", "(internal/reflectlite.Value).Elem", "(internal/reflectlite.Value).Set", "internal/bytealg.IndexByte"], unfollowed := true, recurses := true, named := ["errors.errorType"], apart := false, laid := [("errors.errorType", laid_errors_errorType)] }
def TraceNilsSaid : Prop := traceNilsRow.holds Tryz.pinned (OpenSpec.ofChange traceNilsSpec)

/-- ITS FALSE NEIGHBOUR: 'it returns false'. Refute it at one input. -/
def traceNilsWrong : ChangeSpec := { name := "traceNils", fn := fun _ => fun
  | [d1, d2] => { results := [.lit (.bool false)], args := [d1, d2] }
  | _ => none }
def TraceNilsWrongFalsely : Prop := traceNilsRow.holds Tryz.pinned (OpenSpec.ofChange traceNilsWrong)

/- THE SECOND FORM. 'bulk': how many values and letters a reading holds, each counted each time it is reached (what is shared counts as often as it is met; a slice's spare places count too). A statement '..UptoSaid' is the law's where the arguments, and the package variables that the reading takes, are together of bulk at most 1048576: NARROWER than '..Said'. Prove '..Said' where nothing that the law and all that it calls make is longer than what came in: it says more and counts as full. Else prove '..UptoSaid'. A law counts once. -/
mutual
def uptoBulk {H : Type} : DataW H → Nat
  | .lit (.string bytes) => bytes.length + 1
  | .lit _ => 1
  | .nil => 1
  | .ptr d => uptoBulk d + 1
  | .slice elems spare => uptoBulkAll elems + uptoBulkAll spare + 1
  | .agg parts => uptoBulkAll parts + 1
  | .iface _ d => uptoBulk d + 1
  | .map entries => uptoBulkEntries entries + 1
  | .held _ => 1
def uptoBulkAll {H : Type} : List (DataW H) → Nat
  | [] => 0
  | d :: r => uptoBulk d + uptoBulkAll r
def uptoBulkEntries {H : Type} : List (Lit × DataW H) → Nat
  | [] => 0
  | x :: r => uptoBulkEntry x + uptoBulkEntries r
def uptoBulkEntry {H : Type} : Lit × DataW H → Nat
  | (.string bytes, d) => bytes.length + uptoBulk d + 1
  | (_, d) => uptoBulk d + 1
 end
def uptoSmall : (H : Type) → List (DataW H) → Bool := fun _ ds => decide (uptoBulkAll ds ≤ 1048576)
def OpenSpec.upto (s : _root_.Go.ChangeSpec) : _root_.Go.OpenSpec := { _root_.Go.OpenSpec.ofChange s with cond := some uptoSmall }

/-- 'gristmilllaw32.TraceOpens', WHERE WHAT IT READS IS OF BULK AT MOST 1048576: true; the input reads as it did. -/
def traceOpensUptoRow : OpenClaim := { program := "ytgcjjapcniocaaagreatdoor", sum := "a60cd8b9dbfa043416c843d7142d0858de7d95a46fab451129c9c7e3da8ef4eb", func := "gristmill/gristmilllaw32.TraceOpens", spec := "traceOpens", inPlace := ["internal/bytealg.abigen_runtime_cmpstring", "internal/bytealg.IndexByte", "internal/reflectlite.ValueOf", "(internal/reflectlite.Value).Type", "(internal/reflectlite.Value).IsNil", "internal/reflectlite.TypeOf", "(internal/reflectlite.Value).Elem", "(internal/reflectlite.Value).Set"], unfollowed := true, recurses := true, named := ["errors.errorType"], apart := false, laid := [("errors.errorType", laid_errors_errorType)], narrowed := true }
def TraceOpensUptoSaid : Prop := traceOpensUptoRow.holds Tryz.pinned (OpenSpec.upto traceOpensSpec)

/-- 'gristmilllaw32.TraceAsks', WHERE WHAT IT READS IS OF BULK AT MOST 1048576: true; the input reads as it did. -/
def traceAsksUptoRow : OpenClaim := { program := "ytgcjjapcniocaaagreatdoor", sum := "a60cd8b9dbfa043416c843d7142d0858de7d95a46fab451129c9c7e3da8ef4eb", func := "gristmill/gristmilllaw32.TraceAsks", spec := "traceAsks", inPlace := ["internal/bytealg.abigen_runtime_cmpstring", "internal/bytealg.IndexByte", "internal/reflectlite.ValueOf", "(internal/reflectlite.Value).Type", "(internal/reflectlite.Value).IsNil", "internal/reflectlite.TypeOf", "(internal/reflectlite.Value).Elem", "(internal/reflectlite.Value).Set"], unfollowed := true, recurses := true, named := ["errors.errorType"], apart := false, laid := [("errors.errorType", laid_errors_errorType)], narrowed := true }
def TraceAsksUptoSaid : Prop := traceAsksUptoRow.holds Tryz.pinned (OpenSpec.upto traceAsksSpec)

/-- 'gristmilllaw32.TraceNils', WHERE WHAT IT READS IS OF BULK AT MOST 1048576: true; the input reads as it did. -/
def traceNilsUptoRow : OpenClaim := { program := "ytgcjjapcniocaaagreatdoor", sum := "a60cd8b9dbfa043416c843d7142d0858de7d95a46fab451129c9c7e3da8ef4eb", func := "gristmill/gristmilllaw32.TraceNils", spec := "traceNils", inPlace := ["internal/bytealg.abigen_runtime_cmpstring", "internal/reflectlite.ValueOf", "(internal/reflectlite.Value).Type", "(internal/reflectlite.Value).IsNil", "internal/reflectlite.TypeOf", "(internal/reflectlite.Value).Elem", "(internal/reflectlite.Value).Set", "internal/bytealg.IndexByte"], unfollowed := true, recurses := true, named := ["errors.errorType"], apart := false, laid := [("errors.errorType", laid_errors_errorType)], narrowed := true }
def TraceNilsUptoSaid : Prop := traceNilsUptoRow.holds Tryz.pinned (OpenSpec.upto traceNilsSpec)

end Rows
end Go.Proofs.YtgcjjapcniocaaaGreatDoor
