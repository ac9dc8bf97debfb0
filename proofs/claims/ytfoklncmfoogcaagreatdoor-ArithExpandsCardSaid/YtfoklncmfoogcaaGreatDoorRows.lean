/-
  NARROWER THAN 'FOR EVERY INPUT', by the rows' own cells (each row's printed sentence says how): ArithCalcs: laid · ArithDivides: laid · ArithReplaces: loops, laid · ArithExpands: loops, laid · ArithParts: loops, laid.
  DERIVED. THE GIVEN ROWS OF THIS SEAT. 5 by the template 'for every input the law returns true; each argument reads behind the call as it read before'; 0 by the template 'total and deterministic' (their statements: YtfoklncmfoogcaaGreatDoorTotals.lean).
  GIVEN WITH THE SEED: the statements are not yours to turn. If you find one false, say at which input.
  Laid BY PROGRAM, IN A SANDBOX (cutbox-rows.mjs): the forced cells as the released guide's own fill.sh prints them over the translation 6d74a16e2ca4430e… (all of the seat's roots in one cut). By AI agents, Wed Nov 11 2026. No macro, syntax, notation, axiom, sorry.
-/
import Derived.Test.YtfoklncmfoogcaaGreatDoorChecked
import GoSem.PinnedTables
import GoSem.Claim
import GoSem.ClaimJoined
import GoSem.ClaimMapViews
import Derived.JoinedTies
import Derived.KernelRfl
namespace Go.Proofs.YtfoklncmfoogcaaGreatDoor
/- THE CELL 'sum', in the pinned program and in every row, IS THE sha256 OF THE DUMP (.gsa) THAT YtfoklncmfoogcaaGreatDoorProg.lean LOADS. Nothing in Lean hashes anything: it is a label: what it is worth is what the hold of that sum in a sandbox is worth. -/
noncomputable def Tryz.pinned : Pinned := { name := "ytfoklncmfoogcaagreatdoor", sum := "6d74a16e2ca4430ea9d1ac550842dd94bf12d5b18a602bc59814a486fb80111c", checked := Tryz.checked }
namespace Rows
def none {H : Type} : Left H := { results := [], args := [] }

/- WHAT THE LISTED PACKAGE-LEVEL VARIABLES READ AS WHEN THE CALL BEGINS. Each datum BY PROGRAM (the guide's laid-datum.mjs) off the statement by which the dump's own 'gosem.cut.vars' lays the variable. In a bare row this is a premise. The card (YtfoklncmfoogcaaGreatDoorCards.lean) ties it to the program's text. -/
def laid_unicode_utf8_acceptRanges {H : Type} : DataW H := .agg [.agg [.lit (.int .u8 128), .lit (.int .u8 191)], .agg [.lit (.int .u8 160), .lit (.int .u8 191)], .agg [.lit (.int .u8 128), .lit (.int .u8 159)], .agg [.lit (.int .u8 144), .lit (.int .u8 191)], .agg [.lit (.int .u8 128), .lit (.int .u8 143)], .agg [.lit (.int .u8 0), .lit (.int .u8 0)], .agg [.lit (.int .u8 0), .lit (.int .u8 0)], .agg [.lit (.int .u8 0), .lit (.int .u8 0)], .agg [.lit (.int .u8 0), .lit (.int .u8 0)], .agg [.lit (.int .u8 0), .lit (.int .u8 0)], .agg [.lit (.int .u8 0), .lit (.int .u8 0)], .agg [.lit (.int .u8 0), .lit (.int .u8 0)], .agg [.lit (.int .u8 0), .lit (.int .u8 0)], .agg [.lit (.int .u8 0), .lit (.int .u8 0)], .agg [.lit (.int .u8 0), .lit (.int .u8 0)], .agg [.lit (.int .u8 0), .lit (.int .u8 0)]]
/-- One of Go's own tables, pinned by name: the form's constant. -/
def laid_unicode_utf8_first : DataW Unit := Go.Pinned.utf8First

/-- 'ostlerlaw02.ArithCalcs': WHATEVER THE INPUT: true; the input reads as it did. -/
def arithCalcsSpec : ChangeSpec := { name := "arithCalcs", fn := fun _ => fun
  | [d1, d2] => { results := [.lit (.bool true)], args := [d1, d2] }
  | _ => none }
def arithCalcsRow : OpenClaim := { program := "ytfoklncmfoogcaagreatdoor", sum := "6d74a16e2ca4430ea9d1ac550842dd94bf12d5b18a602bc59814a486fb80111c", func := "ostler/ostlerlaw02.ArithCalcs", spec := "arithCalcs", inPlace := ["internal/bytealg.IndexByteString", "internal/bytealg.IndexString", "internal/bytealg.abigen_runtime_cmpstring"], unfollowed := true, recurses := true, named := ["internal/bytealg.MaxLen", "unicode/utf8.first", "unicode/utf8.acceptRanges"], apart := false, laid := [("unicode/utf8.acceptRanges", laid_unicode_utf8_acceptRanges), ("unicode/utf8.first", laid_unicode_utf8_first)] }
def ArithCalcsSaid : Prop := arithCalcsRow.holds Tryz.pinned (OpenSpec.ofChange arithCalcsSpec)

/-- ITS FALSE NEIGHBOUR: 'it returns false'. Refute it at one input. -/
def arithCalcsWrong : ChangeSpec := { name := "arithCalcs", fn := fun _ => fun
  | [d1, d2] => { results := [.lit (.bool false)], args := [d1, d2] }
  | _ => none }
def ArithCalcsWrongFalsely : Prop := arithCalcsRow.holds Tryz.pinned (OpenSpec.ofChange arithCalcsWrong)

/-- 'ostlerlaw02.ArithDivides': WHATEVER THE INPUT: true; the input reads as it did. -/
def arithDividesSpec : ChangeSpec := { name := "arithDivides", fn := fun _ => fun
  | [d1, d2] => { results := [.lit (.bool true)], args := [d1, d2] }
  | _ => none }
def arithDividesRow : OpenClaim := { program := "ytfoklncmfoogcaagreatdoor", sum := "6d74a16e2ca4430ea9d1ac550842dd94bf12d5b18a602bc59814a486fb80111c", func := "ostler/ostlerlaw02.ArithDivides", spec := "arithDivides", inPlace := ["internal/bytealg.IndexByteString", "internal/bytealg.IndexString", "internal/bytealg.abigen_runtime_cmpstring"], unfollowed := true, recurses := true, named := ["internal/bytealg.MaxLen", "unicode/utf8.first", "unicode/utf8.acceptRanges"], apart := false, laid := [("unicode/utf8.acceptRanges", laid_unicode_utf8_acceptRanges), ("unicode/utf8.first", laid_unicode_utf8_first)] }
def ArithDividesSaid : Prop := arithDividesRow.holds Tryz.pinned (OpenSpec.ofChange arithDividesSpec)

/-- ITS FALSE NEIGHBOUR: 'it returns false'. Refute it at one input. -/
def arithDividesWrong : ChangeSpec := { name := "arithDivides", fn := fun _ => fun
  | [d1, d2] => { results := [.lit (.bool false)], args := [d1, d2] }
  | _ => none }
def ArithDividesWrongFalsely : Prop := arithDividesRow.holds Tryz.pinned (OpenSpec.ofChange arithDividesWrong)

/-- 'ostlerlaw02.ArithReplaces': WHATEVER THE INPUT: true; the input reads as it did. -/
def arithReplacesSpec : ChangeSpec := { name := "arithReplaces", fn := fun _ => fun
  | [d1, d2, d3, d4] => { results := [.lit (.bool true)], args := [d1, d2, d3, d4] }
  | _ => none }
def arithReplacesRow : OpenClaim := { program := "ytfoklncmfoogcaagreatdoor", sum := "6d74a16e2ca4430ea9d1ac550842dd94bf12d5b18a602bc59814a486fb80111c", func := "ostler/ostlerlaw02.ArithReplaces", spec := "arithReplaces", inPlace := ["internal/bytealg.IndexByteString", "internal/bytealg.IndexString", "internal/bytealg.abigen_runtime_cmpstring"], unfollowed := true, recurses := true, named := ["internal/bytealg.MaxLen", "unicode/utf8.first", "unicode/utf8.acceptRanges"], loops := true, apart := false, laid := [("unicode/utf8.acceptRanges", laid_unicode_utf8_acceptRanges), ("unicode/utf8.first", laid_unicode_utf8_first)] }
def ArithReplacesSaid : Prop := arithReplacesRow.holds Tryz.pinned (OpenSpec.ofChange arithReplacesSpec)

/-- ITS FALSE NEIGHBOUR: 'it returns false'. Refute it at one input. -/
def arithReplacesWrong : ChangeSpec := { name := "arithReplaces", fn := fun _ => fun
  | [d1, d2, d3, d4] => { results := [.lit (.bool false)], args := [d1, d2, d3, d4] }
  | _ => none }
def ArithReplacesWrongFalsely : Prop := arithReplacesRow.holds Tryz.pinned (OpenSpec.ofChange arithReplacesWrong)

/-- 'ostlerlaw02.ArithExpands': WHATEVER THE INPUT: true; the input reads as it did. -/
def arithExpandsSpec : ChangeSpec := { name := "arithExpands", fn := fun _ => fun
  | [d] => { results := [.lit (.bool true)], args := [d] }
  | _ => none }
def arithExpandsRow : OpenClaim := { program := "ytfoklncmfoogcaagreatdoor", sum := "6d74a16e2ca4430ea9d1ac550842dd94bf12d5b18a602bc59814a486fb80111c", func := "ostler/ostlerlaw02.ArithExpands", spec := "arithExpands", inPlace := ["internal/bytealg.IndexByteString", "internal/bytealg.IndexString", "internal/bytealg.abigen_runtime_cmpstring"], unfollowed := true, recurses := true, named := ["internal/bytealg.MaxLen", "unicode/utf8.first", "unicode/utf8.acceptRanges"], loops := true, apart := false, laid := [("unicode/utf8.acceptRanges", laid_unicode_utf8_acceptRanges), ("unicode/utf8.first", laid_unicode_utf8_first)] }
def ArithExpandsSaid : Prop := arithExpandsRow.holds Tryz.pinned (OpenSpec.ofChange arithExpandsSpec)

/-- ITS FALSE NEIGHBOUR: 'it returns false'. Refute it at one input. -/
def arithExpandsWrong : ChangeSpec := { name := "arithExpands", fn := fun _ => fun
  | [d] => { results := [.lit (.bool false)], args := [d] }
  | _ => none }
def ArithExpandsWrongFalsely : Prop := arithExpandsRow.holds Tryz.pinned (OpenSpec.ofChange arithExpandsWrong)

/-- 'ostlerlaw02.ArithParts': WHATEVER THE INPUT: true; the input reads as it did. -/
def arithPartsSpec : ChangeSpec := { name := "arithParts", fn := fun _ => fun
  | [d] => { results := [.lit (.bool true)], args := [d] }
  | _ => none }
def arithPartsRow : OpenClaim := { program := "ytfoklncmfoogcaagreatdoor", sum := "6d74a16e2ca4430ea9d1ac550842dd94bf12d5b18a602bc59814a486fb80111c", func := "ostler/ostlerlaw02.ArithParts", spec := "arithParts", inPlace := ["internal/bytealg.IndexByteString", "internal/bytealg.IndexString", "internal/bytealg.abigen_runtime_cmpstring"], unfollowed := true, recurses := true, named := ["internal/bytealg.MaxLen", "unicode/utf8.first", "unicode/utf8.acceptRanges"], loops := true, apart := false, laid := [("unicode/utf8.acceptRanges", laid_unicode_utf8_acceptRanges), ("unicode/utf8.first", laid_unicode_utf8_first)] }
def ArithPartsSaid : Prop := arithPartsRow.holds Tryz.pinned (OpenSpec.ofChange arithPartsSpec)

/-- ITS FALSE NEIGHBOUR: 'it returns false'. Refute it at one input. -/
def arithPartsWrong : ChangeSpec := { name := "arithParts", fn := fun _ => fun
  | [d] => { results := [.lit (.bool false)], args := [d] }
  | _ => none }
def ArithPartsWrongFalsely : Prop := arithPartsRow.holds Tryz.pinned (OpenSpec.ofChange arithPartsWrong)

/- THE SECOND FORM. 'bulk': how many values and letters a reading holds, each counted each time it is reached (what is shared counts as often as it is met; a slice's spare places count too). A statement '..UptoSaid' is the law's where the arguments, and the package variables that the reading takes, are together of bulk at most 1048576: NARROWER than '..Said'. Prove '..Said' where nothing that the law and all that it calls make is longer than what came in: it says more and counts as full. Else prove '..UptoSaid'. A law counts once. -/
mutual
def uptoBulk {H : Type} : DataW H → Nat
  | .lit (.string bytes) => bytes.length + 1
  | .lit _ => 1
  | .nil => 1
  | .ptr d => uptoBulk d + 1
  | .slice elems spare => uptoBulkAll elems + uptoBulkAll spare + 1
  | .agg parts => uptoBulkAll parts + 1
  | .iface _ d => uptoBulk d + 1
  | .map entries => uptoBulkEntries entries + 1
  | .held _ => 1
def uptoBulkAll {H : Type} : List (DataW H) → Nat
  | [] => 0
  | d :: r => uptoBulk d + uptoBulkAll r
def uptoBulkEntries {H : Type} : List (Lit × DataW H) → Nat
  | [] => 0
  | x :: r => uptoBulkEntry x + uptoBulkEntries r
def uptoBulkEntry {H : Type} : Lit × DataW H → Nat
  | (.string bytes, d) => bytes.length + uptoBulk d + 1
  | (_, d) => uptoBulk d + 1
 end
def uptoSmall : (H : Type) → List (DataW H) → Bool := fun _ ds => decide (uptoBulkAll ds ≤ 1048576)
def OpenSpec.upto (s : _root_.Go.ChangeSpec) : _root_.Go.OpenSpec := { _root_.Go.OpenSpec.ofChange s with cond := some uptoSmall }

/-- 'ostlerlaw02.ArithCalcs', WHERE WHAT IT READS IS OF BULK AT MOST 1048576: true; the input reads as it did. -/
def arithCalcsUptoRow : OpenClaim := { program := "ytfoklncmfoogcaagreatdoor", sum := "6d74a16e2ca4430ea9d1ac550842dd94bf12d5b18a602bc59814a486fb80111c", func := "ostler/ostlerlaw02.ArithCalcs", spec := "arithCalcs", inPlace := ["internal/bytealg.IndexByteString", "internal/bytealg.IndexString", "internal/bytealg.abigen_runtime_cmpstring"], unfollowed := true, recurses := true, named := ["internal/bytealg.MaxLen", "unicode/utf8.first", "unicode/utf8.acceptRanges"], apart := false, laid := [("unicode/utf8.acceptRanges", laid_unicode_utf8_acceptRanges), ("unicode/utf8.first", laid_unicode_utf8_first)], narrowed := true }
def ArithCalcsUptoSaid : Prop := arithCalcsUptoRow.holds Tryz.pinned (OpenSpec.upto arithCalcsSpec)

/-- 'ostlerlaw02.ArithDivides', WHERE WHAT IT READS IS OF BULK AT MOST 1048576: true; the input reads as it did. -/
def arithDividesUptoRow : OpenClaim := { program := "ytfoklncmfoogcaagreatdoor", sum := "6d74a16e2ca4430ea9d1ac550842dd94bf12d5b18a602bc59814a486fb80111c", func := "ostler/ostlerlaw02.ArithDivides", spec := "arithDivides", inPlace := ["internal/bytealg.IndexByteString", "internal/bytealg.IndexString", "internal/bytealg.abigen_runtime_cmpstring"], unfollowed := true, recurses := true, named := ["internal/bytealg.MaxLen", "unicode/utf8.first", "unicode/utf8.acceptRanges"], apart := false, laid := [("unicode/utf8.acceptRanges", laid_unicode_utf8_acceptRanges), ("unicode/utf8.first", laid_unicode_utf8_first)], narrowed := true }
def ArithDividesUptoSaid : Prop := arithDividesUptoRow.holds Tryz.pinned (OpenSpec.upto arithDividesSpec)

/-- 'ostlerlaw02.ArithReplaces', WHERE WHAT IT READS IS OF BULK AT MOST 1048576: true; the input reads as it did. -/
def arithReplacesUptoRow : OpenClaim := { program := "ytfoklncmfoogcaagreatdoor", sum := "6d74a16e2ca4430ea9d1ac550842dd94bf12d5b18a602bc59814a486fb80111c", func := "ostler/ostlerlaw02.ArithReplaces", spec := "arithReplaces", inPlace := ["internal/bytealg.IndexByteString", "internal/bytealg.IndexString", "internal/bytealg.abigen_runtime_cmpstring"], unfollowed := true, recurses := true, named := ["internal/bytealg.MaxLen", "unicode/utf8.first", "unicode/utf8.acceptRanges"], loops := true, apart := false, laid := [("unicode/utf8.acceptRanges", laid_unicode_utf8_acceptRanges), ("unicode/utf8.first", laid_unicode_utf8_first)], narrowed := true }
def ArithReplacesUptoSaid : Prop := arithReplacesUptoRow.holds Tryz.pinned (OpenSpec.upto arithReplacesSpec)

/-- 'ostlerlaw02.ArithExpands', WHERE WHAT IT READS IS OF BULK AT MOST 1048576: true; the input reads as it did. -/
def arithExpandsUptoRow : OpenClaim := { program := "ytfoklncmfoogcaagreatdoor", sum := "6d74a16e2ca4430ea9d1ac550842dd94bf12d5b18a602bc59814a486fb80111c", func := "ostler/ostlerlaw02.ArithExpands", spec := "arithExpands", inPlace := ["internal/bytealg.IndexByteString", "internal/bytealg.IndexString", "internal/bytealg.abigen_runtime_cmpstring"], unfollowed := true, recurses := true, named := ["internal/bytealg.MaxLen", "unicode/utf8.first", "unicode/utf8.acceptRanges"], loops := true, apart := false, laid := [("unicode/utf8.acceptRanges", laid_unicode_utf8_acceptRanges), ("unicode/utf8.first", laid_unicode_utf8_first)], narrowed := true }
def ArithExpandsUptoSaid : Prop := arithExpandsUptoRow.holds Tryz.pinned (OpenSpec.upto arithExpandsSpec)

/-- 'ostlerlaw02.ArithParts', WHERE WHAT IT READS IS OF BULK AT MOST 1048576: true; the input reads as it did. -/
def arithPartsUptoRow : OpenClaim := { program := "ytfoklncmfoogcaagreatdoor", sum := "6d74a16e2ca4430ea9d1ac550842dd94bf12d5b18a602bc59814a486fb80111c", func := "ostler/ostlerlaw02.ArithParts", spec := "arithParts", inPlace := ["internal/bytealg.IndexByteString", "internal/bytealg.IndexString", "internal/bytealg.abigen_runtime_cmpstring"], unfollowed := true, recurses := true, named := ["internal/bytealg.MaxLen", "unicode/utf8.first", "unicode/utf8.acceptRanges"], loops := true, apart := false, laid := [("unicode/utf8.acceptRanges", laid_unicode_utf8_acceptRanges), ("unicode/utf8.first", laid_unicode_utf8_first)], narrowed := true }
def ArithPartsUptoSaid : Prop := arithPartsUptoRow.holds Tryz.pinned (OpenSpec.upto arithPartsSpec)

end Rows
end Go.Proofs.YtfoklncmfoogcaaGreatDoor
