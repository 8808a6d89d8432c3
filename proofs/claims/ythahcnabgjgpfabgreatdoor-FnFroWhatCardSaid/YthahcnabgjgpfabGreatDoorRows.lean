/-
  NARROWER THAN 'FOR EVERY INPUT', by the rows' own cells (each row's printed sentence says how): FnExactFroHear: laid · FnFroOrder: laid · FnFroWhat: laid · FnFroTwice: laid · FnFroApart: laid · FnFroHear: laid.
  DERIVED. THE GIVEN ROWS OF THIS SEAT. 6 by the template 'for every input the law returns true; each argument reads behind the call as it read before'; 0 by the template 'total and deterministic' (their statements: YthahcnabgjgpfabGreatDoorTotals.lean).
  GIVEN WITH THE SEED: the statements are not yours to turn. If you find one false, say at which input.
  Laid BY PROGRAM, IN A SANDBOX (cutbox-rows.mjs): the forced cells as the released guide's own fill.sh prints them over the translation e1a26497248e3dc1… (all of the seat's roots in one cut). By AI agents, Wed Nov 11 2026. No macro, syntax, notation, axiom, sorry.
-/
import Derived.Test.YthahcnabgjgpfabGreatDoorChecked
import GoSem.PinnedTables
import GoSem.Claim
import GoSem.ClaimJoined
import GoSem.ClaimMapViews
import Derived.JoinedTies
import Derived.KernelRfl
namespace Go.Proofs.YthahcnabgjgpfabGreatDoor
/- THE CELL 'sum', in the pinned program and in every row, IS THE sha256 OF THE DUMP (.gsa) THAT YthahcnabgjgpfabGreatDoorProg.lean LOADS. Nothing in Lean hashes anything: it is a label: what it is worth is what the hold of that sum in a sandbox is worth. -/
noncomputable def Tryz.pinned : Pinned := { name := "ythahcnabgjgpfabgreatdoor", sum := "e1a26497248e3dc142917cd8ac73d1e2779b73b0374bcc8dcac141a42dee1b58", checked := Tryz.checked }
namespace Rows
def none {H : Type} : Left H := { results := [], args := [] }

/- WHAT THE LISTED PACKAGE-LEVEL VARIABLES READ AS WHEN THE CALL BEGINS. Each datum BY PROGRAM (the guide's laid-datum.mjs) off the statement by which the dump's own 'gosem.cut.vars' lays the variable. In a bare row this is a premise. The card (YthahcnabgjgpfabGreatDoorCards.lean) ties it to the program's text. -/
def laid_unicode_utf8_acceptRanges {H : Type} : DataW H := .agg [.agg [.lit (.int .u8 128), .lit (.int .u8 191)], .agg [.lit (.int .u8 160), .lit (.int .u8 191)], .agg [.lit (.int .u8 128), .lit (.int .u8 159)], .agg [.lit (.int .u8 144), .lit (.int .u8 191)], .agg [.lit (.int .u8 128), .lit (.int .u8 143)], .agg [.lit (.int .u8 0), .lit (.int .u8 0)], .agg [.lit (.int .u8 0), .lit (.int .u8 0)], .agg [.lit (.int .u8 0), .lit (.int .u8 0)], .agg [.lit (.int .u8 0), .lit (.int .u8 0)], .agg [.lit (.int .u8 0), .lit (.int .u8 0)], .agg [.lit (.int .u8 0), .lit (.int .u8 0)], .agg [.lit (.int .u8 0), .lit (.int .u8 0)], .agg [.lit (.int .u8 0), .lit (.int .u8 0)], .agg [.lit (.int .u8 0), .lit (.int .u8 0)], .agg [.lit (.int .u8 0), .lit (.int .u8 0)], .agg [.lit (.int .u8 0), .lit (.int .u8 0)]]
/-- One of Go's own tables, pinned by name: the form's constant. -/
def laid_unicode_utf8_first : DataW Unit := Go.Pinned.utf8First

/-- 'laws.FnExactFroHear': WHATEVER THE INPUT: true; the input reads as it did. -/
def fnExactFroHearSpec : ChangeSpec := { name := "fnExactFroHear", fn := fun _ => fun
  | [d1, d2] => { results := [.lit (.bool true)], args := [d1, d2] }
  | _ => none }
def fnExactFroHearRow : OpenClaim := { program := "ythahcnabgjgpfabgreatdoor", sum := "e1a26497248e3dc142917cd8ac73d1e2779b73b0374bcc8dcac141a42dee1b58", func := "loop.example/janitor/laws.FnExactFroHear", spec := "fnExactFroHear", inPlace := ["internal/bytealg.IndexByteString", "internal/bytealg.IndexString", "slices.overlaps[int]"], unfollowed := true, recurses := true, named := ["unicode/utf8.first", "unicode/utf8.acceptRanges", "internal/bytealg.MaxLen"], apart := false, laid := [("unicode/utf8.acceptRanges", laid_unicode_utf8_acceptRanges), ("unicode/utf8.first", laid_unicode_utf8_first)] }
def FnExactFroHearSaid : Prop := fnExactFroHearRow.holds Tryz.pinned (OpenSpec.ofChange fnExactFroHearSpec)

/-- ITS FALSE NEIGHBOUR: 'it returns false'. Refute it at one input. -/
def fnExactFroHearWrong : ChangeSpec := { name := "fnExactFroHear", fn := fun _ => fun
  | [d1, d2] => { results := [.lit (.bool false)], args := [d1, d2] }
  | _ => none }
def FnExactFroHearWrongFalsely : Prop := fnExactFroHearRow.holds Tryz.pinned (OpenSpec.ofChange fnExactFroHearWrong)

/-- 'laws.FnFroOrder': WHATEVER THE INPUT: true; the input reads as it did. -/
def fnFroOrderSpec : ChangeSpec := { name := "fnFroOrder", fn := fun _ => fun
  | [d] => { results := [.lit (.bool true)], args := [d] }
  | _ => none }
def fnFroOrderRow : OpenClaim := { program := "ythahcnabgjgpfabgreatdoor", sum := "e1a26497248e3dc142917cd8ac73d1e2779b73b0374bcc8dcac141a42dee1b58", func := "loop.example/janitor/laws.FnFroOrder", spec := "fnFroOrder", inPlace := ["internal/bytealg.IndexByteString", "internal/bytealg.IndexString", "slices.overlaps[int]"], unfollowed := true, recurses := true, named := ["unicode/utf8.first", "unicode/utf8.acceptRanges", "internal/bytealg.MaxLen"], apart := false, laid := [("unicode/utf8.acceptRanges", laid_unicode_utf8_acceptRanges), ("unicode/utf8.first", laid_unicode_utf8_first)] }
def FnFroOrderSaid : Prop := fnFroOrderRow.holds Tryz.pinned (OpenSpec.ofChange fnFroOrderSpec)

/-- ITS FALSE NEIGHBOUR: 'it returns false'. Refute it at one input. -/
def fnFroOrderWrong : ChangeSpec := { name := "fnFroOrder", fn := fun _ => fun
  | [d] => { results := [.lit (.bool false)], args := [d] }
  | _ => none }
def FnFroOrderWrongFalsely : Prop := fnFroOrderRow.holds Tryz.pinned (OpenSpec.ofChange fnFroOrderWrong)

/-- 'laws.FnFroWhat': WHATEVER THE INPUT: true; the input reads as it did. -/
def fnFroWhatSpec : ChangeSpec := { name := "fnFroWhat", fn := fun _ => fun
  | [d] => { results := [.lit (.bool true)], args := [d] }
  | _ => none }
def fnFroWhatRow : OpenClaim := { program := "ythahcnabgjgpfabgreatdoor", sum := "e1a26497248e3dc142917cd8ac73d1e2779b73b0374bcc8dcac141a42dee1b58", func := "loop.example/janitor/laws.FnFroWhat", spec := "fnFroWhat", inPlace := ["internal/bytealg.IndexByteString", "internal/bytealg.IndexString", "slices.overlaps[int]"], unfollowed := true, recurses := true, named := ["unicode/utf8.first", "unicode/utf8.acceptRanges", "internal/bytealg.MaxLen"], apart := false, laid := [("unicode/utf8.acceptRanges", laid_unicode_utf8_acceptRanges), ("unicode/utf8.first", laid_unicode_utf8_first)] }
def FnFroWhatSaid : Prop := fnFroWhatRow.holds Tryz.pinned (OpenSpec.ofChange fnFroWhatSpec)

/-- ITS FALSE NEIGHBOUR: 'it returns false'. Refute it at one input. -/
def fnFroWhatWrong : ChangeSpec := { name := "fnFroWhat", fn := fun _ => fun
  | [d] => { results := [.lit (.bool false)], args := [d] }
  | _ => none }
def FnFroWhatWrongFalsely : Prop := fnFroWhatRow.holds Tryz.pinned (OpenSpec.ofChange fnFroWhatWrong)

/-- 'laws.FnFroTwice': WHATEVER THE INPUT: true; the input reads as it did. -/
def fnFroTwiceSpec : ChangeSpec := { name := "fnFroTwice", fn := fun _ => fun
  | [d] => { results := [.lit (.bool true)], args := [d] }
  | _ => none }
def fnFroTwiceRow : OpenClaim := { program := "ythahcnabgjgpfabgreatdoor", sum := "e1a26497248e3dc142917cd8ac73d1e2779b73b0374bcc8dcac141a42dee1b58", func := "loop.example/janitor/laws.FnFroTwice", spec := "fnFroTwice", inPlace := ["internal/bytealg.IndexByteString", "internal/bytealg.IndexString", "slices.overlaps[int]"], unfollowed := true, recurses := true, named := ["unicode/utf8.first", "unicode/utf8.acceptRanges", "internal/bytealg.MaxLen"], apart := false, laid := [("unicode/utf8.acceptRanges", laid_unicode_utf8_acceptRanges), ("unicode/utf8.first", laid_unicode_utf8_first)] }
def FnFroTwiceSaid : Prop := fnFroTwiceRow.holds Tryz.pinned (OpenSpec.ofChange fnFroTwiceSpec)

/-- ITS FALSE NEIGHBOUR: 'it returns false'. Refute it at one input. -/
def fnFroTwiceWrong : ChangeSpec := { name := "fnFroTwice", fn := fun _ => fun
  | [d] => { results := [.lit (.bool false)], args := [d] }
  | _ => none }
def FnFroTwiceWrongFalsely : Prop := fnFroTwiceRow.holds Tryz.pinned (OpenSpec.ofChange fnFroTwiceWrong)

/-- 'laws.FnFroApart': WHATEVER THE INPUT: true; the input reads as it did. -/
def fnFroApartSpec : ChangeSpec := { name := "fnFroApart", fn := fun _ => fun
  | [d1, d2] => { results := [.lit (.bool true)], args := [d1, d2] }
  | _ => none }
def fnFroApartRow : OpenClaim := { program := "ythahcnabgjgpfabgreatdoor", sum := "e1a26497248e3dc142917cd8ac73d1e2779b73b0374bcc8dcac141a42dee1b58", func := "loop.example/janitor/laws.FnFroApart", spec := "fnFroApart", inPlace := ["internal/bytealg.IndexByteString", "internal/bytealg.IndexString", "slices.overlaps[int]"], unfollowed := true, recurses := true, named := ["unicode/utf8.first", "unicode/utf8.acceptRanges", "internal/bytealg.MaxLen"], apart := false, laid := [("unicode/utf8.acceptRanges", laid_unicode_utf8_acceptRanges), ("unicode/utf8.first", laid_unicode_utf8_first)] }
def FnFroApartSaid : Prop := fnFroApartRow.holds Tryz.pinned (OpenSpec.ofChange fnFroApartSpec)

/-- ITS FALSE NEIGHBOUR: 'it returns false'. Refute it at one input. -/
def fnFroApartWrong : ChangeSpec := { name := "fnFroApart", fn := fun _ => fun
  | [d1, d2] => { results := [.lit (.bool false)], args := [d1, d2] }
  | _ => none }
def FnFroApartWrongFalsely : Prop := fnFroApartRow.holds Tryz.pinned (OpenSpec.ofChange fnFroApartWrong)

/-- 'laws.FnFroHear': WHATEVER THE INPUT: true; the input reads as it did. -/
def fnFroHearSpec : ChangeSpec := { name := "fnFroHear", fn := fun _ => fun
  | [d] => { results := [.lit (.bool true)], args := [d] }
  | _ => none }
def fnFroHearRow : OpenClaim := { program := "ythahcnabgjgpfabgreatdoor", sum := "e1a26497248e3dc142917cd8ac73d1e2779b73b0374bcc8dcac141a42dee1b58", func := "loop.example/janitor/laws.FnFroHear", spec := "fnFroHear", inPlace := ["internal/bytealg.IndexByteString", "internal/bytealg.IndexString", "slices.overlaps[int]"], unfollowed := true, recurses := true, named := ["unicode/utf8.first", "unicode/utf8.acceptRanges", "internal/bytealg.MaxLen"], apart := false, laid := [("unicode/utf8.acceptRanges", laid_unicode_utf8_acceptRanges), ("unicode/utf8.first", laid_unicode_utf8_first)] }
def FnFroHearSaid : Prop := fnFroHearRow.holds Tryz.pinned (OpenSpec.ofChange fnFroHearSpec)

/-- ITS FALSE NEIGHBOUR: 'it returns false'. Refute it at one input. -/
def fnFroHearWrong : ChangeSpec := { name := "fnFroHear", fn := fun _ => fun
  | [d] => { results := [.lit (.bool false)], args := [d] }
  | _ => none }
def FnFroHearWrongFalsely : Prop := fnFroHearRow.holds Tryz.pinned (OpenSpec.ofChange fnFroHearWrong)

/- THE SECOND FORM. 'bulk': how many values and letters a reading holds, each counted each time it is reached (what is shared counts as often as it is met; a slice's spare places count too). A statement '..UptoSaid' is the law's where the arguments, and the package variables that the reading takes, are together of bulk at most 1048576: NARROWER than '..Said'. Prove '..Said' where nothing that the law and all that it calls make is longer than what came in: it says more and counts as full. Else prove '..UptoSaid'. A law counts once. -/
mutual
def uptoBulk {H : Type} : DataW H → Nat
  | .lit (.string bytes) => bytes.length + 1
  | .lit _ => 1
  | .nil => 1
  | .ptr d => uptoBulk d + 1
  | .slice elems spare => uptoBulkAll elems + uptoBulkAll spare + 1
  | .agg parts => uptoBulkAll parts + 1
  | .iface _ d => uptoBulk d + 1
  | .map entries => uptoBulkEntries entries + 1
  | .held _ => 1
def uptoBulkAll {H : Type} : List (DataW H) → Nat
  | [] => 0
  | d :: r => uptoBulk d + uptoBulkAll r
def uptoBulkEntries {H : Type} : List (Lit × DataW H) → Nat
  | [] => 0
  | x :: r => uptoBulkEntry x + uptoBulkEntries r
def uptoBulkEntry {H : Type} : Lit × DataW H → Nat
  | (.string bytes, d) => bytes.length + uptoBulk d + 1
  | (_, d) => uptoBulk d + 1
 end
def uptoSmall : (H : Type) → List (DataW H) → Bool := fun _ ds => decide (uptoBulkAll ds ≤ 1048576)
def OpenSpec.upto (s : _root_.Go.ChangeSpec) : _root_.Go.OpenSpec := { _root_.Go.OpenSpec.ofChange s with cond := some uptoSmall }

/-- 'laws.FnExactFroHear', WHERE WHAT IT READS IS OF BULK AT MOST 1048576: true; the input reads as it did. -/
def fnExactFroHearUptoRow : OpenClaim := { program := "ythahcnabgjgpfabgreatdoor", sum := "e1a26497248e3dc142917cd8ac73d1e2779b73b0374bcc8dcac141a42dee1b58", func := "loop.example/janitor/laws.FnExactFroHear", spec := "fnExactFroHear", inPlace := ["internal/bytealg.IndexByteString", "internal/bytealg.IndexString", "slices.overlaps[int]"], unfollowed := true, recurses := true, named := ["unicode/utf8.first", "unicode/utf8.acceptRanges", "internal/bytealg.MaxLen"], apart := false, laid := [("unicode/utf8.acceptRanges", laid_unicode_utf8_acceptRanges), ("unicode/utf8.first", laid_unicode_utf8_first)], narrowed := true }
def FnExactFroHearUptoSaid : Prop := fnExactFroHearUptoRow.holds Tryz.pinned (OpenSpec.upto fnExactFroHearSpec)

/-- 'laws.FnFroOrder', WHERE WHAT IT READS IS OF BULK AT MOST 1048576: true; the input reads as it did. -/
def fnFroOrderUptoRow : OpenClaim := { program := "ythahcnabgjgpfabgreatdoor", sum := "e1a26497248e3dc142917cd8ac73d1e2779b73b0374bcc8dcac141a42dee1b58", func := "loop.example/janitor/laws.FnFroOrder", spec := "fnFroOrder", inPlace := ["internal/bytealg.IndexByteString", "internal/bytealg.IndexString", "slices.overlaps[int]"], unfollowed := true, recurses := true, named := ["unicode/utf8.first", "unicode/utf8.acceptRanges", "internal/bytealg.MaxLen"], apart := false, laid := [("unicode/utf8.acceptRanges", laid_unicode_utf8_acceptRanges), ("unicode/utf8.first", laid_unicode_utf8_first)], narrowed := true }
def FnFroOrderUptoSaid : Prop := fnFroOrderUptoRow.holds Tryz.pinned (OpenSpec.upto fnFroOrderSpec)

/-- 'laws.FnFroWhat', WHERE WHAT IT READS IS OF BULK AT MOST 1048576: true; the input reads as it did. -/
def fnFroWhatUptoRow : OpenClaim := { program := "ythahcnabgjgpfabgreatdoor", sum := "e1a26497248e3dc142917cd8ac73d1e2779b73b0374bcc8dcac141a42dee1b58", func := "loop.example/janitor/laws.FnFroWhat", spec := "fnFroWhat", inPlace := ["internal/bytealg.IndexByteString", "internal/bytealg.IndexString", "slices.overlaps[int]"], unfollowed := true, recurses := true, named := ["unicode/utf8.first", "unicode/utf8.acceptRanges", "internal/bytealg.MaxLen"], apart := false, laid := [("unicode/utf8.acceptRanges", laid_unicode_utf8_acceptRanges), ("unicode/utf8.first", laid_unicode_utf8_first)], narrowed := true }
def FnFroWhatUptoSaid : Prop := fnFroWhatUptoRow.holds Tryz.pinned (OpenSpec.upto fnFroWhatSpec)

/-- 'laws.FnFroTwice', WHERE WHAT IT READS IS OF BULK AT MOST 1048576: true; the input reads as it did. -/
def fnFroTwiceUptoRow : OpenClaim := { program := "ythahcnabgjgpfabgreatdoor", sum := "e1a26497248e3dc142917cd8ac73d1e2779b73b0374bcc8dcac141a42dee1b58", func := "loop.example/janitor/laws.FnFroTwice", spec := "fnFroTwice", inPlace := ["internal/bytealg.IndexByteString", "internal/bytealg.IndexString", "slices.overlaps[int]"], unfollowed := true, recurses := true, named := ["unicode/utf8.first", "unicode/utf8.acceptRanges", "internal/bytealg.MaxLen"], apart := false, laid := [("unicode/utf8.acceptRanges", laid_unicode_utf8_acceptRanges), ("unicode/utf8.first", laid_unicode_utf8_first)], narrowed := true }
def FnFroTwiceUptoSaid : Prop := fnFroTwiceUptoRow.holds Tryz.pinned (OpenSpec.upto fnFroTwiceSpec)

/-- 'laws.FnFroApart', WHERE WHAT IT READS IS OF BULK AT MOST 1048576: true; the input reads as it did. -/
def fnFroApartUptoRow : OpenClaim := { program := "ythahcnabgjgpfabgreatdoor", sum := "e1a26497248e3dc142917cd8ac73d1e2779b73b0374bcc8dcac141a42dee1b58", func := "loop.example/janitor/laws.FnFroApart", spec := "fnFroApart", inPlace := ["internal/bytealg.IndexByteString", "internal/bytealg.IndexString", "slices.overlaps[int]"], unfollowed := true, recurses := true, named := ["unicode/utf8.first", "unicode/utf8.acceptRanges", "internal/bytealg.MaxLen"], apart := false, laid := [("unicode/utf8.acceptRanges", laid_unicode_utf8_acceptRanges), ("unicode/utf8.first", laid_unicode_utf8_first)], narrowed := true }
def FnFroApartUptoSaid : Prop := fnFroApartUptoRow.holds Tryz.pinned (OpenSpec.upto fnFroApartSpec)

/-- 'laws.FnFroHear', WHERE WHAT IT READS IS OF BULK AT MOST 1048576: true; the input reads as it did. -/
def fnFroHearUptoRow : OpenClaim := { program := "ythahcnabgjgpfabgreatdoor", sum := "e1a26497248e3dc142917cd8ac73d1e2779b73b0374bcc8dcac141a42dee1b58", func := "loop.example/janitor/laws.FnFroHear", spec := "fnFroHear", inPlace := ["internal/bytealg.IndexByteString", "internal/bytealg.IndexString", "slices.overlaps[int]"], unfollowed := true, recurses := true, named := ["unicode/utf8.first", "unicode/utf8.acceptRanges", "internal/bytealg.MaxLen"], apart := false, laid := [("unicode/utf8.acceptRanges", laid_unicode_utf8_acceptRanges), ("unicode/utf8.first", laid_unicode_utf8_first)], narrowed := true }
def FnFroHearUptoSaid : Prop := fnFroHearUptoRow.holds Tryz.pinned (OpenSpec.upto fnFroHearSpec)

end Rows
end Go.Proofs.YthahcnabgjgpfabGreatDoor
