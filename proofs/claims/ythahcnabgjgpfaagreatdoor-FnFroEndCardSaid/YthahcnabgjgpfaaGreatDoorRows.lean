/-
  NARROWER THAN 'FOR EVERY INPUT', by the rows' own cells (each row's printed sentence says how): FnFroOk: laid · FnExactFroGive: laid · FnFroTick: laid · FnFroFall: laid · FnFroBegin: laid · FnFroGive: laid · FnFroEnd: laid.
  DERIVED. THE GIVEN ROWS OF THIS SEAT. 7 by the template 'for every input the law returns true; each argument reads behind the call as it read before'; 0 by the template 'total and deterministic' (their statements: YthahcnabgjgpfaaGreatDoorTotals.lean).
  GIVEN WITH THE SEED: the statements are not yours to turn. If you find one false, say at which input.
  Laid BY PROGRAM, IN A SANDBOX (cutbox-rows.mjs): the forced cells as the released guide's own fill.sh prints them over the translation 0c17a468424b647d… (all of the seat's roots in one cut). By AI agents, Wed Nov 11 2026. No macro, syntax, notation, axiom, sorry.
-/
import Derived.Test.YthahcnabgjgpfaaGreatDoorChecked
import GoSem.PinnedTables
import GoSem.Claim
import GoSem.ClaimJoined
import GoSem.ClaimMapViews
import Derived.JoinedTies
import Derived.KernelRfl
namespace Go.Proofs.YthahcnabgjgpfaaGreatDoor
/- THE CELL 'sum', in the pinned program and in every row, IS THE sha256 OF THE DUMP (.gsa) THAT YthahcnabgjgpfaaGreatDoorProg.lean LOADS. Nothing in Lean hashes anything: it is a label: what it is worth is what the hold of that sum in a sandbox is worth. -/
noncomputable def Tryz.pinned : Pinned := { name := "ythahcnabgjgpfaagreatdoor", sum := "0c17a468424b647d638ea8c0ad44833b759c9d9b31d7051635c2e0b2070ede01", checked := Tryz.checked }
namespace Rows
def none {H : Type} : Left H := { results := [], args := [] }

/- WHAT THE LISTED PACKAGE-LEVEL VARIABLES READ AS WHEN THE CALL BEGINS. Each datum BY PROGRAM (the guide's laid-datum.mjs) off the statement by which the dump's own 'gosem.cut.vars' lays the variable. In a bare row this is a premise. The card (YthahcnabgjgpfaaGreatDoorCards.lean) ties it to the program's text. -/
def laid_unicode_utf8_acceptRanges {H : Type} : DataW H := .agg [.agg [.lit (.int .u8 128), .lit (.int .u8 191)], .agg [.lit (.int .u8 160), .lit (.int .u8 191)], .agg [.lit (.int .u8 128), .lit (.int .u8 159)], .agg [.lit (.int .u8 144), .lit (.int .u8 191)], .agg [.lit (.int .u8 128), .lit (.int .u8 143)], .agg [.lit (.int .u8 0), .lit (.int .u8 0)], .agg [.lit (.int .u8 0), .lit (.int .u8 0)], .agg [.lit (.int .u8 0), .lit (.int .u8 0)], .agg [.lit (.int .u8 0), .lit (.int .u8 0)], .agg [.lit (.int .u8 0), .lit (.int .u8 0)], .agg [.lit (.int .u8 0), .lit (.int .u8 0)], .agg [.lit (.int .u8 0), .lit (.int .u8 0)], .agg [.lit (.int .u8 0), .lit (.int .u8 0)], .agg [.lit (.int .u8 0), .lit (.int .u8 0)], .agg [.lit (.int .u8 0), .lit (.int .u8 0)], .agg [.lit (.int .u8 0), .lit (.int .u8 0)]]
/-- One of Go's own tables, pinned by name: the form's constant. -/
def laid_unicode_utf8_first : DataW Unit := Go.Pinned.utf8First

/-- 'laws.FnFroOk': WHATEVER THE INPUT: true; the input reads as it did. -/
def fnFroOkSpec : ChangeSpec := { name := "fnFroOk", fn := fun _ => fun
  | [d] => { results := [.lit (.bool true)], args := [d] }
  | _ => none }
def fnFroOkRow : OpenClaim := { program := "ythahcnabgjgpfaagreatdoor", sum := "0c17a468424b647d638ea8c0ad44833b759c9d9b31d7051635c2e0b2070ede01", func := "loop.example/janitor/laws.FnFroOk", spec := "fnFroOk", inPlace := ["internal/bytealg.IndexByteString", "internal/bytealg.IndexString"], unfollowed := true, recurses := true, named := ["unicode/utf8.first", "unicode/utf8.acceptRanges", "internal/bytealg.MaxLen"], apart := false, laid := [("unicode/utf8.acceptRanges", laid_unicode_utf8_acceptRanges), ("unicode/utf8.first", laid_unicode_utf8_first)] }
def FnFroOkSaid : Prop := fnFroOkRow.holds Tryz.pinned (OpenSpec.ofChange fnFroOkSpec)

/-- ITS FALSE NEIGHBOUR: 'it returns false'. Refute it at one input. -/
def fnFroOkWrong : ChangeSpec := { name := "fnFroOk", fn := fun _ => fun
  | [d] => { results := [.lit (.bool false)], args := [d] }
  | _ => none }
def FnFroOkWrongFalsely : Prop := fnFroOkRow.holds Tryz.pinned (OpenSpec.ofChange fnFroOkWrong)

/-- 'laws.FnExactFroGive': WHATEVER THE INPUT: true; the input reads as it did. -/
def fnExactFroGiveSpec : ChangeSpec := { name := "fnExactFroGive", fn := fun _ => fun
  | [d1, d2] => { results := [.lit (.bool true)], args := [d1, d2] }
  | _ => none }
def fnExactFroGiveRow : OpenClaim := { program := "ythahcnabgjgpfaagreatdoor", sum := "0c17a468424b647d638ea8c0ad44833b759c9d9b31d7051635c2e0b2070ede01", func := "loop.example/janitor/laws.FnExactFroGive", spec := "fnExactFroGive", inPlace := ["internal/bytealg.IndexByteString", "internal/bytealg.IndexString"], unfollowed := true, recurses := true, named := ["unicode/utf8.first", "unicode/utf8.acceptRanges", "internal/bytealg.MaxLen"], apart := false, laid := [("unicode/utf8.acceptRanges", laid_unicode_utf8_acceptRanges), ("unicode/utf8.first", laid_unicode_utf8_first)] }
def FnExactFroGiveSaid : Prop := fnExactFroGiveRow.holds Tryz.pinned (OpenSpec.ofChange fnExactFroGiveSpec)

/-- ITS FALSE NEIGHBOUR: 'it returns false'. Refute it at one input. -/
def fnExactFroGiveWrong : ChangeSpec := { name := "fnExactFroGive", fn := fun _ => fun
  | [d1, d2] => { results := [.lit (.bool false)], args := [d1, d2] }
  | _ => none }
def FnExactFroGiveWrongFalsely : Prop := fnExactFroGiveRow.holds Tryz.pinned (OpenSpec.ofChange fnExactFroGiveWrong)

/-- 'laws.FnFroTick': WHATEVER THE INPUT: true; the input reads as it did. -/
def fnFroTickSpec : ChangeSpec := { name := "fnFroTick", fn := fun _ => fun
  | [d] => { results := [.lit (.bool true)], args := [d] }
  | _ => none }
def fnFroTickRow : OpenClaim := { program := "ythahcnabgjgpfaagreatdoor", sum := "0c17a468424b647d638ea8c0ad44833b759c9d9b31d7051635c2e0b2070ede01", func := "loop.example/janitor/laws.FnFroTick", spec := "fnFroTick", inPlace := ["internal/bytealg.IndexByteString", "internal/bytealg.IndexString"], unfollowed := true, recurses := true, named := ["unicode/utf8.first", "unicode/utf8.acceptRanges", "internal/bytealg.MaxLen"], apart := false, laid := [("unicode/utf8.acceptRanges", laid_unicode_utf8_acceptRanges), ("unicode/utf8.first", laid_unicode_utf8_first)] }
def FnFroTickSaid : Prop := fnFroTickRow.holds Tryz.pinned (OpenSpec.ofChange fnFroTickSpec)

/-- ITS FALSE NEIGHBOUR: 'it returns false'. Refute it at one input. -/
def fnFroTickWrong : ChangeSpec := { name := "fnFroTick", fn := fun _ => fun
  | [d] => { results := [.lit (.bool false)], args := [d] }
  | _ => none }
def FnFroTickWrongFalsely : Prop := fnFroTickRow.holds Tryz.pinned (OpenSpec.ofChange fnFroTickWrong)

/-- 'laws.FnFroFall': WHATEVER THE INPUT: true; the input reads as it did. -/
def fnFroFallSpec : ChangeSpec := { name := "fnFroFall", fn := fun _ => fun
  | [d] => { results := [.lit (.bool true)], args := [d] }
  | _ => none }
def fnFroFallRow : OpenClaim := { program := "ythahcnabgjgpfaagreatdoor", sum := "0c17a468424b647d638ea8c0ad44833b759c9d9b31d7051635c2e0b2070ede01", func := "loop.example/janitor/laws.FnFroFall", spec := "fnFroFall", inPlace := ["internal/bytealg.IndexByteString", "internal/bytealg.IndexString"], unfollowed := true, recurses := true, named := ["unicode/utf8.first", "unicode/utf8.acceptRanges", "internal/bytealg.MaxLen"], apart := false, laid := [("unicode/utf8.acceptRanges", laid_unicode_utf8_acceptRanges), ("unicode/utf8.first", laid_unicode_utf8_first)] }
def FnFroFallSaid : Prop := fnFroFallRow.holds Tryz.pinned (OpenSpec.ofChange fnFroFallSpec)

/-- ITS FALSE NEIGHBOUR: 'it returns false'. Refute it at one input. -/
def fnFroFallWrong : ChangeSpec := { name := "fnFroFall", fn := fun _ => fun
  | [d] => { results := [.lit (.bool false)], args := [d] }
  | _ => none }
def FnFroFallWrongFalsely : Prop := fnFroFallRow.holds Tryz.pinned (OpenSpec.ofChange fnFroFallWrong)

/-- 'laws.FnFroBegin': WHATEVER THE INPUT: true; the input reads as it did. -/
def fnFroBeginSpec : ChangeSpec := { name := "fnFroBegin", fn := fun _ => fun
  | [d] => { results := [.lit (.bool true)], args := [d] }
  | _ => none }
def fnFroBeginRow : OpenClaim := { program := "ythahcnabgjgpfaagreatdoor", sum := "0c17a468424b647d638ea8c0ad44833b759c9d9b31d7051635c2e0b2070ede01", func := "loop.example/janitor/laws.FnFroBegin", spec := "fnFroBegin", inPlace := ["internal/bytealg.IndexByteString", "internal/bytealg.IndexString"], unfollowed := true, recurses := true, named := ["unicode/utf8.first", "unicode/utf8.acceptRanges", "internal/bytealg.MaxLen"], apart := false, laid := [("unicode/utf8.acceptRanges", laid_unicode_utf8_acceptRanges), ("unicode/utf8.first", laid_unicode_utf8_first)] }
def FnFroBeginSaid : Prop := fnFroBeginRow.holds Tryz.pinned (OpenSpec.ofChange fnFroBeginSpec)

/-- ITS FALSE NEIGHBOUR: 'it returns false'. Refute it at one input. -/
def fnFroBeginWrong : ChangeSpec := { name := "fnFroBegin", fn := fun _ => fun
  | [d] => { results := [.lit (.bool false)], args := [d] }
  | _ => none }
def FnFroBeginWrongFalsely : Prop := fnFroBeginRow.holds Tryz.pinned (OpenSpec.ofChange fnFroBeginWrong)

/-- 'laws.FnFroGive': WHATEVER THE INPUT: true; the input reads as it did. -/
def fnFroGiveSpec : ChangeSpec := { name := "fnFroGive", fn := fun _ => fun
  | [d] => { results := [.lit (.bool true)], args := [d] }
  | _ => none }
def fnFroGiveRow : OpenClaim := { program := "ythahcnabgjgpfaagreatdoor", sum := "0c17a468424b647d638ea8c0ad44833b759c9d9b31d7051635c2e0b2070ede01", func := "loop.example/janitor/laws.FnFroGive", spec := "fnFroGive", inPlace := ["internal/bytealg.IndexByteString", "internal/bytealg.IndexString"], unfollowed := true, recurses := true, named := ["unicode/utf8.first", "unicode/utf8.acceptRanges", "internal/bytealg.MaxLen"], apart := false, laid := [("unicode/utf8.acceptRanges", laid_unicode_utf8_acceptRanges), ("unicode/utf8.first", laid_unicode_utf8_first)] }
def FnFroGiveSaid : Prop := fnFroGiveRow.holds Tryz.pinned (OpenSpec.ofChange fnFroGiveSpec)

/-- ITS FALSE NEIGHBOUR: 'it returns false'. Refute it at one input. -/
def fnFroGiveWrong : ChangeSpec := { name := "fnFroGive", fn := fun _ => fun
  | [d] => { results := [.lit (.bool false)], args := [d] }
  | _ => none }
def FnFroGiveWrongFalsely : Prop := fnFroGiveRow.holds Tryz.pinned (OpenSpec.ofChange fnFroGiveWrong)

/-- 'laws.FnFroEnd': WHATEVER THE INPUT: true; the input reads as it did. -/
def fnFroEndSpec : ChangeSpec := { name := "fnFroEnd", fn := fun _ => fun
  | [d] => { results := [.lit (.bool true)], args := [d] }
  | _ => none }
def fnFroEndRow : OpenClaim := { program := "ythahcnabgjgpfaagreatdoor", sum := "0c17a468424b647d638ea8c0ad44833b759c9d9b31d7051635c2e0b2070ede01", func := "loop.example/janitor/laws.FnFroEnd", spec := "fnFroEnd", inPlace := ["internal/bytealg.IndexByteString", "internal/bytealg.IndexString", "slices.overlaps[int]"], unfollowed := true, recurses := true, named := ["unicode/utf8.first", "unicode/utf8.acceptRanges", "internal/bytealg.MaxLen"], apart := false, laid := [("unicode/utf8.acceptRanges", laid_unicode_utf8_acceptRanges), ("unicode/utf8.first", laid_unicode_utf8_first)] }
def FnFroEndSaid : Prop := fnFroEndRow.holds Tryz.pinned (OpenSpec.ofChange fnFroEndSpec)

/-- ITS FALSE NEIGHBOUR: 'it returns false'. Refute it at one input. -/
def fnFroEndWrong : ChangeSpec := { name := "fnFroEnd", fn := fun _ => fun
  | [d] => { results := [.lit (.bool false)], args := [d] }
  | _ => none }
def FnFroEndWrongFalsely : Prop := fnFroEndRow.holds Tryz.pinned (OpenSpec.ofChange fnFroEndWrong)

/- THE SECOND FORM. 'bulk': how many values and letters a reading holds, each counted each time it is reached (what is shared counts as often as it is met; a slice's spare places count too). A statement '..UptoSaid' is the law's where the arguments, and the package variables that the reading takes, are together of bulk at most 1048576: NARROWER than '..Said'. Prove '..Said' where nothing that the law and all that it calls make is longer than what came in: it says more and counts as full. Else prove '..UptoSaid'. A law counts once. -/
mutual
def uptoBulk {H : Type} : DataW H → Nat
  | .lit (.string bytes) => bytes.length + 1
  | .lit _ => 1
  | .nil => 1
  | .ptr d => uptoBulk d + 1
  | .slice elems spare => uptoBulkAll elems + uptoBulkAll spare + 1
  | .agg parts => uptoBulkAll parts + 1
  | .iface _ d => uptoBulk d + 1
  | .map entries => uptoBulkEntries entries + 1
  | .held _ => 1
def uptoBulkAll {H : Type} : List (DataW H) → Nat
  | [] => 0
  | d :: r => uptoBulk d + uptoBulkAll r
def uptoBulkEntries {H : Type} : List (Lit × DataW H) → Nat
  | [] => 0
  | x :: r => uptoBulkEntry x + uptoBulkEntries r
def uptoBulkEntry {H : Type} : Lit × DataW H → Nat
  | (.string bytes, d) => bytes.length + uptoBulk d + 1
  | (_, d) => uptoBulk d + 1
 end
def uptoSmall : (H : Type) → List (DataW H) → Bool := fun _ ds => decide (uptoBulkAll ds ≤ 1048576)
def OpenSpec.upto (s : _root_.Go.ChangeSpec) : _root_.Go.OpenSpec := { _root_.Go.OpenSpec.ofChange s with cond := some uptoSmall }

/-- 'laws.FnFroOk', WHERE WHAT IT READS IS OF BULK AT MOST 1048576: true; the input reads as it did. -/
def fnFroOkUptoRow : OpenClaim := { program := "ythahcnabgjgpfaagreatdoor", sum := "0c17a468424b647d638ea8c0ad44833b759c9d9b31d7051635c2e0b2070ede01", func := "loop.example/janitor/laws.FnFroOk", spec := "fnFroOk", inPlace := ["internal/bytealg.IndexByteString", "internal/bytealg.IndexString"], unfollowed := true, recurses := true, named := ["unicode/utf8.first", "unicode/utf8.acceptRanges", "internal/bytealg.MaxLen"], apart := false, laid := [("unicode/utf8.acceptRanges", laid_unicode_utf8_acceptRanges), ("unicode/utf8.first", laid_unicode_utf8_first)], narrowed := true }
def FnFroOkUptoSaid : Prop := fnFroOkUptoRow.holds Tryz.pinned (OpenSpec.upto fnFroOkSpec)

/-- 'laws.FnExactFroGive', WHERE WHAT IT READS IS OF BULK AT MOST 1048576: true; the input reads as it did. -/
def fnExactFroGiveUptoRow : OpenClaim := { program := "ythahcnabgjgpfaagreatdoor", sum := "0c17a468424b647d638ea8c0ad44833b759c9d9b31d7051635c2e0b2070ede01", func := "loop.example/janitor/laws.FnExactFroGive", spec := "fnExactFroGive", inPlace := ["internal/bytealg.IndexByteString", "internal/bytealg.IndexString"], unfollowed := true, recurses := true, named := ["unicode/utf8.first", "unicode/utf8.acceptRanges", "internal/bytealg.MaxLen"], apart := false, laid := [("unicode/utf8.acceptRanges", laid_unicode_utf8_acceptRanges), ("unicode/utf8.first", laid_unicode_utf8_first)], narrowed := true }
def FnExactFroGiveUptoSaid : Prop := fnExactFroGiveUptoRow.holds Tryz.pinned (OpenSpec.upto fnExactFroGiveSpec)

/-- 'laws.FnFroTick', WHERE WHAT IT READS IS OF BULK AT MOST 1048576: true; the input reads as it did. -/
def fnFroTickUptoRow : OpenClaim := { program := "ythahcnabgjgpfaagreatdoor", sum := "0c17a468424b647d638ea8c0ad44833b759c9d9b31d7051635c2e0b2070ede01", func := "loop.example/janitor/laws.FnFroTick", spec := "fnFroTick", inPlace := ["internal/bytealg.IndexByteString", "internal/bytealg.IndexString"], unfollowed := true, recurses := true, named := ["unicode/utf8.first", "unicode/utf8.acceptRanges", "internal/bytealg.MaxLen"], apart := false, laid := [("unicode/utf8.acceptRanges", laid_unicode_utf8_acceptRanges), ("unicode/utf8.first", laid_unicode_utf8_first)], narrowed := true }
def FnFroTickUptoSaid : Prop := fnFroTickUptoRow.holds Tryz.pinned (OpenSpec.upto fnFroTickSpec)

/-- 'laws.FnFroFall', WHERE WHAT IT READS IS OF BULK AT MOST 1048576: true; the input reads as it did. -/
def fnFroFallUptoRow : OpenClaim := { program := "ythahcnabgjgpfaagreatdoor", sum := "0c17a468424b647d638ea8c0ad44833b759c9d9b31d7051635c2e0b2070ede01", func := "loop.example/janitor/laws.FnFroFall", spec := "fnFroFall", inPlace := ["internal/bytealg.IndexByteString", "internal/bytealg.IndexString"], unfollowed := true, recurses := true, named := ["unicode/utf8.first", "unicode/utf8.acceptRanges", "internal/bytealg.MaxLen"], apart := false, laid := [("unicode/utf8.acceptRanges", laid_unicode_utf8_acceptRanges), ("unicode/utf8.first", laid_unicode_utf8_first)], narrowed := true }
def FnFroFallUptoSaid : Prop := fnFroFallUptoRow.holds Tryz.pinned (OpenSpec.upto fnFroFallSpec)

/-- 'laws.FnFroBegin', WHERE WHAT IT READS IS OF BULK AT MOST 1048576: true; the input reads as it did. -/
def fnFroBeginUptoRow : OpenClaim := { program := "ythahcnabgjgpfaagreatdoor", sum := "0c17a468424b647d638ea8c0ad44833b759c9d9b31d7051635c2e0b2070ede01", func := "loop.example/janitor/laws.FnFroBegin", spec := "fnFroBegin", inPlace := ["internal/bytealg.IndexByteString", "internal/bytealg.IndexString"], unfollowed := true, recurses := true, named := ["unicode/utf8.first", "unicode/utf8.acceptRanges", "internal/bytealg.MaxLen"], apart := false, laid := [("unicode/utf8.acceptRanges", laid_unicode_utf8_acceptRanges), ("unicode/utf8.first", laid_unicode_utf8_first)], narrowed := true }
def FnFroBeginUptoSaid : Prop := fnFroBeginUptoRow.holds Tryz.pinned (OpenSpec.upto fnFroBeginSpec)

/-- 'laws.FnFroGive', WHERE WHAT IT READS IS OF BULK AT MOST 1048576: true; the input reads as it did. -/
def fnFroGiveUptoRow : OpenClaim := { program := "ythahcnabgjgpfaagreatdoor", sum := "0c17a468424b647d638ea8c0ad44833b759c9d9b31d7051635c2e0b2070ede01", func := "loop.example/janitor/laws.FnFroGive", spec := "fnFroGive", inPlace := ["internal/bytealg.IndexByteString", "internal/bytealg.IndexString"], unfollowed := true, recurses := true, named := ["unicode/utf8.first", "unicode/utf8.acceptRanges", "internal/bytealg.MaxLen"], apart := false, laid := [("unicode/utf8.acceptRanges", laid_unicode_utf8_acceptRanges), ("unicode/utf8.first", laid_unicode_utf8_first)], narrowed := true }
def FnFroGiveUptoSaid : Prop := fnFroGiveUptoRow.holds Tryz.pinned (OpenSpec.upto fnFroGiveSpec)

/-- 'laws.FnFroEnd', WHERE WHAT IT READS IS OF BULK AT MOST 1048576: true; the input reads as it did. -/
def fnFroEndUptoRow : OpenClaim := { program := "ythahcnabgjgpfaagreatdoor", sum := "0c17a468424b647d638ea8c0ad44833b759c9d9b31d7051635c2e0b2070ede01", func := "loop.example/janitor/laws.FnFroEnd", spec := "fnFroEnd", inPlace := ["internal/bytealg.IndexByteString", "internal/bytealg.IndexString", "slices.overlaps[int]"], unfollowed := true, recurses := true, named := ["unicode/utf8.first", "unicode/utf8.acceptRanges", "internal/bytealg.MaxLen"], apart := false, laid := [("unicode/utf8.acceptRanges", laid_unicode_utf8_acceptRanges), ("unicode/utf8.first", laid_unicode_utf8_first)], narrowed := true }
def FnFroEndUptoSaid : Prop := fnFroEndUptoRow.holds Tryz.pinned (OpenSpec.upto fnFroEndSpec)

end Rows
end Go.Proofs.YthahcnabgjgpfaaGreatDoor
