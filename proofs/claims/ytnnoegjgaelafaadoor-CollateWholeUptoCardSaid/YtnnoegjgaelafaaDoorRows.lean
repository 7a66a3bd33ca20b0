/-
  NARROWER THAN 'FOR EVERY INPUT', by the rows' own cells (each row's printed sentence says how): CollateNews: laid · CollateBlind: laid · CollateSpans: laid · CollateTotal: laid · CollateWhole: laid · CollateTurned: laid · CollateTransform: laid · CollateSettles: laid · CollateNil: laid.
  DERIVED. THE GIVEN ROWS OF THIS SEAT. 9 by the template 'for every input the law returns true; each argument reads behind the call as it read before'; 0 by the template 'total and deterministic' (their statements: YtnnoegjgaelafaaDoorTotals.lean).
  GIVEN WITH THE SEED: the statements are not yours to turn. If you find one false, say at which input.
  Laid BY PROGRAM, IN A SANDBOX (cutbox-rows.mjs): the forced cells as the released guide's own fill.sh prints them over the translation 8ea9bd4e2ebb9cc5… (all of the seat's roots in one cut). By AI agents, Wed Nov 11 2026. No macro, syntax, notation, axiom, sorry.
-/
import Derived.Test.YtnnoegjgaelafaaDoorChecked
import GoSem.PinnedTables
import GoSem.Claim
import GoSem.ClaimJoined
import GoSem.ClaimMapViews
import Derived.JoinedTies
import Derived.KernelRfl
namespace Go.Proofs.YtnnoegjgaelafaaDoor
/- THE CELL 'sum', in the pinned program and in every row, IS THE sha256 OF THE DUMP (.gsa) THAT YtnnoegjgaelafaaDoorProg.lean LOADS. Nothing in Lean hashes anything: it is a label: what it is worth is what the hold of that sum in a sandbox is worth. -/
noncomputable def Tryd.pinned : Pinned := { name := "ytnnoegjgaelafaadoor", sum := "8ea9bd4e2ebb9cc5a5e6c9d36811a9a28100bd3bc99430d826360e0f52057c27", checked := Tryd.checked }
namespace Rows
def none {H : Type} : Left H := { results := [], args := [] }

/- WHAT THE LISTED PACKAGE-LEVEL VARIABLES READ AS WHEN THE CALL BEGINS. Each datum BY PROGRAM (the guide's laid-datum.mjs) off the statement by which the dump's own 'gosem.cut.vars' lays the variable. In a bare row this is a premise. The card (YtnnoegjgaelafaaDoorCards.lean) ties it to the program's text. -/
def laid_unicode_utf8_acceptRanges {H : Type} : DataW H := .agg [.agg [.lit (.int .u8 128), .lit (.int .u8 191)], .agg [.lit (.int .u8 160), .lit (.int .u8 191)], .agg [.lit (.int .u8 128), .lit (.int .u8 159)], .agg [.lit (.int .u8 144), .lit (.int .u8 191)], .agg [.lit (.int .u8 128), .lit (.int .u8 143)], .agg [.lit (.int .u8 0), .lit (.int .u8 0)], .agg [.lit (.int .u8 0), .lit (.int .u8 0)], .agg [.lit (.int .u8 0), .lit (.int .u8 0)], .agg [.lit (.int .u8 0), .lit (.int .u8 0)], .agg [.lit (.int .u8 0), .lit (.int .u8 0)], .agg [.lit (.int .u8 0), .lit (.int .u8 0)], .agg [.lit (.int .u8 0), .lit (.int .u8 0)], .agg [.lit (.int .u8 0), .lit (.int .u8 0)], .agg [.lit (.int .u8 0), .lit (.int .u8 0)], .agg [.lit (.int .u8 0), .lit (.int .u8 0)], .agg [.lit (.int .u8 0), .lit (.int .u8 0)]]
def laid_mill_numeral_groups {H : Type} : DataW H := .agg [.agg [.lit (.int .u8 57), .lit (.int .i64 10)], .agg [.lit (.int .u8 90), .lit (.int .i64 26)], .agg [.lit (.int .u8 122), .lit (.int .i64 26)], .agg [.lit (.int .u8 126), .lit (.int .i64 1)]]
def laid_mill_numeral_months {H : Type} : DataW H := .agg [.lit (.string [106, 97, 110]), .lit (.string [102, 101, 98]), .lit (.string [109, 97, 114]), .lit (.string [97, 112, 114]), .lit (.string [109, 97, 121]), .lit (.string [106, 117, 110]), .lit (.string [106, 117, 108]), .lit (.string [97, 117, 103]), .lit (.string [115, 101, 112]), .lit (.string [111, 99, 116]), .lit (.string [110, 111, 118]), .lit (.string [100, 101, 99])]
/-- One of Go's own tables, pinned by name: the form's constant. -/
def laid_unicode_utf8_first : DataW Unit := Go.Pinned.utf8First

/-- 'milllaw5.CollateNews': WHATEVER THE INPUT: true; the input reads as it did. -/
def collateNewsSpec : ChangeSpec := { name := "collateNews", fn := fun _ => fun
  | [d1, d2] => { results := [.lit (.bool true)], args := [d1, d2] }
  | _ => none }
def collateNewsRow : OpenClaim := { program := "ytnnoegjgaelafaadoor", sum := "8ea9bd4e2ebb9cc5a5e6c9d36811a9a28100bd3bc99430d826360e0f52057c27", func := "mill/milllaw5.CollateNews", spec := "collateNews", inPlace := ["internal/bytealg.IndexByteString", "internal/bytealg.IndexString", "internal/bytealg.abigen_runtime_cmpstring"], named := ["unicode/utf8.first", "unicode/utf8.acceptRanges", "mill/numeral.months", "mill/numeral.groups", "internal/bytealg.MaxLen"], apart := false, laid := [("unicode/utf8.acceptRanges", laid_unicode_utf8_acceptRanges), ("mill/numeral.groups", laid_mill_numeral_groups), ("mill/numeral.months", laid_mill_numeral_months), ("unicode/utf8.first", laid_unicode_utf8_first)] }
def CollateNewsSaid : Prop := collateNewsRow.holds Tryd.pinned (OpenSpec.ofChange collateNewsSpec)

/-- ITS FALSE NEIGHBOUR: 'it returns false'. Refute it at one input. -/
def collateNewsWrong : ChangeSpec := { name := "collateNews", fn := fun _ => fun
  | [d1, d2] => { results := [.lit (.bool false)], args := [d1, d2] }
  | _ => none }
def CollateNewsWrongFalsely : Prop := collateNewsRow.holds Tryd.pinned (OpenSpec.ofChange collateNewsWrong)

/-- 'milllaw5.CollateBlind': WHATEVER THE INPUT: true; the input reads as it did. -/
def collateBlindSpec : ChangeSpec := { name := "collateBlind", fn := fun _ => fun
  | [d1, d2, d3, d4] => { results := [.lit (.bool true)], args := [d1, d2, d3, d4] }
  | _ => none }
def collateBlindRow : OpenClaim := { program := "ytnnoegjgaelafaadoor", sum := "8ea9bd4e2ebb9cc5a5e6c9d36811a9a28100bd3bc99430d826360e0f52057c27", func := "mill/milllaw5.CollateBlind", spec := "collateBlind", inPlace := ["internal/bytealg.IndexByteString", "internal/bytealg.IndexString", "internal/bytealg.abigen_runtime_cmpstring"], unfollowed := true, recurses := true, named := ["unicode/utf8.first", "unicode/utf8.acceptRanges", "mill/numeral.months", "mill/numeral.groups", "internal/bytealg.MaxLen"], apart := false, laid := [("unicode/utf8.acceptRanges", laid_unicode_utf8_acceptRanges), ("mill/numeral.groups", laid_mill_numeral_groups), ("mill/numeral.months", laid_mill_numeral_months), ("unicode/utf8.first", laid_unicode_utf8_first)] }
def CollateBlindSaid : Prop := collateBlindRow.holds Tryd.pinned (OpenSpec.ofChange collateBlindSpec)

/-- ITS FALSE NEIGHBOUR: 'it returns false'. Refute it at one input. -/
def collateBlindWrong : ChangeSpec := { name := "collateBlind", fn := fun _ => fun
  | [d1, d2, d3, d4] => { results := [.lit (.bool false)], args := [d1, d2, d3, d4] }
  | _ => none }
def CollateBlindWrongFalsely : Prop := collateBlindRow.holds Tryd.pinned (OpenSpec.ofChange collateBlindWrong)

/-- 'milllaw5.CollateSpans': WHATEVER THE INPUT: true; the input reads as it did. -/
def collateSpansSpec : ChangeSpec := { name := "collateSpans", fn := fun _ => fun
  | [d1, d2, d3] => { results := [.lit (.bool true)], args := [d1, d2, d3] }
  | _ => none }
def collateSpansRow : OpenClaim := { program := "ytnnoegjgaelafaadoor", sum := "8ea9bd4e2ebb9cc5a5e6c9d36811a9a28100bd3bc99430d826360e0f52057c27", func := "mill/milllaw5.CollateSpans", spec := "collateSpans", inPlace := ["internal/bytealg.IndexByteString", "internal/bytealg.IndexString", "internal/bytealg.abigen_runtime_cmpstring"], named := ["unicode/utf8.first", "unicode/utf8.acceptRanges", "mill/numeral.months", "mill/numeral.groups", "internal/bytealg.MaxLen"], apart := false, laid := [("unicode/utf8.acceptRanges", laid_unicode_utf8_acceptRanges), ("mill/numeral.groups", laid_mill_numeral_groups), ("mill/numeral.months", laid_mill_numeral_months), ("unicode/utf8.first", laid_unicode_utf8_first)] }
def CollateSpansSaid : Prop := collateSpansRow.holds Tryd.pinned (OpenSpec.ofChange collateSpansSpec)

/-- ITS FALSE NEIGHBOUR: 'it returns false'. Refute it at one input. -/
def collateSpansWrong : ChangeSpec := { name := "collateSpans", fn := fun _ => fun
  | [d1, d2, d3] => { results := [.lit (.bool false)], args := [d1, d2, d3] }
  | _ => none }
def CollateSpansWrongFalsely : Prop := collateSpansRow.holds Tryd.pinned (OpenSpec.ofChange collateSpansWrong)

/-- 'milllaw5.CollateTotal': WHATEVER THE INPUT: true; the input reads as it did. -/
def collateTotalSpec : ChangeSpec := { name := "collateTotal", fn := fun _ => fun
  | [d1, d2, d3, d4] => { results := [.lit (.bool true)], args := [d1, d2, d3, d4] }
  | _ => none }
def collateTotalRow : OpenClaim := { program := "ytnnoegjgaelafaadoor", sum := "8ea9bd4e2ebb9cc5a5e6c9d36811a9a28100bd3bc99430d826360e0f52057c27", func := "mill/milllaw5.CollateTotal", spec := "collateTotal", inPlace := ["internal/bytealg.IndexByteString", "internal/bytealg.IndexString", "internal/bytealg.abigen_runtime_cmpstring"], unfollowed := true, recurses := true, named := ["unicode/utf8.first", "unicode/utf8.acceptRanges", "mill/numeral.months", "mill/numeral.groups", "internal/bytealg.MaxLen"], apart := false, laid := [("unicode/utf8.acceptRanges", laid_unicode_utf8_acceptRanges), ("mill/numeral.groups", laid_mill_numeral_groups), ("mill/numeral.months", laid_mill_numeral_months), ("unicode/utf8.first", laid_unicode_utf8_first)] }
def CollateTotalSaid : Prop := collateTotalRow.holds Tryd.pinned (OpenSpec.ofChange collateTotalSpec)

/-- ITS FALSE NEIGHBOUR: 'it returns false'. Refute it at one input. -/
def collateTotalWrong : ChangeSpec := { name := "collateTotal", fn := fun _ => fun
  | [d1, d2, d3, d4] => { results := [.lit (.bool false)], args := [d1, d2, d3, d4] }
  | _ => none }
def CollateTotalWrongFalsely : Prop := collateTotalRow.holds Tryd.pinned (OpenSpec.ofChange collateTotalWrong)

/-- 'milllaw5.CollateWhole': WHATEVER THE INPUT: true; the input reads as it did. -/
def collateWholeSpec : ChangeSpec := { name := "collateWhole", fn := fun _ => fun
  | [d1, d2, d3] => { results := [.lit (.bool true)], args := [d1, d2, d3] }
  | _ => none }
def collateWholeRow : OpenClaim := { program := "ytnnoegjgaelafaadoor", sum := "8ea9bd4e2ebb9cc5a5e6c9d36811a9a28100bd3bc99430d826360e0f52057c27", func := "mill/milllaw5.CollateWhole", spec := "collateWhole", inPlace := ["internal/bytealg.IndexByteString", "internal/bytealg.IndexString", "internal/bytealg.abigen_runtime_cmpstring"], unfollowed := true, recurses := true, named := ["unicode/utf8.first", "unicode/utf8.acceptRanges", "mill/numeral.months", "mill/numeral.groups", "internal/bytealg.MaxLen"], apart := false, laid := [("unicode/utf8.acceptRanges", laid_unicode_utf8_acceptRanges), ("mill/numeral.groups", laid_mill_numeral_groups), ("mill/numeral.months", laid_mill_numeral_months), ("unicode/utf8.first", laid_unicode_utf8_first)] }
def CollateWholeSaid : Prop := collateWholeRow.holds Tryd.pinned (OpenSpec.ofChange collateWholeSpec)

/-- ITS FALSE NEIGHBOUR: 'it returns false'. Refute it at one input. -/
def collateWholeWrong : ChangeSpec := { name := "collateWhole", fn := fun _ => fun
  | [d1, d2, d3] => { results := [.lit (.bool false)], args := [d1, d2, d3] }
  | _ => none }
def CollateWholeWrongFalsely : Prop := collateWholeRow.holds Tryd.pinned (OpenSpec.ofChange collateWholeWrong)

/-- 'milllaw5.CollateTurned': WHATEVER THE INPUT: true; the input reads as it did. -/
def collateTurnedSpec : ChangeSpec := { name := "collateTurned", fn := fun _ => fun
  | [d1, d2, d3, d4] => { results := [.lit (.bool true)], args := [d1, d2, d3, d4] }
  | _ => none }
def collateTurnedRow : OpenClaim := { program := "ytnnoegjgaelafaadoor", sum := "8ea9bd4e2ebb9cc5a5e6c9d36811a9a28100bd3bc99430d826360e0f52057c27", func := "mill/milllaw5.CollateTurned", spec := "collateTurned", inPlace := ["internal/bytealg.IndexByteString", "internal/bytealg.IndexString", "internal/bytealg.abigen_runtime_cmpstring"], unfollowed := true, recurses := true, named := ["unicode/utf8.first", "unicode/utf8.acceptRanges", "mill/numeral.months", "mill/numeral.groups", "internal/bytealg.MaxLen"], apart := false, laid := [("unicode/utf8.acceptRanges", laid_unicode_utf8_acceptRanges), ("mill/numeral.groups", laid_mill_numeral_groups), ("mill/numeral.months", laid_mill_numeral_months), ("unicode/utf8.first", laid_unicode_utf8_first)] }
def CollateTurnedSaid : Prop := collateTurnedRow.holds Tryd.pinned (OpenSpec.ofChange collateTurnedSpec)

/-- ITS FALSE NEIGHBOUR: 'it returns false'. Refute it at one input. -/
def collateTurnedWrong : ChangeSpec := { name := "collateTurned", fn := fun _ => fun
  | [d1, d2, d3, d4] => { results := [.lit (.bool false)], args := [d1, d2, d3, d4] }
  | _ => none }
def CollateTurnedWrongFalsely : Prop := collateTurnedRow.holds Tryd.pinned (OpenSpec.ofChange collateTurnedWrong)

/-- 'milllaw5.CollateTransform': WHATEVER THE INPUT: true; the input reads as it did. -/
def collateTransformSpec : ChangeSpec := { name := "collateTransform", fn := fun _ => fun
  | [d1, d2, d3] => { results := [.lit (.bool true)], args := [d1, d2, d3] }
  | _ => none }
def collateTransformRow : OpenClaim := { program := "ytnnoegjgaelafaadoor", sum := "8ea9bd4e2ebb9cc5a5e6c9d36811a9a28100bd3bc99430d826360e0f52057c27", func := "mill/milllaw5.CollateTransform", spec := "collateTransform", inPlace := ["internal/bytealg.IndexByteString", "internal/bytealg.IndexString", "internal/bytealg.abigen_runtime_cmpstring", "internal/abi.NoEscape"], unfollowed := true, recurses := true, named := ["unicode/utf8.first", "unicode/utf8.acceptRanges", "mill/numeral.months", "mill/numeral.groups", "internal/bytealg.MaxLen"], apart := false, laid := [("unicode/utf8.acceptRanges", laid_unicode_utf8_acceptRanges), ("mill/numeral.groups", laid_mill_numeral_groups), ("mill/numeral.months", laid_mill_numeral_months), ("unicode/utf8.first", laid_unicode_utf8_first)] }
def CollateTransformSaid : Prop := collateTransformRow.holds Tryd.pinned (OpenSpec.ofChange collateTransformSpec)

/-- ITS FALSE NEIGHBOUR: 'it returns false'. Refute it at one input. -/
def collateTransformWrong : ChangeSpec := { name := "collateTransform", fn := fun _ => fun
  | [d1, d2, d3] => { results := [.lit (.bool false)], args := [d1, d2, d3] }
  | _ => none }
def CollateTransformWrongFalsely : Prop := collateTransformRow.holds Tryd.pinned (OpenSpec.ofChange collateTransformWrong)

/-- 'milllaw5.CollateSettles': WHATEVER THE INPUT: true; the input reads as it did. -/
def collateSettlesSpec : ChangeSpec := { name := "collateSettles", fn := fun _ => fun
  | [d1, d2, d3] => { results := [.lit (.bool true)], args := [d1, d2, d3] }
  | _ => none }
def collateSettlesRow : OpenClaim := { program := "ytnnoegjgaelafaadoor", sum := "8ea9bd4e2ebb9cc5a5e6c9d36811a9a28100bd3bc99430d826360e0f52057c27", func := "mill/milllaw5.CollateSettles", spec := "collateSettles", inPlace := ["internal/bytealg.IndexByteString", "internal/bytealg.IndexString", "internal/bytealg.abigen_runtime_cmpstring"], unfollowed := true, recurses := true, named := ["unicode/utf8.first", "unicode/utf8.acceptRanges", "mill/numeral.months", "mill/numeral.groups", "internal/bytealg.MaxLen"], apart := false, laid := [("unicode/utf8.acceptRanges", laid_unicode_utf8_acceptRanges), ("mill/numeral.groups", laid_mill_numeral_groups), ("mill/numeral.months", laid_mill_numeral_months), ("unicode/utf8.first", laid_unicode_utf8_first)] }
def CollateSettlesSaid : Prop := collateSettlesRow.holds Tryd.pinned (OpenSpec.ofChange collateSettlesSpec)

/-- ITS FALSE NEIGHBOUR: 'it returns false'. Refute it at one input. -/
def collateSettlesWrong : ChangeSpec := { name := "collateSettles", fn := fun _ => fun
  | [d1, d2, d3] => { results := [.lit (.bool false)], args := [d1, d2, d3] }
  | _ => none }
def CollateSettlesWrongFalsely : Prop := collateSettlesRow.holds Tryd.pinned (OpenSpec.ofChange collateSettlesWrong)

/-- 'milllaw5.CollateNil': WHATEVER THE INPUT: true; the input reads as it did. -/
def collateNilSpec : ChangeSpec := { name := "collateNil", fn := fun _ => fun
  | [d1, d2, d3] => { results := [.lit (.bool true)], args := [d1, d2, d3] }
  | _ => none }
def collateNilRow : OpenClaim := { program := "ytnnoegjgaelafaadoor", sum := "8ea9bd4e2ebb9cc5a5e6c9d36811a9a28100bd3bc99430d826360e0f52057c27", func := "mill/milllaw5.CollateNil", spec := "collateNil", inPlace := ["internal/bytealg.IndexByteString", "internal/bytealg.abigen_runtime_cmpstring", "internal/abi.NoEscape", "internal/bytealg.IndexString"], unfollowed := true, recurses := true, named := ["unicode/utf8.first", "unicode/utf8.acceptRanges", "mill/numeral.months", "mill/numeral.groups", "internal/bytealg.MaxLen"], apart := false, laid := [("unicode/utf8.acceptRanges", laid_unicode_utf8_acceptRanges), ("mill/numeral.groups", laid_mill_numeral_groups), ("mill/numeral.months", laid_mill_numeral_months), ("unicode/utf8.first", laid_unicode_utf8_first)] }
def CollateNilSaid : Prop := collateNilRow.holds Tryd.pinned (OpenSpec.ofChange collateNilSpec)

/-- ITS FALSE NEIGHBOUR: 'it returns false'. Refute it at one input. -/
def collateNilWrong : ChangeSpec := { name := "collateNil", fn := fun _ => fun
  | [d1, d2, d3] => { results := [.lit (.bool false)], args := [d1, d2, d3] }
  | _ => none }
def CollateNilWrongFalsely : Prop := collateNilRow.holds Tryd.pinned (OpenSpec.ofChange collateNilWrong)

/- THE SECOND FORM. 'bulk': how many values and letters a reading holds, each counted each time it is reached (what is shared counts as often as it is met; a slice's spare places count too). A statement '..UptoSaid' is the law's where the arguments, and the package variables that the reading takes, are together of bulk at most 1048576: NARROWER than '..Said'. Prove '..Said' where nothing that the law and all that it calls make is longer than what came in: it says more and counts as full. Else prove '..UptoSaid'. A law counts once. -/
mutual
def uptoBulk {H : Type} : DataW H → Nat
  | .lit (.string bytes) => bytes.length + 1
  | .lit _ => 1
  | .nil => 1
  | .ptr d => uptoBulk d + 1
  | .slice elems spare => uptoBulkAll elems + uptoBulkAll spare + 1
  | .agg parts => uptoBulkAll parts + 1
  | .iface _ d => uptoBulk d + 1
  | .map entries => uptoBulkEntries entries + 1
  | .held _ => 1
def uptoBulkAll {H : Type} : List (DataW H) → Nat
  | [] => 0
  | d :: r => uptoBulk d + uptoBulkAll r
def uptoBulkEntries {H : Type} : List (Lit × DataW H) → Nat
  | [] => 0
  | x :: r => uptoBulkEntry x + uptoBulkEntries r
def uptoBulkEntry {H : Type} : Lit × DataW H → Nat
  | (.string bytes, d) => bytes.length + uptoBulk d + 1
  | (_, d) => uptoBulk d + 1
 end
def uptoSmall : (H : Type) → List (DataW H) → Bool := fun _ ds => decide (uptoBulkAll ds ≤ 1048576)
def OpenSpec.upto (s : _root_.Go.ChangeSpec) : _root_.Go.OpenSpec := { _root_.Go.OpenSpec.ofChange s with cond := some uptoSmall }

/-- 'milllaw5.CollateNews', WHERE WHAT IT READS IS OF BULK AT MOST 1048576: true; the input reads as it did. -/
def collateNewsUptoRow : OpenClaim := { program := "ytnnoegjgaelafaadoor", sum := "8ea9bd4e2ebb9cc5a5e6c9d36811a9a28100bd3bc99430d826360e0f52057c27", func := "mill/milllaw5.CollateNews", spec := "collateNews", inPlace := ["internal/bytealg.IndexByteString", "internal/bytealg.IndexString", "internal/bytealg.abigen_runtime_cmpstring"], named := ["unicode/utf8.first", "unicode/utf8.acceptRanges", "mill/numeral.months", "mill/numeral.groups", "internal/bytealg.MaxLen"], apart := false, laid := [("unicode/utf8.acceptRanges", laid_unicode_utf8_acceptRanges), ("mill/numeral.groups", laid_mill_numeral_groups), ("mill/numeral.months", laid_mill_numeral_months), ("unicode/utf8.first", laid_unicode_utf8_first)], narrowed := true }
def CollateNewsUptoSaid : Prop := collateNewsUptoRow.holds Tryd.pinned (OpenSpec.upto collateNewsSpec)

/-- 'milllaw5.CollateBlind', WHERE WHAT IT READS IS OF BULK AT MOST 1048576: true; the input reads as it did. -/
def collateBlindUptoRow : OpenClaim := { program := "ytnnoegjgaelafaadoor", sum := "8ea9bd4e2ebb9cc5a5e6c9d36811a9a28100bd3bc99430d826360e0f52057c27", func := "mill/milllaw5.CollateBlind", spec := "collateBlind", inPlace := ["internal/bytealg.IndexByteString", "internal/bytealg.IndexString", "internal/bytealg.abigen_runtime_cmpstring"], unfollowed := true, recurses := true, named := ["unicode/utf8.first", "unicode/utf8.acceptRanges", "mill/numeral.months", "mill/numeral.groups", "internal/bytealg.MaxLen"], apart := false, laid := [("unicode/utf8.acceptRanges", laid_unicode_utf8_acceptRanges), ("mill/numeral.groups", laid_mill_numeral_groups), ("mill/numeral.months", laid_mill_numeral_months), ("unicode/utf8.first", laid_unicode_utf8_first)], narrowed := true }
def CollateBlindUptoSaid : Prop := collateBlindUptoRow.holds Tryd.pinned (OpenSpec.upto collateBlindSpec)

/-- 'milllaw5.CollateSpans', WHERE WHAT IT READS IS OF BULK AT MOST 1048576: true; the input reads as it did. -/
def collateSpansUptoRow : OpenClaim := { program := "ytnnoegjgaelafaadoor", sum := "8ea9bd4e2ebb9cc5a5e6c9d36811a9a28100bd3bc99430d826360e0f52057c27", func := "mill/milllaw5.CollateSpans", spec := "collateSpans", inPlace := ["internal/bytealg.IndexByteString", "internal/bytealg.IndexString", "internal/bytealg.abigen_runtime_cmpstring"], named := ["unicode/utf8.first", "unicode/utf8.acceptRanges", "mill/numeral.months", "mill/numeral.groups", "internal/bytealg.MaxLen"], apart := false, laid := [("unicode/utf8.acceptRanges", laid_unicode_utf8_acceptRanges), ("mill/numeral.groups", laid_mill_numeral_groups), ("mill/numeral.months", laid_mill_numeral_months), ("unicode/utf8.first", laid_unicode_utf8_first)], narrowed := true }
def CollateSpansUptoSaid : Prop := collateSpansUptoRow.holds Tryd.pinned (OpenSpec.upto collateSpansSpec)

/-- 'milllaw5.CollateTotal', WHERE WHAT IT READS IS OF BULK AT MOST 1048576: true; the input reads as it did. -/
def collateTotalUptoRow : OpenClaim := { program := "ytnnoegjgaelafaadoor", sum := "8ea9bd4e2ebb9cc5a5e6c9d36811a9a28100bd3bc99430d826360e0f52057c27", func := "mill/milllaw5.CollateTotal", spec := "collateTotal", inPlace := ["internal/bytealg.IndexByteString", "internal/bytealg.IndexString", "internal/bytealg.abigen_runtime_cmpstring"], unfollowed := true, recurses := true, named := ["unicode/utf8.first", "unicode/utf8.acceptRanges", "mill/numeral.months", "mill/numeral.groups", "internal/bytealg.MaxLen"], apart := false, laid := [("unicode/utf8.acceptRanges", laid_unicode_utf8_acceptRanges), ("mill/numeral.groups", laid_mill_numeral_groups), ("mill/numeral.months", laid_mill_numeral_months), ("unicode/utf8.first", laid_unicode_utf8_first)], narrowed := true }
def CollateTotalUptoSaid : Prop := collateTotalUptoRow.holds Tryd.pinned (OpenSpec.upto collateTotalSpec)

/-- 'milllaw5.CollateWhole', WHERE WHAT IT READS IS OF BULK AT MOST 1048576: true; the input reads as it did. -/
def collateWholeUptoRow : OpenClaim := { program := "ytnnoegjgaelafaadoor", sum := "8ea9bd4e2ebb9cc5a5e6c9d36811a9a28100bd3bc99430d826360e0f52057c27", func := "mill/milllaw5.CollateWhole", spec := "collateWhole", inPlace := ["internal/bytealg.IndexByteString", "internal/bytealg.IndexString", "internal/bytealg.abigen_runtime_cmpstring"], unfollowed := true, recurses := true, named := ["unicode/utf8.first", "unicode/utf8.acceptRanges", "mill/numeral.months", "mill/numeral.groups", "internal/bytealg.MaxLen"], apart := false, laid := [("unicode/utf8.acceptRanges", laid_unicode_utf8_acceptRanges), ("mill/numeral.groups", laid_mill_numeral_groups), ("mill/numeral.months", laid_mill_numeral_months), ("unicode/utf8.first", laid_unicode_utf8_first)], narrowed := true }
def CollateWholeUptoSaid : Prop := collateWholeUptoRow.holds Tryd.pinned (OpenSpec.upto collateWholeSpec)

/-- 'milllaw5.CollateTurned', WHERE WHAT IT READS IS OF BULK AT MOST 1048576: true; the input reads as it did. -/
def collateTurnedUptoRow : OpenClaim := { program := "ytnnoegjgaelafaadoor", sum := "8ea9bd4e2ebb9cc5a5e6c9d36811a9a28100bd3bc99430d826360e0f52057c27", func := "mill/milllaw5.CollateTurned", spec := "collateTurned", inPlace := ["internal/bytealg.IndexByteString", "internal/bytealg.IndexString", "internal/bytealg.abigen_runtime_cmpstring"], unfollowed := true, recurses := true, named := ["unicode/utf8.first", "unicode/utf8.acceptRanges", "mill/numeral.months", "mill/numeral.groups", "internal/bytealg.MaxLen"], apart := false, laid := [("unicode/utf8.acceptRanges", laid_unicode_utf8_acceptRanges), ("mill/numeral.groups", laid_mill_numeral_groups), ("mill/numeral.months", laid_mill_numeral_months), ("unicode/utf8.first", laid_unicode_utf8_first)], narrowed := true }
def CollateTurnedUptoSaid : Prop := collateTurnedUptoRow.holds Tryd.pinned (OpenSpec.upto collateTurnedSpec)

/-- 'milllaw5.CollateTransform', WHERE WHAT IT READS IS OF BULK AT MOST 1048576: true; the input reads as it did. -/
def collateTransformUptoRow : OpenClaim := { program := "ytnnoegjgaelafaadoor", sum := "8ea9bd4e2ebb9cc5a5e6c9d36811a9a28100bd3bc99430d826360e0f52057c27", func := "mill/milllaw5.CollateTransform", spec := "collateTransform", inPlace := ["internal/bytealg.IndexByteString", "internal/bytealg.IndexString", "internal/bytealg.abigen_runtime_cmpstring", "internal/abi.NoEscape"], unfollowed := true, recurses := true, named := ["unicode/utf8.first", "unicode/utf8.acceptRanges", "mill/numeral.months", "mill/numeral.groups", "internal/bytealg.MaxLen"], apart := false, laid := [("unicode/utf8.acceptRanges", laid_unicode_utf8_acceptRanges), ("mill/numeral.groups", laid_mill_numeral_groups), ("mill/numeral.months", laid_mill_numeral_months), ("unicode/utf8.first", laid_unicode_utf8_first)], narrowed := true }
def CollateTransformUptoSaid : Prop := collateTransformUptoRow.holds Tryd.pinned (OpenSpec.upto collateTransformSpec)

/-- 'milllaw5.CollateSettles', WHERE WHAT IT READS IS OF BULK AT MOST 1048576: true; the input reads as it did. -/
def collateSettlesUptoRow : OpenClaim := { program := "ytnnoegjgaelafaadoor", sum := "8ea9bd4e2ebb9cc5a5e6c9d36811a9a28100bd3bc99430d826360e0f52057c27", func := "mill/milllaw5.CollateSettles", spec := "collateSettles", inPlace := ["internal/bytealg.IndexByteString", "internal/bytealg.IndexString", "internal/bytealg.abigen_runtime_cmpstring"], unfollowed := true, recurses := true, named := ["unicode/utf8.first", "unicode/utf8.acceptRanges", "mill/numeral.months", "mill/numeral.groups", "internal/bytealg.MaxLen"], apart := false, laid := [("unicode/utf8.acceptRanges", laid_unicode_utf8_acceptRanges), ("mill/numeral.groups", laid_mill_numeral_groups), ("mill/numeral.months", laid_mill_numeral_months), ("unicode/utf8.first", laid_unicode_utf8_first)], narrowed := true }
def CollateSettlesUptoSaid : Prop := collateSettlesUptoRow.holds Tryd.pinned (OpenSpec.upto collateSettlesSpec)

/-- 'milllaw5.CollateNil', WHERE WHAT IT READS IS OF BULK AT MOST 1048576: true; the input reads as it did. -/
def collateNilUptoRow : OpenClaim := { program := "ytnnoegjgaelafaadoor", sum := "8ea9bd4e2ebb9cc5a5e6c9d36811a9a28100bd3bc99430d826360e0f52057c27", func := "mill/milllaw5.CollateNil", spec := "collateNil", inPlace := ["internal/bytealg.IndexByteString", "internal/bytealg.abigen_runtime_cmpstring", "internal/abi.NoEscape", "internal/bytealg.IndexString"], unfollowed := true, recurses := true, named := ["unicode/utf8.first", "unicode/utf8.acceptRanges", "mill/numeral.months", "mill/numeral.groups", "internal/bytealg.MaxLen"], apart := false, laid := [("unicode/utf8.acceptRanges", laid_unicode_utf8_acceptRanges), ("mill/numeral.groups", laid_mill_numeral_groups), ("mill/numeral.months", laid_mill_numeral_months), ("unicode/utf8.first", laid_unicode_utf8_first)], narrowed := true }
def CollateNilUptoSaid : Prop := collateNilUptoRow.holds Tryd.pinned (OpenSpec.upto collateNilSpec)

end Rows
end Go.Proofs.YtnnoegjgaelafaaDoor
