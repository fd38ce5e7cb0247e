/-
  NARROWER THAN 'FOR EVERY INPUT', by the rows' own cells (each row's printed sentence says how): FnExactCodWord: laid · FnExactCodRead: laid · FnCodWord: laid · FnExactItmOk: laid · FnExactGueNext: laid · FnGueSeen: laid · FnExactGueSeen: laid · FnGueNext: laid · FnGueLearn: laid · FnCodApart: laid · FnExactEvtText: laid · FnExactTxtWrite: laid.
  DERIVED. THE GIVEN ROWS OF THIS SEAT. 12 by the template 'for every input the law returns true; each argument reads behind the call as it read before'; 0 by the template 'total and deterministic' (their statements: YtppocjgjjjojiaaDoorTotals.lean).
  GIVEN WITH THE SEED: the statements are not yours to turn. If you find one false, say at which input.
  Laid BY PROGRAM, IN A SANDBOX (cutbox-rows.mjs): the forced cells as the released guide's own fill.sh prints them over the translation e4de0235ebcf8b47… (all of the seat's roots in one cut). By AI agents, Wed Nov 11 2026. No macro, syntax, notation, axiom, sorry.
-/
import Derived.Test.YtppocjgjjjojiaaDoorChecked
import GoSem.Claim
import GoSem.ClaimJoined
import GoSem.ClaimMapViews
import Derived.JoinedTies
import Derived.KernelRfl
namespace Go.Proofs.YtppocjgjjjojiaaDoor
/- THE CELL 'sum', in the pinned program and in every row, IS THE sha256 OF THE DUMP (.gsa) THAT YtppocjgjjjojiaaDoorProg.lean LOADS. Nothing in Lean hashes anything: it is a label: what it is worth is what the hold of that sum in a sandbox is worth. -/
noncomputable def Tryd.pinned : Pinned := { name := "ytppocjgjjjojiaadoor", sum := "e4de0235ebcf8b47da86a6333f2a30cae81e0b8348b8033b9d3f8abfba997145", checked := Tryd.checked }
namespace Rows
def none {H : Type} : Left H := { results := [], args := [] }

/- WHAT THE LISTED PACKAGE-LEVEL VARIABLES READ AS WHEN THE CALL BEGINS. Each datum BY PROGRAM (the guide's laid-datum.mjs) off the statement by which the dump's own 'gosem.cut.vars' lays the variable. In a bare row this is a premise. The card (YtppocjgjjjojiaaDoorCards.lean) ties it to the program's text. -/
def laid_loop_example_harbinger_impl_kindFields {H : Type} : DataW H := .agg [.agg [.lit (.bool true), .lit (.bool true), .lit (.bool true), .lit (.int .i64 8), .lit (.int .u64 0), .lit (.bool false)], .agg [.lit (.bool true), .lit (.bool true), .lit (.bool false), .lit (.int .i64 0), .lit (.int .u64 6), .lit (.bool true)], .agg [.lit (.bool true), .lit (.bool false), .lit (.bool false), .lit (.int .i64 0), .lit (.int .u64 9), .lit (.bool false)], .agg [.lit (.bool true), .lit (.bool true), .lit (.bool false), .lit (.int .i64 0), .lit (.int .u64 6), .lit (.bool true)], .agg [.lit (.bool false), .lit (.bool true), .lit (.bool true), .lit (.int .i64 0), .lit (.int .u64 6), .lit (.bool true)], .agg [.lit (.bool false), .lit (.bool true), .lit (.bool true), .lit (.int .i64 0), .lit (.int .u64 6), .lit (.bool true)], .agg [.lit (.bool false), .lit (.bool true), .lit (.bool true), .lit (.int .i64 0), .lit (.int .u64 6), .lit (.bool true)], .agg [.lit (.bool true), .lit (.bool false), .lit (.bool false), .lit (.int .i64 0), .lit (.int .u64 9), .lit (.bool true)], .agg [.lit (.bool true), .lit (.bool true), .lit (.bool false), .lit (.int .i64 0), .lit (.int .u64 6), .lit (.bool true)], .agg [.lit (.bool true), .lit (.bool true), .lit (.bool true), .lit (.int .i64 0), .lit (.int .u64 0), .lit (.bool false)], .agg [.lit (.bool true), .lit (.bool true), .lit (.bool true), .lit (.int .i64 0), .lit (.int .u64 0), .lit (.bool false)], .agg [.lit (.bool false), .lit (.bool false), .lit (.bool false), .lit (.int .i64 0), .lit (.int .u64 0), .lit (.bool false)], .agg [.lit (.bool false), .lit (.bool false), .lit (.bool false), .lit (.int .i64 0), .lit (.int .u64 9), .lit (.bool false)], .agg [.lit (.bool false), .lit (.bool false), .lit (.bool false), .lit (.int .i64 0), .lit (.int .u64 0), .lit (.bool false)], .agg [.lit (.bool true), .lit (.bool false), .lit (.bool false), .lit (.int .i64 5), .lit (.int .u64 0), .lit (.bool false)], .agg [.lit (.bool false), .lit (.bool true), .lit (.bool false), .lit (.int .i64 5), .lit (.int .u64 0), .lit (.bool false)]]
def laid_math_bits_deBruijn32tab {H : Type} : DataW H := .agg [.lit (.int .u8 0), .lit (.int .u8 1), .lit (.int .u8 28), .lit (.int .u8 2), .lit (.int .u8 29), .lit (.int .u8 14), .lit (.int .u8 24), .lit (.int .u8 3), .lit (.int .u8 30), .lit (.int .u8 22), .lit (.int .u8 20), .lit (.int .u8 15), .lit (.int .u8 25), .lit (.int .u8 17), .lit (.int .u8 4), .lit (.int .u8 8), .lit (.int .u8 31), .lit (.int .u8 27), .lit (.int .u8 13), .lit (.int .u8 23), .lit (.int .u8 21), .lit (.int .u8 19), .lit (.int .u8 16), .lit (.int .u8 7), .lit (.int .u8 26), .lit (.int .u8 12), .lit (.int .u8 18), .lit (.int .u8 6), .lit (.int .u8 11), .lit (.int .u8 5), .lit (.int .u8 10), .lit (.int .u8 9)]
def laid_math_bits_deBruijn64tab {H : Type} : DataW H := .agg [.lit (.int .u8 0), .lit (.int .u8 1), .lit (.int .u8 56), .lit (.int .u8 2), .lit (.int .u8 57), .lit (.int .u8 49), .lit (.int .u8 28), .lit (.int .u8 3), .lit (.int .u8 61), .lit (.int .u8 58), .lit (.int .u8 42), .lit (.int .u8 50), .lit (.int .u8 38), .lit (.int .u8 29), .lit (.int .u8 17), .lit (.int .u8 4), .lit (.int .u8 62), .lit (.int .u8 47), .lit (.int .u8 59), .lit (.int .u8 36), .lit (.int .u8 45), .lit (.int .u8 43), .lit (.int .u8 51), .lit (.int .u8 22), .lit (.int .u8 53), .lit (.int .u8 39), .lit (.int .u8 33), .lit (.int .u8 30), .lit (.int .u8 24), .lit (.int .u8 18), .lit (.int .u8 12), .lit (.int .u8 5), .lit (.int .u8 63), .lit (.int .u8 55), .lit (.int .u8 48), .lit (.int .u8 27), .lit (.int .u8 60), .lit (.int .u8 41), .lit (.int .u8 37), .lit (.int .u8 16), .lit (.int .u8 46), .lit (.int .u8 35), .lit (.int .u8 44), .lit (.int .u8 21), .lit (.int .u8 52), .lit (.int .u8 32), .lit (.int .u8 23), .lit (.int .u8 11), .lit (.int .u8 54), .lit (.int .u8 26), .lit (.int .u8 40), .lit (.int .u8 15), .lit (.int .u8 34), .lit (.int .u8 20), .lit (.int .u8 31), .lit (.int .u8 10), .lit (.int .u8 25), .lit (.int .u8 14), .lit (.int .u8 19), .lit (.int .u8 9), .lit (.int .u8 13), .lit (.int .u8 8), .lit (.int .u8 7), .lit (.int .u8 6)]
def laid_internal_strconv_uint64pow10 {H : Type} : DataW H := .agg [.lit (.int .u64 1), .lit (.int .u64 10), .lit (.int .u64 100), .lit (.int .u64 1000), .lit (.int .u64 10000), .lit (.int .u64 100000), .lit (.int .u64 1000000), .lit (.int .u64 10000000), .lit (.int .u64 100000000), .lit (.int .u64 1000000000), .lit (.int .u64 10000000000), .lit (.int .u64 100000000000), .lit (.int .u64 1000000000000), .lit (.int .u64 10000000000000), .lit (.int .u64 100000000000000), .lit (.int .u64 1000000000000000), .lit (.int .u64 10000000000000000), .lit (.int .u64 100000000000000000), .lit (.int .u64 1000000000000000000), .lit (.int .u64 10000000000000000000)]
def laid_loop_example_harbinger_impl_aluNames {H : Type} : DataW H := .agg [.lit (.string [97, 100, 100]), .lit (.string [115, 117, 98]), .lit (.string [97, 110, 100]), .lit (.string [111, 114]), .lit (.string [120, 111, 114]), .lit (.string [108, 101, 115, 115]), .lit (.string [115, 104, 108]), .lit (.string [115, 104, 114])]
def laid_loop_example_harbinger_impl_kindNames {H : Type} : DataW H := .agg [.lit (.string []), .lit (.string [97, 100, 100, 105]), .lit (.string [108, 117, 105]), .lit (.string [108, 111, 97, 100]), .lit (.string [115, 97, 118, 101]), .lit (.string [101, 113]), .lit (.string [108, 116]), .lit (.string [106, 117, 109, 112]), .lit (.string [99, 97, 108, 108]), .lit (.string [109, 117, 108]), .lit (.string [115, 119, 97, 112]), .lit (.string [119, 97, 105, 116]), .lit (.string [115, 121, 115]), .lit (.string [98, 97, 99, 107]), .lit (.string [103, 101, 116]), .lit (.string [115, 101, 116])]
def laid_loop_example_harbinger_impl_lineFormats {H : Type} : DataW H := .agg [.agg [.lit (.string [103, 111]), .lit (.int .i64 0)], .agg [.lit (.string [108, 97, 121]), .lit (.int .i64 2)], .agg [.lit (.string [114, 105, 110, 103]), .lit (.int .i64 0)], .agg [.lit (.string [97, 116]), .lit (.int .i64 1)], .agg [.lit (.string [115, 116, 111, 112]), .lit (.int .i64 1)], .agg [.lit (.string [61]), .lit (.int .i64 1)], .agg [.lit (.string [105, 110, 116, 111]), .lit (.int .i64 2)], .agg [.lit (.string [116, 101, 120, 116]), .lit (.int .i64 1)], .agg [.lit (.string [108, 111, 110, 103]), .lit (.int .i64 0)], .agg [.lit (.string [108, 105, 110, 101]), .lit (.int .i64 1)]]

/-- 'laws.FnExactCodWord': WHATEVER THE INPUT: true; the input reads as it did. -/
def fnExactCodWordSpec : ChangeSpec := { name := "fnExactCodWord", vars := ["loop.example/harbinger/impl.kindFields"], fn := fun _ => fun
  | [d, g1] => { results := [.lit (.bool true)], args := [d], vars := [g1] }
  | _ => none }
def fnExactCodWordRow : OpenClaim := { program := "ytppocjgjjjojiaadoor", sum := "e4de0235ebcf8b47da86a6333f2a30cae81e0b8348b8033b9d3f8abfba997145", func := "loop.example/harbinger/laws.FnExactCodWord", spec := "fnExactCodWord", named := ["loop.example/harbinger/impl.kindFields"], apart := false, laid := [("loop.example/harbinger/impl.kindFields", laid_loop_example_harbinger_impl_kindFields)] }
def FnExactCodWordSaid : Prop := fnExactCodWordRow.holds Tryd.pinned (OpenSpec.ofChange fnExactCodWordSpec)

/-- ITS FALSE NEIGHBOUR: 'it returns false'. Refute it at one input. -/
def fnExactCodWordWrong : ChangeSpec := { name := "fnExactCodWord", vars := ["loop.example/harbinger/impl.kindFields"], fn := fun _ => fun
  | [d, g1] => { results := [.lit (.bool false)], args := [d], vars := [g1] }
  | _ => none }
def FnExactCodWordWrongFalsely : Prop := fnExactCodWordRow.holds Tryd.pinned (OpenSpec.ofChange fnExactCodWordWrong)

/-- 'laws.FnExactCodRead': WHATEVER THE INPUT: true; the input reads as it did. -/
def fnExactCodReadSpec : ChangeSpec := { name := "fnExactCodRead", vars := ["loop.example/harbinger/impl.kindFields"], fn := fun _ => fun
  | [d, g1] => { results := [.lit (.bool true)], args := [d], vars := [g1] }
  | _ => none }
def fnExactCodReadRow : OpenClaim := { program := "ytppocjgjjjojiaadoor", sum := "e4de0235ebcf8b47da86a6333f2a30cae81e0b8348b8033b9d3f8abfba997145", func := "loop.example/harbinger/laws.FnExactCodRead", spec := "fnExactCodRead", named := ["loop.example/harbinger/impl.kindFields"], apart := false, laid := [("loop.example/harbinger/impl.kindFields", laid_loop_example_harbinger_impl_kindFields)] }
def FnExactCodReadSaid : Prop := fnExactCodReadRow.holds Tryd.pinned (OpenSpec.ofChange fnExactCodReadSpec)

/-- ITS FALSE NEIGHBOUR: 'it returns false'. Refute it at one input. -/
def fnExactCodReadWrong : ChangeSpec := { name := "fnExactCodRead", vars := ["loop.example/harbinger/impl.kindFields"], fn := fun _ => fun
  | [d, g1] => { results := [.lit (.bool false)], args := [d], vars := [g1] }
  | _ => none }
def FnExactCodReadWrongFalsely : Prop := fnExactCodReadRow.holds Tryd.pinned (OpenSpec.ofChange fnExactCodReadWrong)

/-- 'laws.FnCodWord': WHATEVER THE INPUT: true; the input reads as it did. -/
def fnCodWordSpec : ChangeSpec := { name := "fnCodWord", vars := ["loop.example/harbinger/impl.kindFields"], fn := fun _ => fun
  | [d1, d2, g1] => { results := [.lit (.bool true)], args := [d1, d2], vars := [g1] }
  | _ => none }
def fnCodWordRow : OpenClaim := { program := "ytppocjgjjjojiaadoor", sum := "e4de0235ebcf8b47da86a6333f2a30cae81e0b8348b8033b9d3f8abfba997145", func := "loop.example/harbinger/laws.FnCodWord", spec := "fnCodWord", named := ["loop.example/harbinger/impl.kindFields"], apart := false, laid := [("loop.example/harbinger/impl.kindFields", laid_loop_example_harbinger_impl_kindFields)] }
def FnCodWordSaid : Prop := fnCodWordRow.holds Tryd.pinned (OpenSpec.ofChange fnCodWordSpec)

/-- ITS FALSE NEIGHBOUR: 'it returns false'. Refute it at one input. -/
def fnCodWordWrong : ChangeSpec := { name := "fnCodWord", vars := ["loop.example/harbinger/impl.kindFields"], fn := fun _ => fun
  | [d1, d2, g1] => { results := [.lit (.bool false)], args := [d1, d2], vars := [g1] }
  | _ => none }
def FnCodWordWrongFalsely : Prop := fnCodWordRow.holds Tryd.pinned (OpenSpec.ofChange fnCodWordWrong)

/-- 'laws.FnExactItmOk': WHATEVER THE INPUT: true; the input reads as it did. -/
def fnExactItmOkSpec : ChangeSpec := { name := "fnExactItmOk", vars := ["loop.example/harbinger/impl.kindFields"], fn := fun _ => fun
  | [d, g1] => { results := [.lit (.bool true)], args := [d], vars := [g1] }
  | _ => none }
def fnExactItmOkRow : OpenClaim := { program := "ytppocjgjjjojiaadoor", sum := "e4de0235ebcf8b47da86a6333f2a30cae81e0b8348b8033b9d3f8abfba997145", func := "loop.example/harbinger/laws.FnExactItmOk", spec := "fnExactItmOk", named := ["loop.example/harbinger/impl.kindFields"], apart := false, laid := [("loop.example/harbinger/impl.kindFields", laid_loop_example_harbinger_impl_kindFields)] }
def FnExactItmOkSaid : Prop := fnExactItmOkRow.holds Tryd.pinned (OpenSpec.ofChange fnExactItmOkSpec)

/-- ITS FALSE NEIGHBOUR: 'it returns false'. Refute it at one input. -/
def fnExactItmOkWrong : ChangeSpec := { name := "fnExactItmOk", vars := ["loop.example/harbinger/impl.kindFields"], fn := fun _ => fun
  | [d, g1] => { results := [.lit (.bool false)], args := [d], vars := [g1] }
  | _ => none }
def FnExactItmOkWrongFalsely : Prop := fnExactItmOkRow.holds Tryd.pinned (OpenSpec.ofChange fnExactItmOkWrong)

/-- 'laws.FnExactGueNext': WHATEVER THE INPUT: true; the input reads as it did. -/
def fnExactGueNextSpec : ChangeSpec := { name := "fnExactGueNext", vars := ["loop.example/harbinger/impl.kindFields"], fn := fun _ => fun
  | [d1, d2, d3, g1] => { results := [.lit (.bool true)], args := [d1, d2, d3], vars := [g1] }
  | _ => none }
def fnExactGueNextRow : OpenClaim := { program := "ytppocjgjjjojiaadoor", sum := "e4de0235ebcf8b47da86a6333f2a30cae81e0b8348b8033b9d3f8abfba997145", func := "loop.example/harbinger/laws.FnExactGueNext", spec := "fnExactGueNext", named := ["loop.example/harbinger/impl.kindFields"], apart := false, laid := [("loop.example/harbinger/impl.kindFields", laid_loop_example_harbinger_impl_kindFields)] }
def FnExactGueNextSaid : Prop := fnExactGueNextRow.holds Tryd.pinned (OpenSpec.ofChange fnExactGueNextSpec)

/-- ITS FALSE NEIGHBOUR: 'it returns false'. Refute it at one input. -/
def fnExactGueNextWrong : ChangeSpec := { name := "fnExactGueNext", vars := ["loop.example/harbinger/impl.kindFields"], fn := fun _ => fun
  | [d1, d2, d3, g1] => { results := [.lit (.bool false)], args := [d1, d2, d3], vars := [g1] }
  | _ => none }
def FnExactGueNextWrongFalsely : Prop := fnExactGueNextRow.holds Tryd.pinned (OpenSpec.ofChange fnExactGueNextWrong)

/-- 'laws.FnGueSeen': WHATEVER THE INPUT: true; the input reads as it did. -/
def fnGueSeenSpec : ChangeSpec := { name := "fnGueSeen", vars := ["loop.example/harbinger/impl.kindFields"], fn := fun _ => fun
  | [d, g1] => { results := [.lit (.bool true)], args := [d], vars := [g1] }
  | _ => none }
def fnGueSeenRow : OpenClaim := { program := "ytppocjgjjjojiaadoor", sum := "e4de0235ebcf8b47da86a6333f2a30cae81e0b8348b8033b9d3f8abfba997145", func := "loop.example/harbinger/laws.FnGueSeen", spec := "fnGueSeen", named := ["loop.example/harbinger/impl.kindFields"], apart := false, laid := [("loop.example/harbinger/impl.kindFields", laid_loop_example_harbinger_impl_kindFields)] }
def FnGueSeenSaid : Prop := fnGueSeenRow.holds Tryd.pinned (OpenSpec.ofChange fnGueSeenSpec)

/-- ITS FALSE NEIGHBOUR: 'it returns false'. Refute it at one input. -/
def fnGueSeenWrong : ChangeSpec := { name := "fnGueSeen", vars := ["loop.example/harbinger/impl.kindFields"], fn := fun _ => fun
  | [d, g1] => { results := [.lit (.bool false)], args := [d], vars := [g1] }
  | _ => none }
def FnGueSeenWrongFalsely : Prop := fnGueSeenRow.holds Tryd.pinned (OpenSpec.ofChange fnGueSeenWrong)

/-- 'laws.FnExactGueSeen': WHATEVER THE INPUT: true; the input reads as it did. -/
def fnExactGueSeenSpec : ChangeSpec := { name := "fnExactGueSeen", vars := ["loop.example/harbinger/impl.kindFields"], fn := fun _ => fun
  | [d1, d2, d3, g1] => { results := [.lit (.bool true)], args := [d1, d2, d3], vars := [g1] }
  | _ => none }
def fnExactGueSeenRow : OpenClaim := { program := "ytppocjgjjjojiaadoor", sum := "e4de0235ebcf8b47da86a6333f2a30cae81e0b8348b8033b9d3f8abfba997145", func := "loop.example/harbinger/laws.FnExactGueSeen", spec := "fnExactGueSeen", named := ["loop.example/harbinger/impl.kindFields"], apart := false, laid := [("loop.example/harbinger/impl.kindFields", laid_loop_example_harbinger_impl_kindFields)] }
def FnExactGueSeenSaid : Prop := fnExactGueSeenRow.holds Tryd.pinned (OpenSpec.ofChange fnExactGueSeenSpec)

/-- ITS FALSE NEIGHBOUR: 'it returns false'. Refute it at one input. -/
def fnExactGueSeenWrong : ChangeSpec := { name := "fnExactGueSeen", vars := ["loop.example/harbinger/impl.kindFields"], fn := fun _ => fun
  | [d1, d2, d3, g1] => { results := [.lit (.bool false)], args := [d1, d2, d3], vars := [g1] }
  | _ => none }
def FnExactGueSeenWrongFalsely : Prop := fnExactGueSeenRow.holds Tryd.pinned (OpenSpec.ofChange fnExactGueSeenWrong)

/-- 'laws.FnGueNext': WHATEVER THE INPUT: true; the input reads as it did. -/
def fnGueNextSpec : ChangeSpec := { name := "fnGueNext", vars := ["loop.example/harbinger/impl.kindFields"], fn := fun _ => fun
  | [d, g1] => { results := [.lit (.bool true)], args := [d], vars := [g1] }
  | _ => none }
def fnGueNextRow : OpenClaim := { program := "ytppocjgjjjojiaadoor", sum := "e4de0235ebcf8b47da86a6333f2a30cae81e0b8348b8033b9d3f8abfba997145", func := "loop.example/harbinger/laws.FnGueNext", spec := "fnGueNext", named := ["loop.example/harbinger/impl.kindFields"], apart := false, laid := [("loop.example/harbinger/impl.kindFields", laid_loop_example_harbinger_impl_kindFields)] }
def FnGueNextSaid : Prop := fnGueNextRow.holds Tryd.pinned (OpenSpec.ofChange fnGueNextSpec)

/-- ITS FALSE NEIGHBOUR: 'it returns false'. Refute it at one input. -/
def fnGueNextWrong : ChangeSpec := { name := "fnGueNext", vars := ["loop.example/harbinger/impl.kindFields"], fn := fun _ => fun
  | [d, g1] => { results := [.lit (.bool false)], args := [d], vars := [g1] }
  | _ => none }
def FnGueNextWrongFalsely : Prop := fnGueNextRow.holds Tryd.pinned (OpenSpec.ofChange fnGueNextWrong)

/-- 'laws.FnGueLearn': WHATEVER THE INPUT: true; the input reads as it did. -/
def fnGueLearnSpec : ChangeSpec := { name := "fnGueLearn", vars := ["loop.example/harbinger/impl.kindFields"], fn := fun _ => fun
  | [d, g1] => { results := [.lit (.bool true)], args := [d], vars := [g1] }
  | _ => none }
def fnGueLearnRow : OpenClaim := { program := "ytppocjgjjjojiaadoor", sum := "e4de0235ebcf8b47da86a6333f2a30cae81e0b8348b8033b9d3f8abfba997145", func := "loop.example/harbinger/laws.FnGueLearn", spec := "fnGueLearn", named := ["loop.example/harbinger/impl.kindFields"], apart := false, laid := [("loop.example/harbinger/impl.kindFields", laid_loop_example_harbinger_impl_kindFields)] }
def FnGueLearnSaid : Prop := fnGueLearnRow.holds Tryd.pinned (OpenSpec.ofChange fnGueLearnSpec)

/-- ITS FALSE NEIGHBOUR: 'it returns false'. Refute it at one input. -/
def fnGueLearnWrong : ChangeSpec := { name := "fnGueLearn", vars := ["loop.example/harbinger/impl.kindFields"], fn := fun _ => fun
  | [d, g1] => { results := [.lit (.bool false)], args := [d], vars := [g1] }
  | _ => none }
def FnGueLearnWrongFalsely : Prop := fnGueLearnRow.holds Tryd.pinned (OpenSpec.ofChange fnGueLearnWrong)

/-- 'laws.FnCodApart': WHATEVER THE INPUT: true; the input reads as it did. -/
def fnCodApartSpec : ChangeSpec := { name := "fnCodApart", vars := ["loop.example/harbinger/impl.kindFields", "loop.example/harbinger/impl.aluNames", "loop.example/harbinger/impl.kindNames"], fn := fun _ => fun
  | [d1, d2, g1, g2, g3] => { results := [.lit (.bool true)], args := [d1, d2], vars := [g1, g2, g3] }
  | _ => none }
def fnCodApartRow : OpenClaim := { program := "ytppocjgjjjojiaadoor", sum := "e4de0235ebcf8b47da86a6333f2a30cae81e0b8348b8033b9d3f8abfba997145", func := "loop.example/harbinger/laws.FnCodApart", spec := "fnCodApart", inPlace := ["internal/abi.NoEscape"], recurses := true, named := ["loop.example/harbinger/impl.kindFields", "loop.example/harbinger/impl.aluNames", "loop.example/harbinger/impl.kindNames", "internal/strconv.uint64pow10", "math/bits.deBruijn32tab", "math/bits.deBruijn64tab"], apart := false, laid := [("math/bits.deBruijn32tab", laid_math_bits_deBruijn32tab), ("math/bits.deBruijn64tab", laid_math_bits_deBruijn64tab), ("internal/strconv.uint64pow10", laid_internal_strconv_uint64pow10), ("loop.example/harbinger/impl.kindFields", laid_loop_example_harbinger_impl_kindFields), ("loop.example/harbinger/impl.aluNames", laid_loop_example_harbinger_impl_aluNames), ("loop.example/harbinger/impl.kindNames", laid_loop_example_harbinger_impl_kindNames)] }
def FnCodApartSaid : Prop := fnCodApartRow.holds Tryd.pinned (OpenSpec.ofChange fnCodApartSpec)

/-- ITS FALSE NEIGHBOUR: 'it returns false'. Refute it at one input. -/
def fnCodApartWrong : ChangeSpec := { name := "fnCodApart", vars := ["loop.example/harbinger/impl.kindFields", "loop.example/harbinger/impl.aluNames", "loop.example/harbinger/impl.kindNames"], fn := fun _ => fun
  | [d1, d2, g1, g2, g3] => { results := [.lit (.bool false)], args := [d1, d2], vars := [g1, g2, g3] }
  | _ => none }
def FnCodApartWrongFalsely : Prop := fnCodApartRow.holds Tryd.pinned (OpenSpec.ofChange fnCodApartWrong)

/-- 'laws.FnExactEvtText': WHATEVER THE INPUT: true; the input reads as it did. -/
def fnExactEvtTextSpec : ChangeSpec := { name := "fnExactEvtText", vars := ["loop.example/harbinger/impl.lineFormats", "loop.example/harbinger/impl.kindFields", "loop.example/harbinger/impl.aluNames", "loop.example/harbinger/impl.kindNames"], fn := fun _ => fun
  | [d, g1, g2, g3, g4] => { results := [.lit (.bool true)], args := [d], vars := [g1, g2, g3, g4] }
  | _ => none }
def fnExactEvtTextRow : OpenClaim := { program := "ytppocjgjjjojiaadoor", sum := "e4de0235ebcf8b47da86a6333f2a30cae81e0b8348b8033b9d3f8abfba997145", func := "loop.example/harbinger/laws.FnExactEvtText", spec := "fnExactEvtText", inPlace := ["internal/abi.NoEscape"], recurses := true, named := ["loop.example/harbinger/impl.lineFormats", "internal/strconv.uint64pow10", "math/bits.deBruijn32tab", "math/bits.deBruijn64tab", "loop.example/harbinger/impl.kindFields", "loop.example/harbinger/impl.aluNames", "loop.example/harbinger/impl.kindNames"], apart := false, laid := [("math/bits.deBruijn32tab", laid_math_bits_deBruijn32tab), ("math/bits.deBruijn64tab", laid_math_bits_deBruijn64tab), ("internal/strconv.uint64pow10", laid_internal_strconv_uint64pow10), ("loop.example/harbinger/impl.lineFormats", laid_loop_example_harbinger_impl_lineFormats), ("loop.example/harbinger/impl.kindFields", laid_loop_example_harbinger_impl_kindFields), ("loop.example/harbinger/impl.aluNames", laid_loop_example_harbinger_impl_aluNames), ("loop.example/harbinger/impl.kindNames", laid_loop_example_harbinger_impl_kindNames)] }
def FnExactEvtTextSaid : Prop := fnExactEvtTextRow.holds Tryd.pinned (OpenSpec.ofChange fnExactEvtTextSpec)

/-- ITS FALSE NEIGHBOUR: 'it returns false'. Refute it at one input. -/
def fnExactEvtTextWrong : ChangeSpec := { name := "fnExactEvtText", vars := ["loop.example/harbinger/impl.lineFormats", "loop.example/harbinger/impl.kindFields", "loop.example/harbinger/impl.aluNames", "loop.example/harbinger/impl.kindNames"], fn := fun _ => fun
  | [d, g1, g2, g3, g4] => { results := [.lit (.bool false)], args := [d], vars := [g1, g2, g3, g4] }
  | _ => none }
def FnExactEvtTextWrongFalsely : Prop := fnExactEvtTextRow.holds Tryd.pinned (OpenSpec.ofChange fnExactEvtTextWrong)

/-- 'laws.FnExactTxtWrite': WHATEVER THE INPUT: true; the input reads as it did. -/
def fnExactTxtWriteSpec : ChangeSpec := { name := "fnExactTxtWrite", vars := ["loop.example/harbinger/impl.kindFields", "loop.example/harbinger/impl.aluNames", "loop.example/harbinger/impl.kindNames"], fn := fun _ => fun
  | [d, g1, g2, g3] => { results := [.lit (.bool true)], args := [d], vars := [g1, g2, g3] }
  | _ => none }
def fnExactTxtWriteRow : OpenClaim := { program := "ytppocjgjjjojiaadoor", sum := "e4de0235ebcf8b47da86a6333f2a30cae81e0b8348b8033b9d3f8abfba997145", func := "loop.example/harbinger/laws.FnExactTxtWrite", spec := "fnExactTxtWrite", inPlace := ["internal/abi.NoEscape"], recurses := true, named := ["loop.example/harbinger/impl.kindFields", "loop.example/harbinger/impl.aluNames", "loop.example/harbinger/impl.kindNames", "internal/strconv.uint64pow10", "math/bits.deBruijn32tab", "math/bits.deBruijn64tab"], apart := false, laid := [("math/bits.deBruijn32tab", laid_math_bits_deBruijn32tab), ("math/bits.deBruijn64tab", laid_math_bits_deBruijn64tab), ("internal/strconv.uint64pow10", laid_internal_strconv_uint64pow10), ("loop.example/harbinger/impl.kindFields", laid_loop_example_harbinger_impl_kindFields), ("loop.example/harbinger/impl.aluNames", laid_loop_example_harbinger_impl_aluNames), ("loop.example/harbinger/impl.kindNames", laid_loop_example_harbinger_impl_kindNames)] }
def FnExactTxtWriteSaid : Prop := fnExactTxtWriteRow.holds Tryd.pinned (OpenSpec.ofChange fnExactTxtWriteSpec)

/-- ITS FALSE NEIGHBOUR: 'it returns false'. Refute it at one input. -/
def fnExactTxtWriteWrong : ChangeSpec := { name := "fnExactTxtWrite", vars := ["loop.example/harbinger/impl.kindFields", "loop.example/harbinger/impl.aluNames", "loop.example/harbinger/impl.kindNames"], fn := fun _ => fun
  | [d, g1, g2, g3] => { results := [.lit (.bool false)], args := [d], vars := [g1, g2, g3] }
  | _ => none }
def FnExactTxtWriteWrongFalsely : Prop := fnExactTxtWriteRow.holds Tryd.pinned (OpenSpec.ofChange fnExactTxtWriteWrong)

/- THE SECOND FORM. 'bulk': how many values and letters a reading holds, each counted each time it is reached (what is shared counts as often as it is met; a slice's spare places count too). A statement '..UptoSaid' is the law's where the arguments, and the package variables that the reading takes, are together of bulk at most 1048576: NARROWER than '..Said'. Prove '..Said' where nothing that the law and all that it calls make is longer than what came in: it says more and counts as full. Else prove '..UptoSaid'. A law counts once. -/
mutual
def uptoBulk {H : Type} : DataW H → Nat
  | .lit (.string bytes) => bytes.length + 1
  | .lit _ => 1
  | .nil => 1
  | .ptr d => uptoBulk d + 1
  | .slice elems spare => uptoBulkAll elems + uptoBulkAll spare + 1
  | .agg parts => uptoBulkAll parts + 1
  | .iface _ d => uptoBulk d + 1
  | .map entries => uptoBulkEntries entries + 1
  | .held _ => 1
def uptoBulkAll {H : Type} : List (DataW H) → Nat
  | [] => 0
  | d :: r => uptoBulk d + uptoBulkAll r
def uptoBulkEntries {H : Type} : List (Lit × DataW H) → Nat
  | [] => 0
  | x :: r => uptoBulkEntry x + uptoBulkEntries r
def uptoBulkEntry {H : Type} : Lit × DataW H → Nat
  | (.string bytes, d) => bytes.length + uptoBulk d + 1
  | (_, d) => uptoBulk d + 1
 end
def uptoSmall : (H : Type) → List (DataW H) → Bool := fun _ ds => decide (uptoBulkAll ds ≤ 1048576)
def OpenSpec.upto (s : _root_.Go.ChangeSpec) : _root_.Go.OpenSpec := { _root_.Go.OpenSpec.ofChange s with cond := some uptoSmall }

/-- 'laws.FnExactCodWord', WHERE WHAT IT READS IS OF BULK AT MOST 1048576: true; the input reads as it did. -/
def fnExactCodWordUptoRow : OpenClaim := { program := "ytppocjgjjjojiaadoor", sum := "e4de0235ebcf8b47da86a6333f2a30cae81e0b8348b8033b9d3f8abfba997145", func := "loop.example/harbinger/laws.FnExactCodWord", spec := "fnExactCodWord", named := ["loop.example/harbinger/impl.kindFields"], apart := false, laid := [("loop.example/harbinger/impl.kindFields", laid_loop_example_harbinger_impl_kindFields)], narrowed := true }
def FnExactCodWordUptoSaid : Prop := fnExactCodWordUptoRow.holds Tryd.pinned (OpenSpec.upto fnExactCodWordSpec)

/-- 'laws.FnExactCodRead', WHERE WHAT IT READS IS OF BULK AT MOST 1048576: true; the input reads as it did. -/
def fnExactCodReadUptoRow : OpenClaim := { program := "ytppocjgjjjojiaadoor", sum := "e4de0235ebcf8b47da86a6333f2a30cae81e0b8348b8033b9d3f8abfba997145", func := "loop.example/harbinger/laws.FnExactCodRead", spec := "fnExactCodRead", named := ["loop.example/harbinger/impl.kindFields"], apart := false, laid := [("loop.example/harbinger/impl.kindFields", laid_loop_example_harbinger_impl_kindFields)], narrowed := true }
def FnExactCodReadUptoSaid : Prop := fnExactCodReadUptoRow.holds Tryd.pinned (OpenSpec.upto fnExactCodReadSpec)

/-- 'laws.FnCodWord', WHERE WHAT IT READS IS OF BULK AT MOST 1048576: true; the input reads as it did. -/
def fnCodWordUptoRow : OpenClaim := { program := "ytppocjgjjjojiaadoor", sum := "e4de0235ebcf8b47da86a6333f2a30cae81e0b8348b8033b9d3f8abfba997145", func := "loop.example/harbinger/laws.FnCodWord", spec := "fnCodWord", named := ["loop.example/harbinger/impl.kindFields"], apart := false, laid := [("loop.example/harbinger/impl.kindFields", laid_loop_example_harbinger_impl_kindFields)], narrowed := true }
def FnCodWordUptoSaid : Prop := fnCodWordUptoRow.holds Tryd.pinned (OpenSpec.upto fnCodWordSpec)

/-- 'laws.FnExactItmOk', WHERE WHAT IT READS IS OF BULK AT MOST 1048576: true; the input reads as it did. -/
def fnExactItmOkUptoRow : OpenClaim := { program := "ytppocjgjjjojiaadoor", sum := "e4de0235ebcf8b47da86a6333f2a30cae81e0b8348b8033b9d3f8abfba997145", func := "loop.example/harbinger/laws.FnExactItmOk", spec := "fnExactItmOk", named := ["loop.example/harbinger/impl.kindFields"], apart := false, laid := [("loop.example/harbinger/impl.kindFields", laid_loop_example_harbinger_impl_kindFields)], narrowed := true }
def FnExactItmOkUptoSaid : Prop := fnExactItmOkUptoRow.holds Tryd.pinned (OpenSpec.upto fnExactItmOkSpec)

/-- 'laws.FnExactGueNext', WHERE WHAT IT READS IS OF BULK AT MOST 1048576: true; the input reads as it did. -/
def fnExactGueNextUptoRow : OpenClaim := { program := "ytppocjgjjjojiaadoor", sum := "e4de0235ebcf8b47da86a6333f2a30cae81e0b8348b8033b9d3f8abfba997145", func := "loop.example/harbinger/laws.FnExactGueNext", spec := "fnExactGueNext", named := ["loop.example/harbinger/impl.kindFields"], apart := false, laid := [("loop.example/harbinger/impl.kindFields", laid_loop_example_harbinger_impl_kindFields)], narrowed := true }
def FnExactGueNextUptoSaid : Prop := fnExactGueNextUptoRow.holds Tryd.pinned (OpenSpec.upto fnExactGueNextSpec)

/-- 'laws.FnGueSeen', WHERE WHAT IT READS IS OF BULK AT MOST 1048576: true; the input reads as it did. -/
def fnGueSeenUptoRow : OpenClaim := { program := "ytppocjgjjjojiaadoor", sum := "e4de0235ebcf8b47da86a6333f2a30cae81e0b8348b8033b9d3f8abfba997145", func := "loop.example/harbinger/laws.FnGueSeen", spec := "fnGueSeen", named := ["loop.example/harbinger/impl.kindFields"], apart := false, laid := [("loop.example/harbinger/impl.kindFields", laid_loop_example_harbinger_impl_kindFields)], narrowed := true }
def FnGueSeenUptoSaid : Prop := fnGueSeenUptoRow.holds Tryd.pinned (OpenSpec.upto fnGueSeenSpec)

/-- 'laws.FnExactGueSeen', WHERE WHAT IT READS IS OF BULK AT MOST 1048576: true; the input reads as it did. -/
def fnExactGueSeenUptoRow : OpenClaim := { program := "ytppocjgjjjojiaadoor", sum := "e4de0235ebcf8b47da86a6333f2a30cae81e0b8348b8033b9d3f8abfba997145", func := "loop.example/harbinger/laws.FnExactGueSeen", spec := "fnExactGueSeen", named := ["loop.example/harbinger/impl.kindFields"], apart := false, laid := [("loop.example/harbinger/impl.kindFields", laid_loop_example_harbinger_impl_kindFields)], narrowed := true }
def FnExactGueSeenUptoSaid : Prop := fnExactGueSeenUptoRow.holds Tryd.pinned (OpenSpec.upto fnExactGueSeenSpec)

/-- 'laws.FnGueNext', WHERE WHAT IT READS IS OF BULK AT MOST 1048576: true; the input reads as it did. -/
def fnGueNextUptoRow : OpenClaim := { program := "ytppocjgjjjojiaadoor", sum := "e4de0235ebcf8b47da86a6333f2a30cae81e0b8348b8033b9d3f8abfba997145", func := "loop.example/harbinger/laws.FnGueNext", spec := "fnGueNext", named := ["loop.example/harbinger/impl.kindFields"], apart := false, laid := [("loop.example/harbinger/impl.kindFields", laid_loop_example_harbinger_impl_kindFields)], narrowed := true }
def FnGueNextUptoSaid : Prop := fnGueNextUptoRow.holds Tryd.pinned (OpenSpec.upto fnGueNextSpec)

/-- 'laws.FnGueLearn', WHERE WHAT IT READS IS OF BULK AT MOST 1048576: true; the input reads as it did. -/
def fnGueLearnUptoRow : OpenClaim := { program := "ytppocjgjjjojiaadoor", sum := "e4de0235ebcf8b47da86a6333f2a30cae81e0b8348b8033b9d3f8abfba997145", func := "loop.example/harbinger/laws.FnGueLearn", spec := "fnGueLearn", named := ["loop.example/harbinger/impl.kindFields"], apart := false, laid := [("loop.example/harbinger/impl.kindFields", laid_loop_example_harbinger_impl_kindFields)], narrowed := true }
def FnGueLearnUptoSaid : Prop := fnGueLearnUptoRow.holds Tryd.pinned (OpenSpec.upto fnGueLearnSpec)

/-- 'laws.FnCodApart', WHERE WHAT IT READS IS OF BULK AT MOST 1048576: true; the input reads as it did. -/
def fnCodApartUptoRow : OpenClaim := { program := "ytppocjgjjjojiaadoor", sum := "e4de0235ebcf8b47da86a6333f2a30cae81e0b8348b8033b9d3f8abfba997145", func := "loop.example/harbinger/laws.FnCodApart", spec := "fnCodApart", inPlace := ["internal/abi.NoEscape"], recurses := true, named := ["loop.example/harbinger/impl.kindFields", "loop.example/harbinger/impl.aluNames", "loop.example/harbinger/impl.kindNames", "internal/strconv.uint64pow10", "math/bits.deBruijn32tab", "math/bits.deBruijn64tab"], apart := false, laid := [("math/bits.deBruijn32tab", laid_math_bits_deBruijn32tab), ("math/bits.deBruijn64tab", laid_math_bits_deBruijn64tab), ("internal/strconv.uint64pow10", laid_internal_strconv_uint64pow10), ("loop.example/harbinger/impl.kindFields", laid_loop_example_harbinger_impl_kindFields), ("loop.example/harbinger/impl.aluNames", laid_loop_example_harbinger_impl_aluNames), ("loop.example/harbinger/impl.kindNames", laid_loop_example_harbinger_impl_kindNames)], narrowed := true }
def FnCodApartUptoSaid : Prop := fnCodApartUptoRow.holds Tryd.pinned (OpenSpec.upto fnCodApartSpec)

/-- 'laws.FnExactEvtText', WHERE WHAT IT READS IS OF BULK AT MOST 1048576: true; the input reads as it did. -/
def fnExactEvtTextUptoRow : OpenClaim := { program := "ytppocjgjjjojiaadoor", sum := "e4de0235ebcf8b47da86a6333f2a30cae81e0b8348b8033b9d3f8abfba997145", func := "loop.example/harbinger/laws.FnExactEvtText", spec := "fnExactEvtText", inPlace := ["internal/abi.NoEscape"], recurses := true, named := ["loop.example/harbinger/impl.lineFormats", "internal/strconv.uint64pow10", "math/bits.deBruijn32tab", "math/bits.deBruijn64tab", "loop.example/harbinger/impl.kindFields", "loop.example/harbinger/impl.aluNames", "loop.example/harbinger/impl.kindNames"], apart := false, laid := [("math/bits.deBruijn32tab", laid_math_bits_deBruijn32tab), ("math/bits.deBruijn64tab", laid_math_bits_deBruijn64tab), ("internal/strconv.uint64pow10", laid_internal_strconv_uint64pow10), ("loop.example/harbinger/impl.lineFormats", laid_loop_example_harbinger_impl_lineFormats), ("loop.example/harbinger/impl.kindFields", laid_loop_example_harbinger_impl_kindFields), ("loop.example/harbinger/impl.aluNames", laid_loop_example_harbinger_impl_aluNames), ("loop.example/harbinger/impl.kindNames", laid_loop_example_harbinger_impl_kindNames)], narrowed := true }
def FnExactEvtTextUptoSaid : Prop := fnExactEvtTextUptoRow.holds Tryd.pinned (OpenSpec.upto fnExactEvtTextSpec)

/-- 'laws.FnExactTxtWrite', WHERE WHAT IT READS IS OF BULK AT MOST 1048576: true; the input reads as it did. -/
def fnExactTxtWriteUptoRow : OpenClaim := { program := "ytppocjgjjjojiaadoor", sum := "e4de0235ebcf8b47da86a6333f2a30cae81e0b8348b8033b9d3f8abfba997145", func := "loop.example/harbinger/laws.FnExactTxtWrite", spec := "fnExactTxtWrite", inPlace := ["internal/abi.NoEscape"], recurses := true, named := ["loop.example/harbinger/impl.kindFields", "loop.example/harbinger/impl.aluNames", "loop.example/harbinger/impl.kindNames", "internal/strconv.uint64pow10", "math/bits.deBruijn32tab", "math/bits.deBruijn64tab"], apart := false, laid := [("math/bits.deBruijn32tab", laid_math_bits_deBruijn32tab), ("math/bits.deBruijn64tab", laid_math_bits_deBruijn64tab), ("internal/strconv.uint64pow10", laid_internal_strconv_uint64pow10), ("loop.example/harbinger/impl.kindFields", laid_loop_example_harbinger_impl_kindFields), ("loop.example/harbinger/impl.aluNames", laid_loop_example_harbinger_impl_aluNames), ("loop.example/harbinger/impl.kindNames", laid_loop_example_harbinger_impl_kindNames)], narrowed := true }
def FnExactTxtWriteUptoSaid : Prop := fnExactTxtWriteUptoRow.holds Tryd.pinned (OpenSpec.upto fnExactTxtWriteSpec)

end Rows
end Go.Proofs.YtppocjgjjjojiaaDoor
