/-
  No cell of these rows narrows 'for every input' (looked for: loops, veiled, ifaces, maps, wideKeys, modest, calm, conditions, laid).
  DERIVED. THE GIVEN ROWS OF THIS SEAT. 4 by the template 'for every input the law returns true; each argument reads behind the call as it read before'; 0 by the template 'total and deterministic' (their statements: YtjdclaglelldeaaTotals.lean).
  GIVEN WITH THE SEED: the statements are not yours to turn. If you find one false, say at which input.
  Laid BY PROGRAM, IN A SANDBOX (cutbox-rows.mjs): the forced cells as the released guide's own fill.sh prints them over the translation c129d18d7ca286a8… (all of the seat's roots in one cut). By AI agents, Wed Nov 11 2026. No macro, syntax, notation, axiom, sorry.
-/
import Derived.Test.YtjdclaglelldeaaChecked
import GoSem.Claim
import GoSem.ClaimJoined
import GoSem.ClaimMapViews
import Derived.JoinedTies
import Derived.KernelRfl
namespace Go.Proofs.Ytjdclaglelldeaa
/- THE CELL 'sum', in the pinned program and in every row, IS THE sha256 OF THE DUMP (.gsa) THAT YtjdclaglelldeaaProg.lean LOADS. Nothing in Lean hashes anything: it is a label: what it is worth is what the hold of that sum in a sandbox is worth. -/
noncomputable def Try.pinned : Pinned := { name := "ytjdclaglelldeaa", sum := "c129d18d7ca286a8d9fade73f0e956f58ec1d557f5a7c248245f9f9859d138c1", checked := Try.checked }
namespace Rows
def none {H : Type} : Left H := { results := [], args := [] }

/-- 'laws.FnExactCntOk': WHATEVER THE INPUT: true; the input reads as it did. -/
def fnExactCntOkSpec : ChangeSpec := { name := "fnExactCntOk", fn := fun _ => fun
  | [d] => { results := [.lit (.bool true)], args := [d] }
  | _ => none }
def fnExactCntOkRow : OpenClaim := { program := "ytjdclaglelldeaa", sum := "c129d18d7ca286a8d9fade73f0e956f58ec1d557f5a7c248245f9f9859d138c1", func := "loop.example/harbinger/laws.FnExactCntOk", spec := "fnExactCntOk", apart := false }
def FnExactCntOkSaid : Prop := fnExactCntOkRow.holds Try.pinned (OpenSpec.ofChange fnExactCntOkSpec)

/-- ITS FALSE NEIGHBOUR: 'it returns false'. Refute it at one input. -/
def fnExactCntOkWrong : ChangeSpec := { name := "fnExactCntOk", fn := fun _ => fun
  | [d] => { results := [.lit (.bool false)], args := [d] }
  | _ => none }
def FnExactCntOkWrongFalsely : Prop := fnExactCntOkRow.holds Try.pinned (OpenSpec.ofChange fnExactCntOkWrong)

/-- 'laws.FnCntOk': WHATEVER THE INPUT: true; the input reads as it did. -/
def fnCntOkSpec : ChangeSpec := { name := "fnCntOk", fn := fun _ => fun
  | [d] => { results := [.lit (.bool true)], args := [d] }
  | _ => none }
def fnCntOkRow : OpenClaim := { program := "ytjdclaglelldeaa", sum := "c129d18d7ca286a8d9fade73f0e956f58ec1d557f5a7c248245f9f9859d138c1", func := "loop.example/harbinger/laws.FnCntOk", spec := "fnCntOk", apart := false }
def FnCntOkSaid : Prop := fnCntOkRow.holds Try.pinned (OpenSpec.ofChange fnCntOkSpec)

/-- ITS FALSE NEIGHBOUR: 'it returns false'. Refute it at one input. -/
def fnCntOkWrong : ChangeSpec := { name := "fnCntOk", fn := fun _ => fun
  | [d] => { results := [.lit (.bool false)], args := [d] }
  | _ => none }
def FnCntOkWrongFalsely : Prop := fnCntOkRow.holds Try.pinned (OpenSpec.ofChange fnCntOkWrong)

/-- 'laws.FnNamPut': WHATEVER THE INPUT: true; the input reads as it did. -/
def fnNamPutSpec : ChangeSpec := { name := "fnNamPut", fn := fun _ => fun
  | [d] => { results := [.lit (.bool true)], args := [d] }
  | _ => none }
def fnNamPutRow : OpenClaim := { program := "ytjdclaglelldeaa", sum := "c129d18d7ca286a8d9fade73f0e956f58ec1d557f5a7c248245f9f9859d138c1", func := "loop.example/harbinger/laws.FnNamPut", spec := "fnNamPut", apart := false }
def FnNamPutSaid : Prop := fnNamPutRow.holds Try.pinned (OpenSpec.ofChange fnNamPutSpec)

/-- ITS FALSE NEIGHBOUR: 'it returns false'. Refute it at one input. -/
def fnNamPutWrong : ChangeSpec := { name := "fnNamPut", fn := fun _ => fun
  | [d] => { results := [.lit (.bool false)], args := [d] }
  | _ => none }
def FnNamPutWrongFalsely : Prop := fnNamPutRow.holds Try.pinned (OpenSpec.ofChange fnNamPutWrong)

/-- 'laws.FnExactNamPut': WHATEVER THE INPUT: true; the input reads as it did. -/
def fnExactNamPutSpec : ChangeSpec := { name := "fnExactNamPut", fn := fun _ => fun
  | [d1, d2, d3] => { results := [.lit (.bool true)], args := [d1, d2, d3] }
  | _ => none }
def fnExactNamPutRow : OpenClaim := { program := "ytjdclaglelldeaa", sum := "c129d18d7ca286a8d9fade73f0e956f58ec1d557f5a7c248245f9f9859d138c1", func := "loop.example/harbinger/laws.FnExactNamPut", spec := "fnExactNamPut", apart := false }
def FnExactNamPutSaid : Prop := fnExactNamPutRow.holds Try.pinned (OpenSpec.ofChange fnExactNamPutSpec)

/-- ITS FALSE NEIGHBOUR: 'it returns false'. Refute it at one input. -/
def fnExactNamPutWrong : ChangeSpec := { name := "fnExactNamPut", fn := fun _ => fun
  | [d1, d2, d3] => { results := [.lit (.bool false)], args := [d1, d2, d3] }
  | _ => none }
def FnExactNamPutWrongFalsely : Prop := fnExactNamPutRow.holds Try.pinned (OpenSpec.ofChange fnExactNamPutWrong)

/- THE SECOND FORM. 'bulk': how many values and letters a reading holds, each counted each time it is reached (what is shared counts as often as it is met; a slice's spare places count too). A statement '..UptoSaid' is the law's where the arguments, and the package variables that the reading takes, are together of bulk at most 1048576: NARROWER than '..Said'. Prove '..Said' where nothing that the law and all that it calls make is longer than what came in: it says more and counts as full. Else prove '..UptoSaid'. A law counts once. -/
mutual
def uptoBulk {H : Type} : DataW H → Nat
  | .lit (.string bytes) => bytes.length + 1
  | .lit _ => 1
  | .nil => 1
  | .ptr d => uptoBulk d + 1
  | .slice elems spare => uptoBulkAll elems + uptoBulkAll spare + 1
  | .agg parts => uptoBulkAll parts + 1
  | .iface _ d => uptoBulk d + 1
  | .map entries => uptoBulkEntries entries + 1
  | .held _ => 1
def uptoBulkAll {H : Type} : List (DataW H) → Nat
  | [] => 0
  | d :: r => uptoBulk d + uptoBulkAll r
def uptoBulkEntries {H : Type} : List (Lit × DataW H) → Nat
  | [] => 0
  | x :: r => uptoBulkEntry x + uptoBulkEntries r
def uptoBulkEntry {H : Type} : Lit × DataW H → Nat
  | (.string bytes, d) => bytes.length + uptoBulk d + 1
  | (_, d) => uptoBulk d + 1
 end
def uptoSmall : (H : Type) → List (DataW H) → Bool := fun _ ds => decide (uptoBulkAll ds ≤ 1048576)
def OpenSpec.upto (s : _root_.Go.ChangeSpec) : _root_.Go.OpenSpec := { _root_.Go.OpenSpec.ofChange s with cond := some uptoSmall }

/-- 'laws.FnExactCntOk', WHERE WHAT IT READS IS OF BULK AT MOST 1048576: true; the input reads as it did. -/
def fnExactCntOkUptoRow : OpenClaim := { program := "ytjdclaglelldeaa", sum := "c129d18d7ca286a8d9fade73f0e956f58ec1d557f5a7c248245f9f9859d138c1", func := "loop.example/harbinger/laws.FnExactCntOk", spec := "fnExactCntOk", apart := false, narrowed := true }
def FnExactCntOkUptoSaid : Prop := fnExactCntOkUptoRow.holds Try.pinned (OpenSpec.upto fnExactCntOkSpec)

/-- 'laws.FnCntOk', WHERE WHAT IT READS IS OF BULK AT MOST 1048576: true; the input reads as it did. -/
def fnCntOkUptoRow : OpenClaim := { program := "ytjdclaglelldeaa", sum := "c129d18d7ca286a8d9fade73f0e956f58ec1d557f5a7c248245f9f9859d138c1", func := "loop.example/harbinger/laws.FnCntOk", spec := "fnCntOk", apart := false, narrowed := true }
def FnCntOkUptoSaid : Prop := fnCntOkUptoRow.holds Try.pinned (OpenSpec.upto fnCntOkSpec)

/-- 'laws.FnNamPut', WHERE WHAT IT READS IS OF BULK AT MOST 1048576: true; the input reads as it did. -/
def fnNamPutUptoRow : OpenClaim := { program := "ytjdclaglelldeaa", sum := "c129d18d7ca286a8d9fade73f0e956f58ec1d557f5a7c248245f9f9859d138c1", func := "loop.example/harbinger/laws.FnNamPut", spec := "fnNamPut", apart := false, narrowed := true }
def FnNamPutUptoSaid : Prop := fnNamPutUptoRow.holds Try.pinned (OpenSpec.upto fnNamPutSpec)

/-- 'laws.FnExactNamPut', WHERE WHAT IT READS IS OF BULK AT MOST 1048576: true; the input reads as it did. -/
def fnExactNamPutUptoRow : OpenClaim := { program := "ytjdclaglelldeaa", sum := "c129d18d7ca286a8d9fade73f0e956f58ec1d557f5a7c248245f9f9859d138c1", func := "loop.example/harbinger/laws.FnExactNamPut", spec := "fnExactNamPut", apart := false, narrowed := true }
def FnExactNamPutUptoSaid : Prop := fnExactNamPutUptoRow.holds Try.pinned (OpenSpec.upto fnExactNamPutSpec)

end Rows
end Go.Proofs.Ytjdclaglelldeaa
