/-
  DERIVED. GIVEN WITH THE SEED: THE PROGRAM's TIES (one call each: nine closed facts by the kernel) AND EACH ROW's TIE, after the 31st guide's Derived/Test/Toyas{Tie, Card}.lean. No idea stands in it: it is a product of the set-up. Laid BY PROGRAM, IN A SANDBOX (cutbox-door.mjs). By AI agents, Wed Nov 11 2026. No macro, syntax, notation, axiom, sorry.
-/
import Derived.Test.YtppocjgjjjojiaaDoorRows
import Derived.LaidByTextLater
import Derived.SevenTiedAt
import Derived.LaidSub
import Derived.LaidOnce
namespace Go.Proofs.YtppocjgjjjojiaaDoor
open Go
set_option maxRecDepth 100000
theorem seatTie1 : Tryd.prog.laidByTextLater [("math/bits.deBruijn32tab", Rows.laid_math_bits_deBruijn32tab), ("math/bits.deBruijn64tab", Rows.laid_math_bits_deBruijn64tab), ("internal/strconv.uint64pow10", Rows.laid_internal_strconv_uint64pow10), ("loop.example/harbinger/impl.lineFormats", Rows.laid_loop_example_harbinger_impl_lineFormats), ("loop.example/harbinger/impl.kindFields", Rows.laid_loop_example_harbinger_impl_kindFields), ("loop.example/harbinger/impl.aluNames", Rows.laid_loop_example_harbinger_impl_aluNames), ("loop.example/harbinger/impl.kindNames", Rows.laid_loop_example_harbinger_impl_kindNames)] [.data, .data, .data, .data, .data, .data, .data] true :=
  Program.laidByTextLater_by_one 70 8 97 (by kernel_rfl) (by kernel_rfl) (by kernel_rfl) (by kernel_rfl) (by kernel_rfl) (by kernel_rfl) (fun _ _ => by kernel_rfl)
theorem noOwnUnsafe : Tryd.pinned.checked.prog.headLifts.contains "ownunsafe" = false := by kernel_rfl
theorem tie : Tryd.prog.laidByTextLater [("loop.example/harbinger/impl.kindFields", Rows.laid_loop_example_harbinger_impl_kindFields)] [.data] true :=
  Program.laidByTextLater.sub seatTie1 ["loop.example/harbinger/impl.kindFields"] (by kernel_rfl) (by kernel_rfl)
theorem fnExactCodWord_row_tie : Rows.fnExactCodWordRow.laidByTextAt .later Tryd.pinned [.data] true :=
  OpenClaim.laidByTextAt_later rfl rfl tie noOwnUnsafe
theorem fnExactCodRead_row_tie : Rows.fnExactCodReadRow.laidByTextAt .later Tryd.pinned [.data] true :=
  OpenClaim.laidByTextAt_later rfl rfl tie noOwnUnsafe
theorem fnCodWord_row_tie : Rows.fnCodWordRow.laidByTextAt .later Tryd.pinned [.data] true :=
  OpenClaim.laidByTextAt_later rfl rfl tie noOwnUnsafe
theorem fnExactItmOk_row_tie : Rows.fnExactItmOkRow.laidByTextAt .later Tryd.pinned [.data] true :=
  OpenClaim.laidByTextAt_later rfl rfl tie noOwnUnsafe
theorem fnExactGueNext_row_tie : Rows.fnExactGueNextRow.laidByTextAt .later Tryd.pinned [.data] true :=
  OpenClaim.laidByTextAt_later rfl rfl tie noOwnUnsafe
theorem fnGueSeen_row_tie : Rows.fnGueSeenRow.laidByTextAt .later Tryd.pinned [.data] true :=
  OpenClaim.laidByTextAt_later rfl rfl tie noOwnUnsafe
theorem fnExactGueSeen_row_tie : Rows.fnExactGueSeenRow.laidByTextAt .later Tryd.pinned [.data] true :=
  OpenClaim.laidByTextAt_later rfl rfl tie noOwnUnsafe
theorem fnGueNext_row_tie : Rows.fnGueNextRow.laidByTextAt .later Tryd.pinned [.data] true :=
  OpenClaim.laidByTextAt_later rfl rfl tie noOwnUnsafe
theorem fnGueLearn_row_tie : Rows.fnGueLearnRow.laidByTextAt .later Tryd.pinned [.data] true :=
  OpenClaim.laidByTextAt_later rfl rfl tie noOwnUnsafe
theorem tie2 : Tryd.prog.laidByTextLater [("math/bits.deBruijn32tab", Rows.laid_math_bits_deBruijn32tab), ("math/bits.deBruijn64tab", Rows.laid_math_bits_deBruijn64tab), ("internal/strconv.uint64pow10", Rows.laid_internal_strconv_uint64pow10), ("loop.example/harbinger/impl.kindFields", Rows.laid_loop_example_harbinger_impl_kindFields), ("loop.example/harbinger/impl.aluNames", Rows.laid_loop_example_harbinger_impl_aluNames), ("loop.example/harbinger/impl.kindNames", Rows.laid_loop_example_harbinger_impl_kindNames)] [.data, .data, .data, .data, .data, .data] true :=
  Program.laidByTextLater.sub seatTie1 ["math/bits.deBruijn32tab", "math/bits.deBruijn64tab", "internal/strconv.uint64pow10", "loop.example/harbinger/impl.kindFields", "loop.example/harbinger/impl.aluNames", "loop.example/harbinger/impl.kindNames"] (by kernel_rfl) (by kernel_rfl)
theorem fnCodApart_row_tie : Rows.fnCodApartRow.laidByTextAt .later Tryd.pinned [.data, .data, .data, .data, .data, .data] true :=
  OpenClaim.laidByTextAt_later rfl rfl tie2 noOwnUnsafe
theorem fnExactTxtWrite_row_tie : Rows.fnExactTxtWriteRow.laidByTextAt .later Tryd.pinned [.data, .data, .data, .data, .data, .data] true :=
  OpenClaim.laidByTextAt_later rfl rfl tie2 noOwnUnsafe
theorem tie3 : Tryd.prog.laidByTextLater [("math/bits.deBruijn32tab", Rows.laid_math_bits_deBruijn32tab), ("math/bits.deBruijn64tab", Rows.laid_math_bits_deBruijn64tab), ("internal/strconv.uint64pow10", Rows.laid_internal_strconv_uint64pow10), ("loop.example/harbinger/impl.lineFormats", Rows.laid_loop_example_harbinger_impl_lineFormats), ("loop.example/harbinger/impl.kindFields", Rows.laid_loop_example_harbinger_impl_kindFields), ("loop.example/harbinger/impl.aluNames", Rows.laid_loop_example_harbinger_impl_aluNames), ("loop.example/harbinger/impl.kindNames", Rows.laid_loop_example_harbinger_impl_kindNames)] [.data, .data, .data, .data, .data, .data, .data] true :=
  Program.laidByTextLater.sub seatTie1 ["math/bits.deBruijn32tab", "math/bits.deBruijn64tab", "internal/strconv.uint64pow10", "loop.example/harbinger/impl.lineFormats", "loop.example/harbinger/impl.kindFields", "loop.example/harbinger/impl.aluNames", "loop.example/harbinger/impl.kindNames"] (by kernel_rfl) (by kernel_rfl)
theorem fnExactEvtText_row_tie : Rows.fnExactEvtTextRow.laidByTextAt .later Tryd.pinned [.data, .data, .data, .data, .data, .data, .data] true :=
  OpenClaim.laidByTextAt_later rfl rfl tie3 noOwnUnsafe
theorem fnExactCodWordUpto_row_tie : Rows.fnExactCodWordUptoRow.laidByTextAt .later Tryd.pinned [.data] true :=
  OpenClaim.laidByTextAt_later rfl rfl tie noOwnUnsafe
theorem fnExactCodReadUpto_row_tie : Rows.fnExactCodReadUptoRow.laidByTextAt .later Tryd.pinned [.data] true :=
  OpenClaim.laidByTextAt_later rfl rfl tie noOwnUnsafe
theorem fnCodWordUpto_row_tie : Rows.fnCodWordUptoRow.laidByTextAt .later Tryd.pinned [.data] true :=
  OpenClaim.laidByTextAt_later rfl rfl tie noOwnUnsafe
theorem fnExactItmOkUpto_row_tie : Rows.fnExactItmOkUptoRow.laidByTextAt .later Tryd.pinned [.data] true :=
  OpenClaim.laidByTextAt_later rfl rfl tie noOwnUnsafe
theorem fnExactGueNextUpto_row_tie : Rows.fnExactGueNextUptoRow.laidByTextAt .later Tryd.pinned [.data] true :=
  OpenClaim.laidByTextAt_later rfl rfl tie noOwnUnsafe
theorem fnGueSeenUpto_row_tie : Rows.fnGueSeenUptoRow.laidByTextAt .later Tryd.pinned [.data] true :=
  OpenClaim.laidByTextAt_later rfl rfl tie noOwnUnsafe
theorem fnExactGueSeenUpto_row_tie : Rows.fnExactGueSeenUptoRow.laidByTextAt .later Tryd.pinned [.data] true :=
  OpenClaim.laidByTextAt_later rfl rfl tie noOwnUnsafe
theorem fnGueNextUpto_row_tie : Rows.fnGueNextUptoRow.laidByTextAt .later Tryd.pinned [.data] true :=
  OpenClaim.laidByTextAt_later rfl rfl tie noOwnUnsafe
theorem fnGueLearnUpto_row_tie : Rows.fnGueLearnUptoRow.laidByTextAt .later Tryd.pinned [.data] true :=
  OpenClaim.laidByTextAt_later rfl rfl tie noOwnUnsafe
theorem fnCodApartUpto_row_tie : Rows.fnCodApartUptoRow.laidByTextAt .later Tryd.pinned [.data, .data, .data, .data, .data, .data] true :=
  OpenClaim.laidByTextAt_later rfl rfl tie2 noOwnUnsafe
theorem fnExactEvtTextUpto_row_tie : Rows.fnExactEvtTextUptoRow.laidByTextAt .later Tryd.pinned [.data, .data, .data, .data, .data, .data, .data] true :=
  OpenClaim.laidByTextAt_later rfl rfl tie3 noOwnUnsafe
theorem fnExactTxtWriteUpto_row_tie : Rows.fnExactTxtWriteUptoRow.laidByTextAt .later Tryd.pinned [.data, .data, .data, .data, .data, .data] true :=
  OpenClaim.laidByTextAt_later rfl rfl tie2 noOwnUnsafe
end Go.Proofs.YtppocjgjjjojiaaDoor
