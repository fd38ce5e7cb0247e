/- The law FnCodWord: the tied card. -/
import Derived.Test.YtppocjgjjjojiaaDoorLawCodWord
import Derived.SevenTiedAt
namespace Go.Proofs.YtppocjgjjjojiaaDoor
open Go
set_option maxRecDepth 100000
theorem FnCodWord_card : Rows.FnCodWordCardSaid :=
  Claim7.holds_tied_plain_at .later [] [.data] true (true, "504a04cff2f0bc3526e5907ed8854016ce46c2abc74ef027a57a9cae6a15af08") false
    FnCodWord_holds (fun _ h => by cases h) (by kernel_rfl) (fun _ h => by cases h) fnCodWord_row_tie rfl ⟨rfl, rfl⟩ (by kernel_rfl) rfl
    (fun f fn hf hfn => by
      obtain rfl : f = 5 := Option.some.inj ((show Tryd.prog.funcNamed "loop.example/harbinger/laws.FnCodWord" = some 5 by kernel_rfl).symm.trans hf) |>.symm
      obtain rfl : fn = Tryd.f5 := (Option.some.inj (Tryd.func5.symm.trans hfn)).symm
      exact ⟨by kernel_rfl, fun j t ht => by
        rw [Tryd.params5] at ht
        have h3 : t = 32 := by
          rcases j with _ | _ | j
          · simpa using ht.symm
          · simpa using ht.symm
          · simp at ht
        subst h3
        exact (show Tryd.prog.wantsStandIn 32 = false by kernel_rfl)⟩)
    (by kernel_rfl)
end Go.Proofs.YtppocjgjjjojiaaDoor
