/- The law FnExactCodRead: the tied card. -/
import Derived.Test.YtppocjgjjjojiaaDoorLawExactCodRead
import Derived.SevenTiedAt
namespace Go.Proofs.YtppocjgjjjojiaaDoor
open Go
set_option maxRecDepth 100000
theorem FnExactCodRead_card : Rows.FnExactCodReadCardSaid :=
  Claim7.holds_tied_plain_at .later [] [.data] true (true, "504a04cff2f0bc3526e5907ed8854016ce46c2abc74ef027a57a9cae6a15af08") false
    FnExactCodRead_holds (fun _ h => by cases h) (by kernel_rfl) (fun _ h => by cases h) fnExactCodRead_row_tie rfl ⟨rfl, rfl⟩ (by kernel_rfl) rfl
    (fun f fn hf hfn => by
      obtain rfl : f = 4 := Option.some.inj ((show Tryd.prog.funcNamed "loop.example/harbinger/laws.FnExactCodRead" = some 4 by kernel_rfl).symm.trans hf) |>.symm
      obtain rfl : fn = Tryd.f4 := (Option.some.inj (Tryd.func4.symm.trans hfn)).symm
      exact ⟨by kernel_rfl, fun j t ht => by
        rw [Tryd.params4] at ht
        have h3 : t = 3 := by
          rcases j with _ | j
          · simpa using ht.symm
          · simp at ht
        subst h3
        exact (show Tryd.prog.wantsStandIn 3 = false by kernel_rfl)⟩)
    (by kernel_rfl)
end Go.Proofs.YtppocjgjjjojiaaDoor
