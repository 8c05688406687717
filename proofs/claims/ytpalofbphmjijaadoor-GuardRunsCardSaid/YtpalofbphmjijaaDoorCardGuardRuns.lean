/- The tied card of GuardRuns: the law's row, its listed variables tied to the program's text. -/
import Derived.Test.YtpalofbphmjijaaDoorCards
import Derived.Test.YtpalofbphmjijaaDoorTie
import Derived.Test.YtpalofbphmjijaaDoorLawGuardRuns
import Derived.SevenTiedAt
namespace Go.Proofs.YtpalofbphmjijaaDoor
open Go
theorem guardRuns_card : Rows.GuardRunsCardSaid :=
  Claim7.holds_tied_plain_at .later [] [.data, .data, .data] true (true, "d4a8f3b8d24b9bf61895645f3ef713253f11fae163d36a64a311ec11bdb0be3a") true
    guardRuns_holds (fun _ h => by cases h) (by kernel_rfl) (fun _ h => by cases h) guardRuns_row_tie rfl ⟨rfl, rfl⟩ (by kernel_rfl) rfl
    (fun f fn hf hfn => by
      obtain rfl : f = 5 := Option.some.inj ((show Tryd.prog.funcNamed "choir/choirlaw14.GuardRuns" = some 5 by kernel_rfl).symm.trans hf) |>.symm
      obtain rfl : fn = Tryd.f5 := (Option.some.inj (Tryd.func5.symm.trans hfn)).symm
      refine ⟨by kernel_rfl, fun j t ht => ?_⟩
      have hall : (Tryd.f5.params.toList.all fun t => Tryd.prog.wantsStandIn t == false) = true := by kernel_rfl
      have hm : t ∈ Tryd.f5.params.toList := by
        rw [Array.mem_toList_iff]
        exact Array.mem_of_getElem? ht
      exact beq_iff_eq.1 (List.all_eq_true.1 hall t hm))
    (by kernel_rfl)
#print axioms guardRuns_card
end Go.Proofs.YtpalofbphmjijaaDoor
