/- The tied card of GuardEach: the law's row, its listed variables tied to the program's text. -/
import Derived.Test.YtpalofbphmjijaaDoorCards
import Derived.Test.YtpalofbphmjijaaDoorTie
import Derived.Test.YtpalofbphmjijaaDoorLawGuardEach
import Derived.SevenTiedAt
namespace Go.Proofs.YtpalofbphmjijaaDoor
open Go
theorem guardEach_card : Rows.GuardEachCardSaid :=
  Claim7.holds_tied_plain_at .later [] [.data, .data, .data] true (true, "d4a8f3b8d24b9bf61895645f3ef713253f11fae163d36a64a311ec11bdb0be3a") true
    guardEach_holds (fun _ h => by cases h) (by kernel_rfl) (fun _ h => by cases h) guardEach_row_tie rfl ⟨rfl, rfl⟩ (by kernel_rfl) rfl
    (fun f fn hf hfn => by
      obtain rfl : f = 6 := Option.some.inj ((show Tryd.prog.funcNamed "choir/choirlaw14.GuardEach" = some 6 by kernel_rfl).symm.trans hf) |>.symm
      obtain rfl : fn = Tryd.f6 := (Option.some.inj (Tryd.func6.symm.trans hfn)).symm
      refine ⟨by kernel_rfl, fun j t ht => ?_⟩
      have hall : (Tryd.f6.params.toList.all fun t => Tryd.prog.wantsStandIn t == false) = true := by kernel_rfl
      have hm : t ∈ Tryd.f6.params.toList := by
        rw [Array.mem_toList_iff]
        exact Array.mem_of_getElem? ht
      exact beq_iff_eq.1 (List.all_eq_true.1 hall t hm))
    (by kernel_rfl)
#print axioms guardEach_card
end Go.Proofs.YtpalofbphmjijaaDoor
