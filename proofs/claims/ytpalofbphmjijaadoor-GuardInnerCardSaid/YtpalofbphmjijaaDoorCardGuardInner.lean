/- The tied card of GuardInner: the law's row, its listed variables tied to the program's text. -/
import Derived.Test.YtpalofbphmjijaaDoorCards
import Derived.Test.YtpalofbphmjijaaDoorTie
import Derived.Test.YtpalofbphmjijaaDoorLawGuardInner
import Derived.SevenTiedAt
namespace Go.Proofs.YtpalofbphmjijaaDoor
open Go
theorem guardInner_card : Rows.GuardInnerCardSaid :=
  Claim7.holds_tied_plain_at .later [] [.data, .data, .data] true (true, "d4a8f3b8d24b9bf61895645f3ef713253f11fae163d36a64a311ec11bdb0be3a") true
    guardInner_holds (fun _ h => by cases h) (by kernel_rfl) (fun _ h => by cases h) guardInner_row_tie rfl ⟨rfl, rfl⟩ (by kernel_rfl) rfl
    (fun f fn hf hfn => by
      obtain rfl : f = 4 := Option.some.inj ((show Tryd.prog.funcNamed "choir/choirlaw14.GuardInner" = some 4 by kernel_rfl).symm.trans hf) |>.symm
      obtain rfl : fn = Tryd.f4 := (Option.some.inj (Tryd.func4.symm.trans hfn)).symm
      refine ⟨by kernel_rfl, fun j t ht => ?_⟩
      have hall : (Tryd.f4.params.toList.all fun t => Tryd.prog.wantsStandIn t == false) = true := by kernel_rfl
      have hm : t ∈ Tryd.f4.params.toList := by
        rw [Array.mem_toList_iff]
        exact Array.mem_of_getElem? ht
      exact beq_iff_eq.1 (List.all_eq_true.1 hall t hm))
    (by kernel_rfl)
#print axioms guardInner_card
end Go.Proofs.YtpalofbphmjijaaDoor
