/- The tied card of IdBack: the law's row, its listed variables tied to the program's text. -/
import Derived.Test.YtdohibibmagpaaaDoorCards
import Derived.Test.YtdohibibmagpaaaDoorTie
import Derived.Test.YtdohibibmagpaaaDoorLawIdBack
import Derived.SevenTiedAt
namespace Go.Proofs.YtdohibibmagpaaaDoor
open Go
theorem idBack_card : Rows.IdBackCardSaid :=
  Claim7.holds_tied_plain_at .later [] [.data, .data, .data, .sentinel, .sentinel] true (true, "10b572ae62f379cdf5fb47ba529464bf02c0535c5b9f3924073b4b49782ca558") true
    idBack_holds (fun _ h => by cases h) (by kernel_rfl) (fun _ h => by cases h) idBack_row_tie rfl ⟨rfl, rfl⟩ (by kernel_rfl) rfl
    (fun f fn hf hfn => by
      obtain rfl : f = 3 := Option.some.inj ((show Tryd.prog.funcNamed "choir/choirlaw5.IdBack" = some 3 by kernel_rfl).symm.trans hf) |>.symm
      obtain rfl : fn = Tryd.f3 := (Option.some.inj (Tryd.func3.symm.trans hfn)).symm
      refine ⟨by kernel_rfl, fun j t ht => ?_⟩
      have hall : (Tryd.f3.params.toList.all fun t => Tryd.prog.wantsStandIn t == false) = true := by kernel_rfl
      have hm : t ∈ Tryd.f3.params.toList := by
        rw [Array.mem_toList_iff]
        exact Array.mem_of_getElem? ht
      exact beq_iff_eq.1 (List.all_eq_true.1 hall t hm))
    (by kernel_rfl)
#print axioms idBack_card
end Go.Proofs.YtdohibibmagpaaaDoor
