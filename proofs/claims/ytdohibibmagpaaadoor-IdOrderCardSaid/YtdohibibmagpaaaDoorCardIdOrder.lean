/- The tied card of IdOrder: the law's row, its listed variables tied to the program's text. -/
import Derived.Test.YtdohibibmagpaaaDoorCards
import Derived.Test.YtdohibibmagpaaaDoorTie
import Derived.Test.YtdohibibmagpaaaDoorLawIdOrder
import Derived.SevenTiedAt
namespace Go.Proofs.YtdohibibmagpaaaDoor
open Go
theorem idOrder_card : Rows.IdOrderCardSaid :=
  Claim7.holds_tied_plain_at .later [] [.data, .data, .data, .sentinel, .sentinel] true (true, "10b572ae62f379cdf5fb47ba529464bf02c0535c5b9f3924073b4b49782ca558") true
    idOrder_holds (fun _ h => by cases h) (by kernel_rfl) (fun _ h => by cases h) idOrder_row_tie rfl ⟨rfl, rfl⟩ (by kernel_rfl) rfl
    (fun f fn hf hfn => by
      obtain rfl : f = 4 := Option.some.inj ((show Tryd.prog.funcNamed "choir/choirlaw5.IdOrder" = some 4 by kernel_rfl).symm.trans hf) |>.symm
      obtain rfl : fn = Tryd.f4 := (Option.some.inj (Tryd.func4.symm.trans hfn)).symm
      refine ⟨by kernel_rfl, fun j t ht => ?_⟩
      have hall : (Tryd.f4.params.toList.all fun t => Tryd.prog.wantsStandIn t == false) = true := by kernel_rfl
      have hm : t ∈ Tryd.f4.params.toList := by
        rw [Array.mem_toList_iff]
        exact Array.mem_of_getElem? ht
      exact beq_iff_eq.1 (List.all_eq_true.1 hall t hm))
    (by kernel_rfl)
#print axioms idOrder_card
end Go.Proofs.YtdohibibmagpaaaDoor
