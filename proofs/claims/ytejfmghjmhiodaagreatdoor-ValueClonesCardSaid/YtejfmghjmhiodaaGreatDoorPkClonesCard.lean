/- The tied card of ValueClones: the law's row, its listed variables tied to the program's text. -/
import Derived.Test.YtejfmghjmhiodaaGreatDoorCards
import Derived.Test.YtejfmghjmhiodaaGreatDoorTie
import Derived.SevenTiedAt
import Derived.Test.YtejfmghjmhiodaaGreatDoorPkClones3
namespace Go.Proofs.YtejfmghjmhiodaaGreatDoor
open Go
theorem valueClones_card : Rows.ValueClonesCardSaid :=
  Claim7.holds_tied_plain_at .later [] [.data, .data, .data, .data, .data, .pinned, .pinned, .pinned, .pinned, .pinned, .pinned, .pinned, .pinned] true (true, "87535410ebe4bc06e03711fc0b4c803332060ad6d8c0b72430f95e6b49e88cfd") false
    valueClones_holds (fun _ h => by cases h) (by kernel_rfl) (fun _ h => by cases h) valueClones_row_tie rfl ⟨rfl, rfl⟩ (by kernel_rfl) rfl
    (fun f fn hf hfn => by
      obtain rfl : f = 8 := Option.some.inj ((show Tryz.prog.funcNamed "choir/choirlaw2.ValueClones" = some 8 by kernel_rfl).symm.trans hf) |>.symm
      obtain rfl : fn = Tryz.f8 := (Option.some.inj (Tryz.func8.symm.trans hfn)).symm
      refine ⟨by kernel_rfl, fun j t ht => ?_⟩
      have hall : (Tryz.f8.params.toList.all fun t => Tryz.prog.wantsStandIn t == false) = true := by kernel_rfl
      have hm : t ∈ Tryz.f8.params.toList := by
        rw [Array.mem_toList_iff]
        exact Array.mem_of_getElem? ht
      exact beq_iff_eq.1 (List.all_eq_true.1 hall t hm))
    (by kernel_rfl)
#print axioms valueClones_card
end Go.Proofs.YtejfmghjmhiodaaGreatDoor
