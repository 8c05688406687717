/- The tied card of ValueFloats: the law's row, its listed variables tied to the program's text. -/
import Derived.Test.YtejfmghjmhiodaaGreatDoorCards
import Derived.Test.YtejfmghjmhiodaaGreatDoorTie
import Derived.Test.YtejfmghjmhiodaaGreatDoorLawValueFloats
import Derived.SevenTiedAt
namespace Go.Proofs.YtejfmghjmhiodaaGreatDoor
open Go
theorem valueFloats_card : Rows.ValueFloatsCardSaid :=
  Claim7.holds_tied_plain_at .later [] [.data, .data, .data, .data, .data, .pinned, .pinned, .pinned, .pinned, .pinned, .pinned, .pinned, .pinned] true (true, "87535410ebe4bc06e03711fc0b4c803332060ad6d8c0b72430f95e6b49e88cfd") false
    valueFloats_holds (fun _ h => by cases h) (by kernel_rfl) (fun _ h => by cases h) valueFloats_row_tie rfl ⟨rfl, rfl⟩ (by kernel_rfl) rfl
    (fun f fn hf hfn => by
      obtain rfl : f = 4 := Option.some.inj ((show Tryz.prog.funcNamed "choir/choirlaw2.ValueFloats" = some 4 by kernel_rfl).symm.trans hf) |>.symm
      obtain rfl : fn = Tryz.f4 := (Option.some.inj (Tryz.func4.symm.trans hfn)).symm
      refine ⟨by kernel_rfl, fun j t ht => ?_⟩
      have hall : (Tryz.f4.params.toList.all fun t => Tryz.prog.wantsStandIn t == false) = true := by kernel_rfl
      have hm : t ∈ Tryz.f4.params.toList := by
        rw [Array.mem_toList_iff]
        exact Array.mem_of_getElem? ht
      exact beq_iff_eq.1 (List.all_eq_true.1 hall t hm))
    (by kernel_rfl)
#print axioms valueFloats_card
end Go.Proofs.YtejfmghjmhiodaaGreatDoor
