/- The tied card of ValueLimits: the law's row, its listed variables tied to the program's text. -/
import Derived.Test.YtejfmghjmhiodaaGreatDoorCards
import Derived.Test.YtejfmghjmhiodaaGreatDoorTie
import Derived.SevenTiedAt
import Derived.Test.YtejfmghjmhiodaaGreatDoorPkLimits3
namespace Go.Proofs.YtejfmghjmhiodaaGreatDoor
open Go
theorem valueLimits_card : Rows.ValueLimitsCardSaid :=
  Claim7.holds_tied_plain_at .later [] [.data, .data, .data, .data, .data, .pinned, .pinned, .pinned, .pinned, .pinned, .pinned, .pinned, .pinned] true (true, "87535410ebe4bc06e03711fc0b4c803332060ad6d8c0b72430f95e6b49e88cfd") false
    valueLimits_holds (fun _ h => by cases h) (by kernel_rfl) (fun _ h => by cases h) valueLimits_row_tie rfl ⟨rfl, rfl⟩ (by kernel_rfl) rfl
    (fun f fn hf hfn => by
      obtain rfl : f = 5 := Option.some.inj ((show Tryz.prog.funcNamed "choir/choirlaw2.ValueLimits" = some 5 by kernel_rfl).symm.trans hf) |>.symm
      obtain rfl : fn = Tryz.f5 := (Option.some.inj (Tryz.func5.symm.trans hfn)).symm
      refine ⟨by kernel_rfl, fun j t ht => ?_⟩
      have hall : (Tryz.f5.params.toList.all fun t => Tryz.prog.wantsStandIn t == false) = true := by kernel_rfl
      have hm : t ∈ Tryz.f5.params.toList := by
        rw [Array.mem_toList_iff]
        exact Array.mem_of_getElem? ht
      exact beq_iff_eq.1 (List.all_eq_true.1 hall t hm))
    (by kernel_rfl)
#print axioms valueLimits_card
end Go.Proofs.YtejfmghjmhiodaaGreatDoor
