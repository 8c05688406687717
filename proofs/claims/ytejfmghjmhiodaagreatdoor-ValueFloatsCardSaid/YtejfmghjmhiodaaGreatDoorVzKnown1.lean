import Derived.Test.YtejfmghjmhiodaaGreatDoorVzEq2
import Derived.Test.YtejfmghjmhiodaaGreatDoorVzChk3
import Derived.Test.YtejfmghjmhiodaaGreatDoorVzTxt2
namespace Go.Proofs.YtejfmghjmhiodaaGreatDoor.Vz
open Go.RowKit Go.Proofs.YtejfmghjmhiodaaGreatDoorW.PrintWords
set_option linter.unusedVariables false
set_option linter.unusedSimpArgs false
attribute [local go_sem] store_float

set_option maxHeartbeats 8000000 in
set_option maxRecDepth 100000 in
theorem list16 (A : Option Addr) (n c : Nat) (W : World) : Calls Tryz.prog 16 #[.slice A n c] W fun e w' => e = .returned (.agg #[.int .i64 4, .int .i64 0, .float .f64 0, .string ⟨#[]⟩, .slice A n c]) ∧ Below W.heap.size W w' := by
  go_enter Tryz.func16, Tryz.ntmps16
  go_wp2_with (first
    | ((with_reducible refine gate_dst (N := 2) rfl ?_); refine box_event ?hg (N := 2) ?hd (cs := #[.int .i64 0, .int .i64 0, .float .f64 0, .string ⟨#[]⟩, .slice none 0 0]) (t := 25) ?hr ?_; (case hd => rfl); (case hg => rfl); (case hr => first | (go_simp; done) | (go_simp; rfl)); intro g hg w1 hbox hb; have HB := Aside0.mk hb; have HG := Aside0.mk (show W.heap.size ≤ g by omega); have K := Aside0.mk hbox; clear hg hbox hb)
    | ((with_reducible refine gate_store (t := 25) (p := 2) rfl ?_); refine put_eventU ?hg (t := 25) (p := 2) (v := .tmp 4) ?ho ?hN (g := g) (u := .agg #[.int .i64 4, .int .i64 0, .float .f64 0, .string ⟨#[]⟩, .slice A n c]) (cs := #[.int .i64 4, .int .i64 0, .float .f64 0, .string ⟨#[]⟩, .slice A n c]) ?hp ?hv K.out ?hs ?hi ?h1 ?hc ?_; (case hs => rfl); (case hi => kernel_rfl); (case h1 => simp [Value.oneCell']); (case hc => simp [Value.cells]); (case hg => rfl); (case ho => rfl); (case hN => rfl); (case hp => rfl); (case hv => rfl); intro w3 hk hs; have HB := Aside0.mk (below_keep HB.out HG.out hs); have K := Aside0.mk hk; clear hk hs))
  have q0 := blk_cell K.out 0
  have q1 := blk_cell K.out 1
  have q2 := blk_cell K.out 2
  have q3 := blk_cell K.out 3
  have q4 := blk_cell K.out 4
  simp at q0 q1 q2 q3 q4
  refine bodyPost_ret (v := .agg #[.int .i64 4, .int .i64 0, .float .f64 0, .string ⟨#[]⟩, .slice A n c]) ?_ rfl ⟨rfl, HB.out⟩
  simp [results, Tryz.results16, go_sem, q0, q1, q2, q3, q4]

theorem mk_zero (W : World) : Calls Tryz.prog 12 #[.float .f64 0] W fun e w' => e = .returned (.agg #[.int .i64 2, .int .i64 0, .float .f64 0, .string ⟨#[]⟩, .slice none 0 0]) ∧ Below W.heap.size W w' := by
  have h := float31 0 W
  rwa [show canon 0 = 0 by decide +kernel] at h

theorem mk_half (W : World) : Calls Tryz.prog 12 #[.float .f64 4602678819172646912] W fun e w' => e = .returned (.agg #[.int .i64 2, .int .i64 0, .float .f64 4602678819172646912, .string ⟨#[]⟩, .slice none 0 0]) ∧ Below W.heap.size W w' := by
  have h := float31 4602678819172646912 W
  rwa [show canon 4602678819172646912 = 4602678819172646912 by decide +kernel] at h

theorem mk_two (W : World) : Calls Tryz.prog 12 #[.float .f64 4611686018427387904] W fun e w' => e = .returned (.agg #[.int .i64 2, .int .i64 0, .float .f64 4611686018427387904, .string ⟨#[]⟩, .slice none 0 0]) ∧ Below W.heap.size W w' := by
  have h := float31 4611686018427387904 W
  rwa [show canon 4611686018427387904 = 4611686018427387904 by decide +kernel] at h

theorem mk_one (W : World) : Calls Tryz.prog 12 #[.float .f64 4607182418800017408] W fun e w' => e = .returned (.agg #[.int .i64 2, .int .i64 0, .float .f64 4607182418800017408, .string ⟨#[]⟩, .slice none 0 0]) ∧ Below W.heap.size W w' := by
  have h := float31 4607182418800017408 W
  rwa [show canon 4607182418800017408 = 4607182418800017408 by decide +kernel] at h

theorem canon_zero (W : World) : Calls Tryz.prog 28 #[.float .f64 0] W fun e w' => e = .returned (.float .f64 0) ∧ w' = W := by
  have h := canon38 0 W
  rwa [show canon 0 = 0 by decide +kernel] at h
def vInt1 : Val := .mk 1 1 0 ⟨#[]⟩ []
def vHalf : Val := .mk 2 0 4602678819172646912 ⟨#[]⟩ []
def vA : Val := .mk 3 0 0 ⟨#[97]⟩ []
def vL : Val := .mk 4 0 0 ⟨#[]⟩ [vInt1, vHalf, vA]
theorem vL_text : TxtC vL ⟨#[91, 49, 44, 32, 48, 46, 53, 44, 32, 34, 97, 34, 93]⟩ := by
  have h := txt_list 0 0 ⟨#[]⟩ [vInt1, vHalf, vA] [⟨#[49]⟩, ⟨#[48, 46, 53]⟩, ⟨#[34, 97, 34]⟩] rfl (by decide) (by decide) (fun j hj => by
    match j, hj with
    | 0, _ => exact txt_int1 _ _ _
    | 1, _ => exact txt_half _ _ _
    | 2, _ => exact txt_a _ _ _) ⟨#[49, 44, 32, 48, 46, 53, 44, 32, 34, 97, 34]⟩ (by decide +kernel) (by decide)
  exact h
theorem vL_equal : equalV vL vL = true := by decide +kernel
theorem vL_check : checkV vL = 0 := by decide +kernel
theorem v9_check : checkV (.mk 9 0 0 ⟨#[]⟩ []) = 31 := by decide +kernel
theorem vL_size : sizeV vL = 24 := by decide +kernel
theorem v_order : order (.mk 2 0 0 ⟨#[]⟩ []) (.mk 2 0 4607182418800017408 ⟨#[]⟩ []) = -1 := by decide +kernel
end Go.Proofs.YtejfmghjmhiodaaGreatDoor.Vz
