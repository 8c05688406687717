import Derived.Test.YtejfmghjmhiodaaGreatDoorVzFl8
import Derived.Test.YtejfmghjmhiodaaGreatDoorVzVal2
import Derived.BigQuiet
namespace Go.Proofs.YtejfmghjmhiodaaGreatDoor.Vz
open Go.RowKit Go.Proofs.YtejfmghjmhiodaaGreatDoorW.PrintWords
set_option linter.unusedVariables false
set_option linter.unusedSimpArgs false
attribute [local go_sem] store_float

set_option maxHeartbeats 8000000 in
set_option maxRecDepth 100000 in
theorem isNaN36 (f : Nat) (W : World) : Calls Tryz.prog 36 #[.float .f64 f] W fun e w' => e = .returned (.bool (isNan f)) ∧ w' = W := by
  unfold isNan
  go_enter Tryz.func36, Tryz.ntmps36
  go_wp2
  go_ret
  exact ⟨rfl, rfl⟩

theorem cal51_half (W : World) : (callFunc 51 #[.int .u64 4602678819172646912]).run Tryz.prog W = .ok (.value (.float .f64 4602678819172646912)) W := by kernel_rfl
set_option maxHeartbeats 8000000 in
set_option maxRecDepth 100000 in
theorem abs_half (W : World) : Calls Tryz.prog 76 #[.float .f64 4602678819172646912] W fun e w' => e = .returned (.float .f64 4602678819172646912) ∧ w' = W := by
  have c1 := call37 4602678819172646912
  have c2 := cal51_half
  have f1 : bits .andNot .u64 4602678819172646912 9223372036854775808 = 4602678819172646912 := by decide +kernel
  go_enter Tryz.func76, Tryz.ntmps76
  go_wp2
  go_ret
  exact ⟨rfl, rfl⟩
set_option maxHeartbeats 8000000 in
set_option maxRecDepth 100000 in
theorem inf_half (W : World) : Calls Tryz.prog 61 #[.float .f64 4602678819172646912, .int .i64 0] W fun e w' => e = .returned (.bool false) ∧ w' = W := by
  have f1 : (FloatKind.f64.format.order 4602678819172646912 9218868437227405311 == some Ordering.gt) = false := by decide +kernel
  go_enter Tryz.func61, Tryz.ntmps61
  go_wp2_with (go_at_call 76; refine (abs_half _).mono ?_; rintro e w1 ⟨rfl, hw⟩; rw [hw]; clear hw w1)
  go_ret
  exact ⟨rfl, rfl⟩
set_option maxHeartbeats 8000000 in
set_option maxRecDepth 100000 in
theorem float_half (W : World) (T : Tabs W) : Calls Tryz.prog 45 #[.float .f64 4602678819172646912] W fun e w' => e = .returned (.string ⟨#[48, 46, 53]⟩) ∧ Below W.heap.size W w' := by
  have c1 : Calls Tryz.prog 48 #[.float .f64 4602678819172646912, .int .u8 103, .int .i64 (-1), .int .i64 64] W (fun e w' => e = .returned (.string ⟨#[48, 46, 53]⟩) ∧ Below W.heap.size W w') := by
    have h := ff48_half W T
    rwa [show strOfNums [48, 46, 53] = ⟨#[48, 46, 53]⟩ by decide +kernel] at h
  have c2 : ∀ w, Calls Tryz.prog 36 #[.float .f64 4602678819172646912] w (fun e w' => e = .returned (.bool false) ∧ w' = w) := fun w => by
    have h := isNaN36 4602678819172646912 w
    rwa [show isNan 4602678819172646912 = false by decide +kernel] at h
  have c3 : ∀ w, Calls Tryz.prog 62 #[.string ⟨#[48, 46, 53]⟩, .string ⟨#[46]⟩] w (fun e w' => e = .returned (.bool true) ∧ w' = w) := fun w => by
    have h := Tryz.strings_Contains_one ⟨#[48, 46, 53]⟩ 46 w
    rwa [show decide (0 ≤ Lib.indexByte (ByteArray.mk #[48, 46, 53]).data.toList 46) = true by decide +kernel] at h
  have c4 : ∀ w, Calls Tryz.prog 62 #[.string ⟨#[48, 46, 53]⟩, .string ⟨#[101]⟩] w (fun e w' => e = .returned (.bool false) ∧ w' = w) := fun w => by
    have h := Tryz.strings_Contains_one ⟨#[48, 46, 53]⟩ 101 w
    rwa [show decide (0 ≤ Lib.indexByte (ByteArray.mk #[48, 46, 53]).data.toList 101) = false by decide +kernel] at h
  clear T
  go_enter Tryz.func45, Tryz.ntmps45
  go_wp2_with (first
    | (go_at_call 48; refine c1.mono ?_; rintro e w2 ⟨rfl, hb⟩; have HB := Aside0.mk hb; clear hb)
    | (go_at_call 61; refine (inf_half _).mono ?_; rintro e w1 ⟨rfl, hw⟩; rw [hw]; clear hw w1)
    | (go_at_call 36; refine (c2 _).mono ?_; rintro e w1 ⟨rfl, hw⟩; rw [hw]; clear hw w1)
    | (go_at_call 62; with_reducible refine (c3 _).mono ?_; rintro e w1 ⟨rfl, hw⟩; rw [hw]; clear hw w1)
    | (go_at_call 62; with_reducible refine (c4 _).mono ?_; rintro e w1 ⟨rfl, hw⟩; rw [hw]; clear hw w1))
  go_ret
  exact ⟨rfl, HB.out⟩

theorem cal51_two (W : World) : (callFunc 51 #[.int .u64 4611686018427387904]).run Tryz.prog W = .ok (.value (.float .f64 4611686018427387904)) W := by kernel_rfl
set_option maxHeartbeats 8000000 in
set_option maxRecDepth 100000 in
theorem abs_two (W : World) : Calls Tryz.prog 76 #[.float .f64 4611686018427387904] W fun e w' => e = .returned (.float .f64 4611686018427387904) ∧ w' = W := by
  have c1 := call37 4611686018427387904
  have c2 := cal51_two
  have f1 : bits .andNot .u64 4611686018427387904 9223372036854775808 = 4611686018427387904 := by decide +kernel
  go_enter Tryz.func76, Tryz.ntmps76
  go_wp2
  go_ret
  exact ⟨rfl, rfl⟩
set_option maxHeartbeats 8000000 in
set_option maxRecDepth 100000 in
theorem inf_two (W : World) : Calls Tryz.prog 61 #[.float .f64 4611686018427387904, .int .i64 0] W fun e w' => e = .returned (.bool false) ∧ w' = W := by
  have f1 : (FloatKind.f64.format.order 4611686018427387904 9218868437227405311 == some Ordering.gt) = false := by decide +kernel
  go_enter Tryz.func61, Tryz.ntmps61
  go_wp2_with (go_at_call 76; refine (abs_two _).mono ?_; rintro e w1 ⟨rfl, hw⟩; rw [hw]; clear hw w1)
  go_ret
  exact ⟨rfl, rfl⟩
set_option maxHeartbeats 8000000 in
set_option maxRecDepth 100000 in
theorem float_two (W : World) (T : Tabs W) : Calls Tryz.prog 45 #[.float .f64 4611686018427387904] W fun e w' => e = .returned (.string ⟨#[50, 46, 48]⟩) ∧ Below W.heap.size W w' := by
  have c1 : Calls Tryz.prog 48 #[.float .f64 4611686018427387904, .int .u8 103, .int .i64 (-1), .int .i64 64] W (fun e w' => e = .returned (.string ⟨#[50]⟩) ∧ Below W.heap.size W w') := by
    have h := ff48_two W T
    rwa [show strOfNums [50] = ⟨#[50]⟩ by decide +kernel] at h
  have c2 : ∀ w, Calls Tryz.prog 36 #[.float .f64 4611686018427387904] w (fun e w' => e = .returned (.bool false) ∧ w' = w) := fun w => by
    have h := isNaN36 4611686018427387904 w
    rwa [show isNan 4611686018427387904 = false by decide +kernel] at h
  have c3 : ∀ w, Calls Tryz.prog 62 #[.string ⟨#[50]⟩, .string ⟨#[46]⟩] w (fun e w' => e = .returned (.bool false) ∧ w' = w) := fun w => by
    have h := Tryz.strings_Contains_one ⟨#[50]⟩ 46 w
    rwa [show decide (0 ≤ Lib.indexByte (ByteArray.mk #[50]).data.toList 46) = false by decide +kernel] at h
  have c4 : ∀ w, Calls Tryz.prog 62 #[.string ⟨#[50]⟩, .string ⟨#[101]⟩] w (fun e w' => e = .returned (.bool false) ∧ w' = w) := fun w => by
    have h := Tryz.strings_Contains_one ⟨#[50]⟩ 101 w
    rwa [show decide (0 ≤ Lib.indexByte (ByteArray.mk #[50]).data.toList 101) = false by decide +kernel] at h
  clear T
  go_enter Tryz.func45, Tryz.ntmps45
  go_wp2_with (first
    | (go_at_call 48; refine c1.mono ?_; rintro e w2 ⟨rfl, hb⟩; have HB := Aside0.mk hb; clear hb)
    | (go_at_call 61; refine (inf_two _).mono ?_; rintro e w1 ⟨rfl, hw⟩; rw [hw]; clear hw w1)
    | (go_at_call 36; refine (c2 _).mono ?_; rintro e w1 ⟨rfl, hw⟩; rw [hw]; clear hw w1)
    | (go_at_call 62; with_reducible refine (c3 _).mono ?_; rintro e w1 ⟨rfl, hw⟩; rw [hw]; clear hw w1)
    | (go_at_call 62; with_reducible refine (c4 _).mono ?_; rintro e w1 ⟨rfl, hw⟩; rw [hw]; clear hw w1))
  go_ret
  exact ⟨rfl, HB.out⟩
end Go.Proofs.YtejfmghjmhiodaaGreatDoor.Vz
