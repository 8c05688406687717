import Derived.Shelf.Bits.Mul64
import Derived.Test.YtejfmghjmhiodaaGreatDoorShelf
import Derived.Test.YtejfmghjmhiodaaGreatDoorVzVal1
namespace Go.Proofs.YtejfmghjmhiodaaGreatDoor.Vz
open Go.RowKit Go.Proofs.YtejfmghjmhiodaaGreatDoorW.PrintWords
set_option linter.unusedVariables false
set_option linter.unusedSimpArgs false
attribute [local go_sem] store_float

def lmul_ren : Go.Shelf.Ren := ⟨fun | 264 => 140 | n => n, fun | 53 => 32 | 46 => 99 | n => n, fun | n => n⟩
theorem lmul : Go.Proofs.Lays.n264 Tryz.prog lmul_ren := {
  mixed := by kernel_rfl
  f264 := Tryz.func140.trans (congrArg some (by kernel_rfl))
  t46 := Tryz.underlying99
  a46 := Tryz.isAgg99
  z46 := Tryz.sizeOf99
  v46 := Tryz.zeroValue99
  t53 := Tryz.underlying32
  a53 := Tryz.isAgg32
  z53 := Tryz.sizeOf32
  v53 := Tryz.zeroValue32 }
theorem mul140 (x y : Nat) (hx : x < 18446744073709551616) (hy : y < 18446744073709551616) (w : World) :
    Calls Tryz.prog 140 #[.int .u64 x, .int .u64 y] w fun e w' => e = .returned (.tuple #[.int .u64 ((x * y / 18446744073709551616 : Nat) : Int), .int .u64 ((x * y % 18446744073709551616 : Nat) : Int)]) ∧ w' = w := Any.bits_Mul64 lmul x y hx hy w

set_option maxHeartbeats 8000000 in
set_option maxRecDepth 100000 in
theorem bool141 (b : Bool) (W : World) : Calls Tryz.prog 141 #[.bool b] W fun e w' => e = .returned (.int .u64 (if b then 1 else 0)) ∧ w' = W := by
  cases b
  · go_enter Tryz.func141, Tryz.ntmps141
    go_wp2
    go_ret
    exact ⟨rfl, rfl⟩
  · go_enter Tryz.func141, Tryz.ntmps141
    go_wp2
    go_ret
    exact ⟨rfl, rfl⟩

set_option maxHeartbeats 8000000 in
set_option maxRecDepth 100000 in
theorem nudge123 (u d : Int) (W : World) : Calls Tryz.prog 123 #[.int .u64 u, .int .i64 d] W fun e w' => e = .returned (.int .u64 (IntKind.u64.wrap (u + IntKind.u64.wrap d))) ∧ w' = W := by
  go_enter Tryz.func123, Tryz.ntmps123
  go_wp2
  go_ret
  exact ⟨rfl, rfl⟩

set_option maxHeartbeats 8000000 in
set_option maxRecDepth 100000 in
theorem ceil124 (u : Int) (W : World) : Calls Tryz.prog 124 #[.int .u64 u] W fun e w' => e = .returned (.int .u64 (IntKind.u64.wrap (u + 3) / 4)) ∧ w' = W := by
  go_enter Tryz.func124, Tryz.ntmps124
  go_wp2
  go_ret
  exact ⟨rfl, rfl⟩

set_option maxHeartbeats 8000000 in
set_option maxRecDepth 100000 in
theorem floor125 (u : Int) (W : World) : Calls Tryz.prog 125 #[.int .u64 u] W fun e w' => e = .returned (.int .u64 (IntKind.u64.wrap u / 4)) ∧ w' = W := by
  go_enter Tryz.func125, Tryz.ntmps125
  go_wp2
  go_ret
  exact ⟨rfl, rfl⟩

set_option maxHeartbeats 8000000 in
set_option maxRecDepth 100000 in
theorem skewed119 (x : Int) (W : World) : Calls Tryz.prog 119 #[.int .i64 x] W fun e w' => e = .returned (.int .i64 (wrap64 (wrap64 (x * 631305) - 261663) / 2097152)) ∧ w' = W := by
  go_enter Tryz.func119, Tryz.ntmps119
  go_wp2
  go_ret
  exact ⟨rfl, rfl⟩

set_option maxHeartbeats 8000000 in
set_option maxRecDepth 100000 in
theorem lp121 (x : Int) (W : World) : Calls Tryz.prog 121 #[.int .i64 x] W fun e w' => e = .returned (.int .i64 (wrap64 (x * 108853) / 32768)) ∧ w' = W := by
  go_enter Tryz.func121, Tryz.ntmps121
  go_wp2
  go_ret
  exact ⟨rfl, rfl⟩
end Go.Proofs.YtejfmghjmhiodaaGreatDoor.Vz
