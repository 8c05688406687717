import Derived.Test.YtejfmghjmhiodaaGreatDoorVzFl1
namespace Go.Proofs.YtejfmghjmhiodaaGreatDoor.Vz
open Go.RowKit Go.Proofs.YtejfmghjmhiodaaGreatDoorW.PrintWords
set_option linter.unusedVariables false
set_option linter.unusedSimpArgs false
attribute [local go_sem] store_float

def mhi (x y : Nat) : Nat := x * y / 18446744073709551616
def mlo (x y : Nat) : Nat := x * y % 18446744073709551616
theorem mul140' (x y : Nat) (hx : x < 18446744073709551616) (hy : y < 18446744073709551616) (w : World) :
    Calls Tryz.prog 140 #[.int .u64 x, .int .u64 y] w fun e w' => e = .returned (.tuple #[.int .u64 (mhi x y : Int), .int .u64 (mlo x y : Int)]) ∧ w' = w := mul140 x y hx hy w
/-- uscale, in the model's words. -/
def us (x hi lo s : Nat) : Int :=
  if (mhi x hi / 2 ^ s * 2 ^ s) = mhi x hi then
    bits .or .u64 (IntKind.u64.wrap ((mhi x hi : Int) - (if mlo x hi < mhi x lo then 1 else 0)) / 2 ^ s) (if 1 < IntKind.u64.wrap ((mlo x hi : Int) - (mhi x lo : Int)) then 1 else 0)
  else bits .or .u64 ((mhi x hi / 2 ^ s : Nat) : Int) 1

theorem and63 (s : Nat) (hs : s < 64) : bits .and .i64 (s : Int) 63 = s := by
  have : ∀ t : Fin 64, bits .and .i64 ((t : Nat) : Int) 63 = (t : Nat) := by decide +kernel
  exact this ⟨s, hs⟩
theorem back_shift (h s : Nat) (hh : h < 18446744073709551616) : IntKind.u64.wrap ((h : Int) / 2 ^ s * 2 ^ s) = ((h / 2 ^ s * 2 ^ s : Nat) : Int) := by
  have h1 : h / 2 ^ s * 2 ^ s ≤ h := Nat.div_mul_le_self h (2 ^ s)
  rw [IntKind.wrap_u64]
  have e : ((h : Int) / 2 ^ s * 2 ^ s) = ((h / 2 ^ s * 2 ^ s : Nat) : Int) := by push_cast; rfl
  rw [e]
  omega

set_option maxHeartbeats 8000000 in
set_option maxRecDepth 100000 in
theorem us122 (x hi lo s b : Nat) (hx : x < 18446744073709551616) (hhi : hi < 18446744073709551616) (hlo : lo < 18446744073709551616) (hs : s < 64) (W : World)
    (hk : W.heap[b]? = some (.cells #[.int .u64 (hi : Int), .int .u64 (lo : Int), .int .i64 (s : Int)] 130 (0, 0))) :
    Calls Tryz.prog 122 #[.int .u64 (x : Int), .pointer (some ⟨b, 0, none⟩)] W fun e w' => e = .returned (.int .u64 (us x hi lo s)) ∧ Below W.heap.size W w' := by
  have q0 : W.cell? ⟨b, 0, none⟩ = some (.int .u64 hi) := blk_cell hk 0
  have q1 : W.cell? ⟨b, 1, none⟩ = some (.int .u64 lo) := blk_cell hk 1
  have q2 : W.cell? ⟨b, 2, none⟩ = some (.int .i64 s) := blk_cell hk 2
  have hh : mhi x hi < 18446744073709551616 := by
    unfold mhi
    have := Nat.mul_lt_mul'' hx hhi
    omega
  have hb := back_shift (mhi x hi) s hh
  have ha := and63 s hs
  have h0 : (0:Int) ≤ s := by omega
  have h1 : (s:Int) ≤ 64 := by omega
  have c1 := mul140' x hi hx hhi
  have c2 := mul140' x lo hx hlo
  unfold us
  generalize mhi x hi = H at *
  generalize mlo x hi = L at *
  generalize mhi x lo = M at *
  generalize mlo x lo = L2 at *
  by_cases e : H / 2 ^ s * 2 ^ s = H
  · have e' : ((H / 2 ^ s * 2 ^ s : Nat) : Int) = (H : Int) := by rw [e]
    rw [if_pos e]
    clear e hh
    rw [e'] at hb
    clear e'
    go_enter Tryz.func122, Tryz.ntmps122
    go_upto_region 7 with (first
      | (go_at_call 140; with_reducible refine (c1 _).mono ?_; rintro e w1 ⟨rfl, rfl⟩)
      | (go_at_call 140; with_reducible refine (c2 _).mono ?_; rintro e w1 ⟨rfl, rfl⟩)
      | (go_at_call 141; refine (bool141 _ _).mono ?_; rintro e w1 ⟨rfl, rfl⟩))
    go_quiet ((go_at_call 141; exact Calls.quiet_of_same (bool141 _ _)))
    go_wp2
    all_goals go_ret
    all_goals exact ⟨rfl, pw_below_drewN (Below.refl _ _) _⟩
  · have e' : ((H / 2 ^ s * 2 ^ s : Nat) : Int) ≠ (H : Int) := by omega
    rw [if_neg e]
    rw [← hb] at e'
    clear e hh hb
    go_enter Tryz.func122, Tryz.ntmps122
    go_wp2_with (first
      | (go_at_call 140; with_reducible refine (c1 _).mono ?_; rintro e w1 ⟨rfl, rfl⟩)
      | (go_at_call 140; with_reducible refine (c2 _).mono ?_; rintro e w1 ⟨rfl, rfl⟩)
      | (go_at_call 141; refine (bool141 _ _).mono ?_; rintro e w1 ⟨rfl, rfl⟩))
    go_ret
    exact ⟨by simp, Below.refl _ _⟩
end Go.Proofs.YtejfmghjmhiodaaGreatDoor.Vz
