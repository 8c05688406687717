import Derived.Test.YtejfmghjmhiodaaGreatDoorVzFl7
namespace Go.Proofs.YtejfmghjmhiodaaGreatDoor.Vz
open Go.RowKit Go.Proofs.YtejfmghjmhiodaaGreatDoorW.PrintWords
set_option linter.unusedVariables false
set_option linter.unusedSimpArgs false
attribute [local go_sem] store_float


set_option maxHeartbeats 8000000 in
set_option maxRecDepth 100000 in
theorem ff67_half (W : World) (T : Tabs W) : Calls Tryz.prog 67 #[.float .f64 4602678819172646912, .int .u8 103, .int .i64 (-1), .int .i64 64] W fun e w' => e = .returned (.string (strOfNums [48, 46, 53])) ∧ Below W.heap.size W w' := by
  obtain ⟨i0, hi, hzz⟩ := Option.map_eq_some_iff.1 info5
  simp only [Prod.mk.injEq] at hzz
  obtain ⟨hz0, hz1, hz2⟩ := hzz
  obtain ⟨w1, hrun, hown, hgr⟩ := run_make_own (P := Tryz.prog) (w := W) W.heap.size 36 5 i0 (.int .u8 0) 1 Tryz.underlying36 hi hz0 hz1 .i64 .i64 24 (by rw [hz2]; decide) (by simp [maxLen]) (Nat.le_refl _)
  have hm : (Instr.makeSlice 36 (.int .i64 0) (.int .i64 24)).run Tryz.prog W = .ok (.slice (some ⟨W.heap.size, 0, none⟩) 0 24) w1 := hrun
  have hB : Below W.heap.size W w1 := ⟨hgr.os, hgr.tape, hgr.output, hgr.size, fun k hk => hgr.block k hk (by simp)⟩
  have c1 : Calls Tryz.prog 82 #[.slice (some ⟨W.heap.size, 0, none⟩) 0 24, .float .f64 4602678819172646912, .int .u8 103, .int .i64 (-1)] w1 (fun e w' => ∃ v', e = .returned v' ∧ w'.ownsRow W.heap.size 5 1 v' 3 (nums .u8 [48, 46, 53]) ∧ Below W.heap.size w1 w') :=
    ftoa_half W.heap.size _ w1 (T.below hB) hown hB.size
  have HB := Aside0.mk hB
  have HC := Aside0.mk c1
  clear hrun hown hgr hB c1 hi hz0 hz1 hz2 T
  have m1 : max (3 : Int) 24 = 24 := by decide
  go_enter Tryz.func67, Tryz.ntmps67
  go_wp2_with (go_at_call 82; refine HC.out.mono ?_; rintro e w2 ⟨v', rfl, ho, hb⟩; have hconv : (convert 36 9 v').run Tryz.prog w2 = .ok (.string (strOfNums [48, 46, 53])) w2 := own_string Tryz.underlying36 Tryz.underlying5 Tryz.underlying9 ho; have HB2 := Aside0.mk (HB.out.trans hb); clear ho hb)
  go_ret
  exact ⟨rfl, HB2.out⟩

set_option maxHeartbeats 8000000 in
set_option maxRecDepth 100000 in
theorem ff48_half (W : World) (T : Tabs W) : Calls Tryz.prog 48 #[.float .f64 4602678819172646912, .int .u8 103, .int .i64 (-1), .int .i64 64] W fun e w' => e = .returned (.string (strOfNums [48, 46, 53])) ∧ Below W.heap.size W w' := by
  have c1 := ff67_half W T
  clear T
  go_enter Tryz.func48, Tryz.ntmps48
  go_wp2_with (go_at_call 67; refine c1.mono ?_; rintro e w2 ⟨rfl, hb⟩)
  go_ret
  exact ⟨rfl, hb⟩

set_option maxHeartbeats 8000000 in
set_option maxRecDepth 100000 in
theorem ff67_two (W : World) (T : Tabs W) : Calls Tryz.prog 67 #[.float .f64 4611686018427387904, .int .u8 103, .int .i64 (-1), .int .i64 64] W fun e w' => e = .returned (.string (strOfNums [50])) ∧ Below W.heap.size W w' := by
  obtain ⟨i0, hi, hzz⟩ := Option.map_eq_some_iff.1 info5
  simp only [Prod.mk.injEq] at hzz
  obtain ⟨hz0, hz1, hz2⟩ := hzz
  obtain ⟨w1, hrun, hown, hgr⟩ := run_make_own (P := Tryz.prog) (w := W) W.heap.size 36 5 i0 (.int .u8 0) 1 Tryz.underlying36 hi hz0 hz1 .i64 .i64 24 (by rw [hz2]; decide) (by simp [maxLen]) (Nat.le_refl _)
  have hm : (Instr.makeSlice 36 (.int .i64 0) (.int .i64 24)).run Tryz.prog W = .ok (.slice (some ⟨W.heap.size, 0, none⟩) 0 24) w1 := hrun
  have hB : Below W.heap.size W w1 := ⟨hgr.os, hgr.tape, hgr.output, hgr.size, fun k hk => hgr.block k hk (by simp)⟩
  have c1 : Calls Tryz.prog 82 #[.slice (some ⟨W.heap.size, 0, none⟩) 0 24, .float .f64 4611686018427387904, .int .u8 103, .int .i64 (-1)] w1 (fun e w' => ∃ v', e = .returned v' ∧ w'.ownsRow W.heap.size 5 1 v' 1 (nums .u8 [50]) ∧ Below W.heap.size w1 w') :=
    ftoa_two W.heap.size _ w1 (T.below hB) hown hB.size
  have HB := Aside0.mk hB
  have HC := Aside0.mk c1
  clear hrun hown hgr hB c1 hi hz0 hz1 hz2 T
  have m1 : max (3 : Int) 24 = 24 := by decide
  go_enter Tryz.func67, Tryz.ntmps67
  go_wp2_with (go_at_call 82; refine HC.out.mono ?_; rintro e w2 ⟨v', rfl, ho, hb⟩; have hconv : (convert 36 9 v').run Tryz.prog w2 = .ok (.string (strOfNums [50])) w2 := own_string Tryz.underlying36 Tryz.underlying5 Tryz.underlying9 ho; have HB2 := Aside0.mk (HB.out.trans hb); clear ho hb)
  go_ret
  exact ⟨rfl, HB2.out⟩

set_option maxHeartbeats 8000000 in
set_option maxRecDepth 100000 in
theorem ff48_two (W : World) (T : Tabs W) : Calls Tryz.prog 48 #[.float .f64 4611686018427387904, .int .u8 103, .int .i64 (-1), .int .i64 64] W fun e w' => e = .returned (.string (strOfNums [50])) ∧ Below W.heap.size W w' := by
  have c1 := ff67_two W T
  clear T
  go_enter Tryz.func48, Tryz.ntmps48
  go_wp2_with (go_at_call 67; refine c1.mono ?_; rintro e w2 ⟨rfl, hb⟩)
  go_ret
  exact ⟨rfl, hb⟩
end Go.Proofs.YtejfmghjmhiodaaGreatDoor.Vz
