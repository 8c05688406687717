import Derived.Test.YtejfmghjmhiodaaGreatDoorVzFl3
namespace Go.Proofs.YtejfmghjmhiodaaGreatDoor.Vz
open Go.RowKit Go.Proofs.YtejfmghjmhiodaaGreatDoorW.PrintWords
set_option linter.unusedVariables false
set_option linter.unusedSimpArgs false
attribute [local go_sem] store_float


theorem us_half1 : us 9223372036854775296 12800000000000000000 0 5 = 199999999999999989 := by decide +kernel
theorem us_half2 : us 9223372036854776832 12800000000000000000 0 5 = 200000000000000023 := by decide +kernel
set_option maxHeartbeats 8000000 in
set_option maxRecDepth 100000 in
theorem short_half (W : World) (h0 : W.cell? ⟨13, 730, none⟩ = some (.int .u64 12800000000000000000)) (h1 : W.cell? ⟨13, 731, none⟩ = some (.int .u64 0)) :
    Calls Tryz.prog 104 #[.int .u64 9223372036854775808, .int .i64 (-64)] W fun e w' => e = .returned (.tuple #[.int .u64 5000000000000000, .int .i64 (-16)]) ∧ Below W.heap.size W w' := by
  have c1 : ∀ W, Calls Tryz.prog 119 #[.int .i64 (-53)] W (fun e w' => e = .returned (.int .i64 (-17)) ∧ w' = W) := fun W => by
    have h := skewed119 (-53) W
    rwa [show wrap64 (wrap64 ((-53) * 631305) - 261663) / 2097152 = -17 by decide +kernel] at h
  have c2 : ∀ W, Calls Tryz.prog 121 #[.int .i64 17] W (fun e w' => e = .returned (.int .i64 56) ∧ w' = W) := fun W => by
    have h := lp121 17 W
    rwa [show wrap64 (17 * 108853) / 32768 = 56 by decide +kernel] at h
  have c3 : ∀ b W, b ≠ 13 → W.cell? ⟨13, 730, none⟩ = some (.int .u64 12800000000000000000) → W.cell? ⟨13, 731, none⟩ = some (.int .u64 0) → W.heap[b]? = some (.cells #[.int .u64 0, .int .u64 0, .int .i64 0] 130 (0, 0)) →
      Calls Tryz.prog 120 #[.pointer (some ⟨b, 0, none⟩), .int .i64 (-64), .int .i64 17, .int .i64 56] W (fun e w' => e = .returned (.tuple #[]) ∧ w'.heap[b]? = some (.cells #[.int .u64 12800000000000000000, .int .u64 0, .int .i64 5] 130 (0, 0)) ∧ Save (fun k => k = b) W w') :=
    fun b W hb k0 k1 hk => pre120 b 365 (-64) 17 56 5 12800000000000000000 0 (by decide) (by decide +kernel) (by decide +kernel) W _ _ _ k0 k1 hb hk
  have c4 : ∀ b W, W.heap[b]? = some (.cells #[.int .u64 12800000000000000000, .int .u64 0, .int .i64 5] 130 (0, 0)) → Calls Tryz.prog 122 #[.int .u64 9223372036854775296, .pointer (some ⟨b, 0, none⟩)] W (fun e w' => e = .returned (.int .u64 199999999999999989) ∧ Below W.heap.size W w') :=
    fun b W hk => by
      have h := us122 9223372036854775296 12800000000000000000 0 5 b (by decide) (by decide) (by decide) (by decide) W hk
      rwa [us_half1] at h
  have c5 : ∀ b W, W.heap[b]? = some (.cells #[.int .u64 12800000000000000000, .int .u64 0, .int .i64 5] 130 (0, 0)) → Calls Tryz.prog 122 #[.int .u64 9223372036854776832, .pointer (some ⟨b, 0, none⟩)] W (fun e w' => e = .returned (.int .u64 200000000000000023) ∧ Below W.heap.size W w') :=
    fun b W hk => by
      have h := us122 9223372036854776832 12800000000000000000 0 5 b (by decide) (by decide) (by decide) (by decide) W hk
      rwa [us_half2] at h
  have c6 : ∀ W, Calls Tryz.prog 123 #[.int .u64 199999999999999989, .int .i64 0] W (fun e w' => e = .returned (.int .u64 199999999999999989) ∧ w' = W) := fun W => by
    have h := nudge123 199999999999999989 0 W
    rwa [show IntKind.u64.wrap (199999999999999989 + IntKind.u64.wrap 0) = 199999999999999989 by decide +kernel] at h
  have c7 : ∀ W, Calls Tryz.prog 123 #[.int .u64 200000000000000023, .int .i64 0] W (fun e w' => e = .returned (.int .u64 200000000000000023) ∧ w' = W) := fun W => by
    have h := nudge123 200000000000000023 0 W
    rwa [show IntKind.u64.wrap (200000000000000023 + IntKind.u64.wrap 0) = 200000000000000023 by decide +kernel] at h
  have c8 : ∀ W, Calls Tryz.prog 124 #[.int .u64 199999999999999989] W (fun e w' => e = .returned (.int .u64 49999999999999998) ∧ w' = W) := fun W => by
    have h := ceil124 199999999999999989 W
    rwa [show IntKind.u64.wrap (199999999999999989 + 3) / 4 = 49999999999999998 by decide +kernel] at h
  have c9 : ∀ W, Calls Tryz.prog 125 #[.int .u64 200000000000000023] W (fun e w' => e = .returned (.int .u64 50000000000000005) ∧ w' = W) := fun W => by
    have h := floor125 200000000000000023 W
    rwa [show IntKind.u64.wrap 200000000000000023 / 4 = 50000000000000005 by decide +kernel] at h
  have hand : bits .and .i64 4503599627370496 1 = 0 := by decide +kernel
  have H0 := Aside0.mk h0
  have H1 := Aside0.mk h1
  have C := Aside0.mk (And.intro c3 (And.intro c4 c5))
  clear h0 h1 c3 c4 c5
  go_enter Tryz.func104, Tryz.ntmps104
  go_wp2_with (first
    | (go_at_call 119; with_reducible refine (c1 _).mono ?_; rintro e w1 ⟨rfl, hw⟩; rw [hw]; clear hw w1)
    | (go_at_call 121; with_reducible refine (c2 _).mono ?_; rintro e w1 ⟨rfl, hw⟩; rw [hw]; clear hw w1)
    | ((with_reducible refine gate_dst (N := 12) rfl ?_); refine box_event ?hg (N := 12) ?hd (cs := #[.int .u64 0, .int .u64 0, .int .i64 0]) (t := 130) ?hr ?_; (case hd => rfl); (case hg => rfl); (case hr => first | (go_simp; done) | (go_simp; rfl)); intro g hg w1 hbox hb; have HB := Aside0.mk hb; have HG := Aside0.mk (show W.heap.size ≤ g by omega); have HN := Aside0.mk (show g ≠ 13 from fun x => by subst x; have := cell_in H0.out; omega); have K := Aside0.mk hbox; clear hg hbox hb)
    | (go_at_call 120; with_reducible refine (C.out.1 _ _ HN.out ((HB.out.cell (cell_in H0.out)).trans H0.out) ((HB.out.cell (cell_in H1.out)).trans H1.out) K.out).mono ?_; rintro e w2 ⟨rfl, hk, hs⟩; have K := Aside0.mk hk; have HB := Aside0.mk (below_keep HB.out HG.out hs); clear hk hs)
    | (go_at_call 122; with_reducible refine (C.out.2.1 _ _ K.out).mono ?_; rintro e w3 ⟨rfl, hb⟩; have K := Aside0.mk (blk_below K.out hb); have HB := Aside0.mk (below_step HB.out hb); clear hb)
    | (go_at_call 122; with_reducible refine (C.out.2.2 _ _ K.out).mono ?_; rintro e w4 ⟨rfl, hb⟩; have K := Aside0.mk (blk_below K.out hb); have HB := Aside0.mk (below_step HB.out hb); clear hb)
    | (go_at_call 123; with_reducible refine (c6 _).mono ?_; rintro e w1 ⟨rfl, hw⟩; rw [hw]; clear hw w1)
    | (go_at_call 123; with_reducible refine (c7 _).mono ?_; rintro e w1 ⟨rfl, hw⟩; rw [hw]; clear hw w1)
    | (go_at_call 124; with_reducible refine (c8 _).mono ?_; rintro e w1 ⟨rfl, hw⟩; rw [hw]; clear hw w1)
    | (go_at_call 125; with_reducible refine (c9 _).mono ?_; rintro e w1 ⟨rfl, hw⟩; rw [hw]; clear hw w1))
  go_ret2
  exact ⟨rfl, HB.out⟩

theorem us_two1 : us 9223372036854775296 10240000000000000000 0 6 = 79999999999999995 := by decide +kernel
theorem us_two2 : us 9223372036854776832 10240000000000000000 0 6 = 80000000000000009 := by decide +kernel
set_option maxHeartbeats 8000000 in
set_option maxRecDepth 100000 in
theorem short_two (W : World) (h0 : W.cell? ⟨13, 728, none⟩ = some (.int .u64 10240000000000000000)) (h1 : W.cell? ⟨13, 729, none⟩ = some (.int .u64 0)) :
    Calls Tryz.prog 104 #[.int .u64 9223372036854775808, .int .i64 (-62)] W fun e w' => e = .returned (.tuple #[.int .u64 2000000000000000, .int .i64 (-15)]) ∧ Below W.heap.size W w' := by
  have c1 : ∀ W, Calls Tryz.prog 119 #[.int .i64 (-51)] W (fun e w' => e = .returned (.int .i64 (-16)) ∧ w' = W) := fun W => by
    have h := skewed119 (-51) W
    rwa [show wrap64 (wrap64 ((-51) * 631305) - 261663) / 2097152 = -16 by decide +kernel] at h
  have c2 : ∀ W, Calls Tryz.prog 121 #[.int .i64 16] W (fun e w' => e = .returned (.int .i64 53) ∧ w' = W) := fun W => by
    have h := lp121 16 W
    rwa [show wrap64 (16 * 108853) / 32768 = 53 by decide +kernel] at h
  have c3 : ∀ b W, b ≠ 13 → W.cell? ⟨13, 728, none⟩ = some (.int .u64 10240000000000000000) → W.cell? ⟨13, 729, none⟩ = some (.int .u64 0) → W.heap[b]? = some (.cells #[.int .u64 0, .int .u64 0, .int .i64 0] 130 (0, 0)) →
      Calls Tryz.prog 120 #[.pointer (some ⟨b, 0, none⟩), .int .i64 (-62), .int .i64 16, .int .i64 53] W (fun e w' => e = .returned (.tuple #[]) ∧ w'.heap[b]? = some (.cells #[.int .u64 10240000000000000000, .int .u64 0, .int .i64 6] 130 (0, 0)) ∧ Save (fun k => k = b) W w') :=
    fun b W hb k0 k1 hk => pre120 b 364 (-62) 16 53 6 10240000000000000000 0 (by decide) (by decide +kernel) (by decide +kernel) W _ _ _ k0 k1 hb hk
  have c4 : ∀ b W, W.heap[b]? = some (.cells #[.int .u64 10240000000000000000, .int .u64 0, .int .i64 6] 130 (0, 0)) → Calls Tryz.prog 122 #[.int .u64 9223372036854775296, .pointer (some ⟨b, 0, none⟩)] W (fun e w' => e = .returned (.int .u64 79999999999999995) ∧ Below W.heap.size W w') :=
    fun b W hk => by
      have h := us122 9223372036854775296 10240000000000000000 0 6 b (by decide) (by decide) (by decide) (by decide) W hk
      rwa [us_two1] at h
  have c5 : ∀ b W, W.heap[b]? = some (.cells #[.int .u64 10240000000000000000, .int .u64 0, .int .i64 6] 130 (0, 0)) → Calls Tryz.prog 122 #[.int .u64 9223372036854776832, .pointer (some ⟨b, 0, none⟩)] W (fun e w' => e = .returned (.int .u64 80000000000000009) ∧ Below W.heap.size W w') :=
    fun b W hk => by
      have h := us122 9223372036854776832 10240000000000000000 0 6 b (by decide) (by decide) (by decide) (by decide) W hk
      rwa [us_two2] at h
  have c6 : ∀ W, Calls Tryz.prog 123 #[.int .u64 79999999999999995, .int .i64 0] W (fun e w' => e = .returned (.int .u64 79999999999999995) ∧ w' = W) := fun W => by
    have h := nudge123 79999999999999995 0 W
    rwa [show IntKind.u64.wrap (79999999999999995 + IntKind.u64.wrap 0) = 79999999999999995 by decide +kernel] at h
  have c7 : ∀ W, Calls Tryz.prog 123 #[.int .u64 80000000000000009, .int .i64 0] W (fun e w' => e = .returned (.int .u64 80000000000000009) ∧ w' = W) := fun W => by
    have h := nudge123 80000000000000009 0 W
    rwa [show IntKind.u64.wrap (80000000000000009 + IntKind.u64.wrap 0) = 80000000000000009 by decide +kernel] at h
  have c8 : ∀ W, Calls Tryz.prog 124 #[.int .u64 79999999999999995] W (fun e w' => e = .returned (.int .u64 19999999999999999) ∧ w' = W) := fun W => by
    have h := ceil124 79999999999999995 W
    rwa [show IntKind.u64.wrap (79999999999999995 + 3) / 4 = 19999999999999999 by decide +kernel] at h
  have c9 : ∀ W, Calls Tryz.prog 125 #[.int .u64 80000000000000009] W (fun e w' => e = .returned (.int .u64 20000000000000002) ∧ w' = W) := fun W => by
    have h := floor125 80000000000000009 W
    rwa [show IntKind.u64.wrap 80000000000000009 / 4 = 20000000000000002 by decide +kernel] at h
  have hand : bits .and .i64 4503599627370496 1 = 0 := by decide +kernel
  have H0 := Aside0.mk h0
  have H1 := Aside0.mk h1
  have C := Aside0.mk (And.intro c3 (And.intro c4 c5))
  clear h0 h1 c3 c4 c5
  go_enter Tryz.func104, Tryz.ntmps104
  go_wp2_with (first
    | (go_at_call 119; with_reducible refine (c1 _).mono ?_; rintro e w1 ⟨rfl, hw⟩; rw [hw]; clear hw w1)
    | (go_at_call 121; with_reducible refine (c2 _).mono ?_; rintro e w1 ⟨rfl, hw⟩; rw [hw]; clear hw w1)
    | ((with_reducible refine gate_dst (N := 12) rfl ?_); refine box_event ?hg (N := 12) ?hd (cs := #[.int .u64 0, .int .u64 0, .int .i64 0]) (t := 130) ?hr ?_; (case hd => rfl); (case hg => rfl); (case hr => first | (go_simp; done) | (go_simp; rfl)); intro g hg w1 hbox hb; have HB := Aside0.mk hb; have HG := Aside0.mk (show W.heap.size ≤ g by omega); have HN := Aside0.mk (show g ≠ 13 from fun x => by subst x; have := cell_in H0.out; omega); have K := Aside0.mk hbox; clear hg hbox hb)
    | (go_at_call 120; with_reducible refine (C.out.1 _ _ HN.out ((HB.out.cell (cell_in H0.out)).trans H0.out) ((HB.out.cell (cell_in H1.out)).trans H1.out) K.out).mono ?_; rintro e w2 ⟨rfl, hk, hs⟩; have K := Aside0.mk hk; have HB := Aside0.mk (below_keep HB.out HG.out hs); clear hk hs)
    | (go_at_call 122; with_reducible refine (C.out.2.1 _ _ K.out).mono ?_; rintro e w3 ⟨rfl, hb⟩; have K := Aside0.mk (blk_below K.out hb); have HB := Aside0.mk (below_step HB.out hb); clear hb)
    | (go_at_call 122; with_reducible refine (C.out.2.2 _ _ K.out).mono ?_; rintro e w4 ⟨rfl, hb⟩; have K := Aside0.mk (blk_below K.out hb); have HB := Aside0.mk (below_step HB.out hb); clear hb)
    | (go_at_call 123; with_reducible refine (c6 _).mono ?_; rintro e w1 ⟨rfl, hw⟩; rw [hw]; clear hw w1)
    | (go_at_call 123; with_reducible refine (c7 _).mono ?_; rintro e w1 ⟨rfl, hw⟩; rw [hw]; clear hw w1)
    | (go_at_call 124; with_reducible refine (c8 _).mono ?_; rintro e w1 ⟨rfl, hw⟩; rw [hw]; clear hw w1)
    | (go_at_call 125; with_reducible refine (c9 _).mono ?_; rintro e w1 ⟨rfl, hw⟩; rw [hw]; clear hw w1))
  go_ret2
  exact ⟨rfl, HB.out⟩
end Go.Proofs.YtejfmghjmhiodaaGreatDoor.Vz
