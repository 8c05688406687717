import Derived.Deep.QuietTactic
import Derived.BigQuiet
import Derived.StillTailTactics
import Derived.Test.YtejfmghjmhiodaaGreatDoorVzVal3
namespace Go.Proofs.YtejfmghjmhiodaaGreatDoor.Vz
open Go.RowKit Go.Proofs.YtejfmghjmhiodaaGreatDoorW.PrintWords
set_option linter.unusedVariables false
set_option linter.unusedSimpArgs false
attribute [local go_sem] store_float

set_option maxHeartbeats 8000000 in
set_option maxRecDepth 100000 in
/-- Same, of one value twice. -/
theorem same17 : ∀ (v : Val) (W : World) (ok : Nat → Prop) (ca : Array Value), RV W ok v ca → ∀ (ok2 : Nat → Prop) (cb : Array Value), RV W ok2 v cb → Calls Tryz.prog 27 #[.agg ca, .agg cb] W fun e w' => e = .returned (.bool true) ∧ Below W.heap.size W w' := by
  intro v
  induction v using Val.ind with
  | h k i f s l ih =>
    intro W ok ca hR ok2 cb hR2
    obtain ⟨A, c, rfl, wk, wi, wf, ws, wc, wb⟩ := hR.len
    obtain ⟨A2, c2, rfl, _, _, _, _, wc2, _⟩ := hR2.len
    have HI := Aside0.mk ih
    have HR := Aside0.mk hR
    have HR2 := Aside0.mk hR2
    have HWB := Aside0.mk (show (l.length : Int) * 64 ≤ 140737488351232 ∧ l.length ≤ c by omega)
    have hnn : (0 : Int) ≤ (l.length : Int) := by omega
    clear ih hR hR2 wk wi wf ws wc wb wc2
    obtain ⟨n, hn⟩ : ∃ n, l.length = n := ⟨_, rfl⟩
    have HNL := Aside0.mk hn
    rw [hn] at HR HR2 HWB hnn ⊢
    clear hn
    go_enter Tryz.func27, Tryz.ntmps27
    go_upto_region 1 with (first
      | ((with_reducible refine gate_dst (N := 2) rfl ?_); refine box_event ?hg (N := 2) ?hd (cs := #[.int .i64 k, .int .i64 i, .float .f64 f, .string s, .slice A n c]) (t := 25) ?hr ?_; (case hd => rfl); (case hg => rfl); (case hr => first | (go_simp; done) | (go_simp; rfl)); intro ga hg w1 hbox hb; have HB := Aside0.mk hb; have KA := Aside0.mk hbox; clear hg hbox hb)
      | ((with_reducible refine gate_dst (N := 3) rfl ?_); refine box_event ?hg (N := 3) ?hd (cs := #[.int .i64 k, .int .i64 i, .float .f64 f, .string s, .slice A2 n c2]) (t := 25) ?hr ?_; (case hd => rfl); (case hg => rfl); (case hr => first | (go_simp; done) | (go_simp; rfl)); intro gb hg w2 hbox hb; have KA := Aside0.mk (blk_below KA.out hb); have KB := Aside0.mk hbox; have HB := Aside0.mk (below_step HB.out hb); clear hg hbox hb))
    have a0 : w2.cell? ⟨ga, 0, none⟩ = some (.int .i64 k) := blk_cell KA.out 0
    have a1 : w2.cell? ⟨ga, 1, none⟩ = some (.int .i64 i) := blk_cell KA.out 1
    have a2 : w2.cell? ⟨ga, 2, none⟩ = some (.float .f64 f) := blk_cell KA.out 2
    have a3 : w2.cell? ⟨ga, 3, none⟩ = some (.string s) := blk_cell KA.out 3
    have a4 : w2.cell? ⟨ga, 4, none⟩ = some (.slice A n c) := blk_cell KA.out 4
    have b0 : w2.cell? ⟨gb, 0, none⟩ = some (.int .i64 k) := blk_cell KB.out 0
    have b1 : w2.cell? ⟨gb, 1, none⟩ = some (.int .i64 i) := blk_cell KB.out 1
    have b2 : w2.cell? ⟨gb, 2, none⟩ = some (.float .f64 f) := blk_cell KB.out 2
    have b3 : w2.cell? ⟨gb, 3, none⟩ = some (.string s) := blk_cell KB.out 3
    have b4 : w2.cell? ⟨gb, 4, none⟩ = some (.slice A2 n c2) := blk_cell KB.out 4
    go_quiet ((go_at_call 14; exact Calls.quiet_of_same (bits30 _ _)))
    clear a0 a1 a2 a3 a4 b0 b1 b2 b3 b4
    go_wp2
    go_loopw [5] (fun ix wr => ∃ j : Nat, j ≤ n ∧ ix = .int .i64 (j : Int) ∧ Aside0 (Below W.heap.size W wr) ∧ Aside0 (wr.heap[ga]? = some (.cells #[.int .i64 k, .int .i64 i, .float .f64 f, .string s, .slice A n c] 25 (0, 0))) ∧ Aside0 (wr.heap[gb]? = some (.cells #[.int .i64 k, .int .i64 i, .float .f64 f, .string s, .slice A2 n c2] 25 (0, 0)))) (fun ix _ => n - (intOf ix).toNat)
    case atStart => exact ⟨0, by omega, rfl, Aside0.mk (pw_below_drewN HB.out _), Aside0.mk KA.out, Aside0.mk KB.out⟩
    case round =>
      obtain ⟨j, hj, rfl, HB', KA', KB'⟩ := hrel
      have a4 : wr.cell? ⟨ga, 4, none⟩ = some (.slice A n c) := blk_cell KA'.out 4
      have b4 : wr.cell? ⟨gb, 4, none⟩ = some (.slice A2 n c2) := blk_cell KB'.out 4
      by_cases hlt : j < n
      · have hji : (j : Int) < (n : Int) := by omega
        have hj0 : (0 : Int) ≤ (j : Int) := by omega
        have hjl : j < l.length := by rw [HNL.out]; exact hlt
        obtain ⟨g, off, k', i', f', s', A', n', c', rfl, hg1, hg2, hsub, p0, p1, p2, p3, p4⟩ := (HR.out.kept HB'.out).elem j hjl
        obtain ⟨g2, off2, k2, i2, f2, s2, A2', n2, c2', rfl, hg12, hg22, hsub2, r0, r1, r2, r3, r4⟩ := (HR2.out.kept HB'.out).elem j hjl
        have hih := HI.out j hjl
        generalize l[j] = x at hsub hsub2 hih
        have HSub := Aside0.mk hsub
        have HSub2 := Aside0.mk hsub2
        have HIx := Aside0.mk hih
        have hwk : IntKind.i64.wrap ((j : Int) + 1) = ((j + 1 : Nat) : Int) := by have := HWB.out; rw [IntKind.wrap_i64]; omega
        clear hsub hsub2 hih hjl hg1 hg2 hg12 hg22
        go_upto_region 6 with (fail)
        go_still_tail 10, (by kernel_rfl)
        change wpList _ _ _ _ _ wr.drew
        have HS1 := Aside0.mk (HSub.out.kept (Below.refl _ _).drew)
        have HS2 := Aside0.mk (HSub2.out.kept (Below.refl _ _).drew)
        have HB3 := Aside0.mk (HB'.out.drew)
        have KA3 := Aside0.mk (show wr.drew.heap[ga]? = _ from KA'.out)
        have KB3 := Aside0.mk (show wr.drew.heap[gb]? = _ from KB'.out)
        clear p0 p1 p2 p3 p4 r0 r1 r2 r3 r4 a4 b4
        generalize wr.drew = wd at HS1 HS2 HB3 KA3 KB3 ⊢
        go_wp2_with (go_at_call 27; refine (HIx.out _ _ _ HS1.out _ _ HS2.out).mono ?_; rintro e w5 ⟨rfl, hb⟩; have HB5 := Aside0.mk (below_step HB3.out hb); have KA5 := Aside0.mk (blk_below KA3.out hb); have KB5 := Aside0.mk (blk_below KB3.out hb); clear hb)
        go_roundw
        case rel => exact ⟨j + 1, by omega, by go_num, HB5, KA5, KB5⟩
        case measure => simp [intOf]; omega
      · obtain rfl : j = n := by omega
        go_wp2
        go_ret
        exact ⟨rfl, HB'.out⟩
end Go.Proofs.YtejfmghjmhiodaaGreatDoor.Vz
