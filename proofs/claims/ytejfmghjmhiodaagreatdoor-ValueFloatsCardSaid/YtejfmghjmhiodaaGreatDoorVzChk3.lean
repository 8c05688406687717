import Derived.Test.YtejfmghjmhiodaaGreatDoorVzChk2
namespace Go.Proofs.YtejfmghjmhiodaaGreatDoor.Vz
open Go.RowKit Go.Proofs.YtejfmghjmhiodaaGreatDoorW.PrintWords
set_option linter.unusedVariables false
set_option linter.unusedSimpArgs false
attribute [local go_sem] store_float

def checkV (v : Val) : Int := if strangeV v = true then 31 else if greatV v 8 = true then 22 else if 4096 < sizeV v then 22 else 0

set_option maxHeartbeats 8000000 in
set_option maxRecDepth 100000 in
theorem check17 (v : Val) (W : World) (ok : Nat → Prop) (cs : Array Value) (hR : RV W ok v cs) : Calls Tryz.prog 17 #[.agg cs] W fun e w' => e = .returned (.int .i64 (checkV v)) ∧ Below W.heap.size W w' := by
  obtain ⟨k, i, f, s, A, n, c, rfl⟩ := hR.form
  have HR := Aside0.mk hR
  have H1 := Aside0.mk (strange39 v)
  have H2 := Aside0.mk (great40 v)
  have H3 := Aside0.mk (size18 v)
  clear hR
  unfold checkV
  obtain ⟨b, hb⟩ : ∃ b, strangeV v = b := ⟨_, rfl⟩
  obtain ⟨d, hd⟩ : ∃ d, greatV v 8 = d := ⟨_, rfl⟩
  obtain ⟨z, hz⟩ : ∃ z, sizeV v = z := ⟨_, rfl⟩
  rw [hb, hd, hz]
  have G1 := Aside0.mk hb
  have G2 := Aside0.mk hd
  have G3 := Aside0.mk hz
  clear hb hd hz
  cases b
  · cases d
    · by_cases h : 4096 < z
      · rw [if_neg (by decide), if_neg (by decide), if_pos h]
        go_enter Tryz.func17, Tryz.ntmps17
        go_wp2_with (first
          | ((with_reducible refine gate_dst (N := 1) rfl ?_); refine box_event ?hg (N := 1) ?hd (cs := #[.int .i64 k, .int .i64 i, .float .f64 f, .string s, .slice A n c]) (t := 25) ?hr ?_; (case hd => rfl); (case hg => rfl); (case hr => first | (go_simp; done) | (go_simp; rfl)); intro gb hg w1 hbox hb; have HB := Aside0.mk hb; have HR := Aside0.mk (HR.out.kept hb); have KB := Aside0.mk hbox; have b0 : w1.cell? ⟨gb, 0, none⟩ = some (.int .i64 k) := blk_cell KB.out 0; have b1 : w1.cell? ⟨gb, 1, none⟩ = some (.int .i64 i) := blk_cell KB.out 1; have b2 : w1.cell? ⟨gb, 2, none⟩ = some (.float .f64 f) := blk_cell KB.out 2; have b3 : w1.cell? ⟨gb, 3, none⟩ = some (.string s) := blk_cell KB.out 3; have b4 : w1.cell? ⟨gb, 4, none⟩ = some (.slice A n c) := blk_cell KB.out 4; clear hg hbox hb)
          | (go_at_call 39; refine (H1.out _ _ _ HR.out).mono ?_; rw [G1.out]; rintro e w2 ⟨rfl, hb⟩; have HB := Aside0.mk (below_step HB.out hb); have HR := Aside0.mk (HR.out.kept hb); have KB := Aside0.mk (blk_below KB.out hb); clear b0 b1 b2 b3 b4; have b0 : w2.cell? ⟨gb, 0, none⟩ = some (.int .i64 k) := blk_cell KB.out 0; have b1 : w2.cell? ⟨gb, 1, none⟩ = some (.int .i64 i) := blk_cell KB.out 1; have b2 : w2.cell? ⟨gb, 2, none⟩ = some (.float .f64 f) := blk_cell KB.out 2; have b3 : w2.cell? ⟨gb, 3, none⟩ = some (.string s) := blk_cell KB.out 3; have b4 : w2.cell? ⟨gb, 4, none⟩ = some (.slice A n c) := blk_cell KB.out 4; clear hb)
          | (go_at_call 40; refine (H2.out _ _ _ HR.out 8).mono ?_; rw [G2.out]; rintro e w3 ⟨rfl, hb⟩; have HB := Aside0.mk (below_step HB.out hb); have HR := Aside0.mk (HR.out.kept hb); have KB := Aside0.mk (blk_below KB.out hb); clear b0 b1 b2 b3 b4; have b0 : w3.cell? ⟨gb, 0, none⟩ = some (.int .i64 k) := blk_cell KB.out 0; have b1 : w3.cell? ⟨gb, 1, none⟩ = some (.int .i64 i) := blk_cell KB.out 1; have b2 : w3.cell? ⟨gb, 2, none⟩ = some (.float .f64 f) := blk_cell KB.out 2; have b3 : w3.cell? ⟨gb, 3, none⟩ = some (.string s) := blk_cell KB.out 3; have b4 : w3.cell? ⟨gb, 4, none⟩ = some (.slice A n c) := blk_cell KB.out 4; clear hb)
          | (go_at_call 18; refine (H3.out _ _ _ HR.out).mono ?_; rw [G3.out]; rintro e w4 ⟨rfl, hb⟩; have HB := Aside0.mk (below_step HB.out hb); clear hb))
        go_ret
        exact ⟨rfl, HB.out⟩
      · rw [if_neg (by decide), if_neg (by decide), if_neg h]
        go_enter Tryz.func17, Tryz.ntmps17
        go_wp2_with (first
          | ((with_reducible refine gate_dst (N := 1) rfl ?_); refine box_event ?hg (N := 1) ?hd (cs := #[.int .i64 k, .int .i64 i, .float .f64 f, .string s, .slice A n c]) (t := 25) ?hr ?_; (case hd => rfl); (case hg => rfl); (case hr => first | (go_simp; done) | (go_simp; rfl)); intro gb hg w1 hbox hb; have HB := Aside0.mk hb; have HR := Aside0.mk (HR.out.kept hb); have KB := Aside0.mk hbox; have b0 : w1.cell? ⟨gb, 0, none⟩ = some (.int .i64 k) := blk_cell KB.out 0; have b1 : w1.cell? ⟨gb, 1, none⟩ = some (.int .i64 i) := blk_cell KB.out 1; have b2 : w1.cell? ⟨gb, 2, none⟩ = some (.float .f64 f) := blk_cell KB.out 2; have b3 : w1.cell? ⟨gb, 3, none⟩ = some (.string s) := blk_cell KB.out 3; have b4 : w1.cell? ⟨gb, 4, none⟩ = some (.slice A n c) := blk_cell KB.out 4; clear hg hbox hb)
          | (go_at_call 39; refine (H1.out _ _ _ HR.out).mono ?_; rw [G1.out]; rintro e w2 ⟨rfl, hb⟩; have HB := Aside0.mk (below_step HB.out hb); have HR := Aside0.mk (HR.out.kept hb); have KB := Aside0.mk (blk_below KB.out hb); clear b0 b1 b2 b3 b4; have b0 : w2.cell? ⟨gb, 0, none⟩ = some (.int .i64 k) := blk_cell KB.out 0; have b1 : w2.cell? ⟨gb, 1, none⟩ = some (.int .i64 i) := blk_cell KB.out 1; have b2 : w2.cell? ⟨gb, 2, none⟩ = some (.float .f64 f) := blk_cell KB.out 2; have b3 : w2.cell? ⟨gb, 3, none⟩ = some (.string s) := blk_cell KB.out 3; have b4 : w2.cell? ⟨gb, 4, none⟩ = some (.slice A n c) := blk_cell KB.out 4; clear hb)
          | (go_at_call 40; refine (H2.out _ _ _ HR.out 8).mono ?_; rw [G2.out]; rintro e w3 ⟨rfl, hb⟩; have HB := Aside0.mk (below_step HB.out hb); have HR := Aside0.mk (HR.out.kept hb); have KB := Aside0.mk (blk_below KB.out hb); clear b0 b1 b2 b3 b4; have b0 : w3.cell? ⟨gb, 0, none⟩ = some (.int .i64 k) := blk_cell KB.out 0; have b1 : w3.cell? ⟨gb, 1, none⟩ = some (.int .i64 i) := blk_cell KB.out 1; have b2 : w3.cell? ⟨gb, 2, none⟩ = some (.float .f64 f) := blk_cell KB.out 2; have b3 : w3.cell? ⟨gb, 3, none⟩ = some (.string s) := blk_cell KB.out 3; have b4 : w3.cell? ⟨gb, 4, none⟩ = some (.slice A n c) := blk_cell KB.out 4; clear hb)
          | (go_at_call 18; refine (H3.out _ _ _ HR.out).mono ?_; rw [G3.out]; rintro e w4 ⟨rfl, hb⟩; have HB := Aside0.mk (below_step HB.out hb); clear hb))
        go_ret
        exact ⟨rfl, HB.out⟩
    · rw [if_neg (by decide), if_pos rfl]
      go_enter Tryz.func17, Tryz.ntmps17
      go_wp2_with (first
        | ((with_reducible refine gate_dst (N := 1) rfl ?_); refine box_event ?hg (N := 1) ?hd (cs := #[.int .i64 k, .int .i64 i, .float .f64 f, .string s, .slice A n c]) (t := 25) ?hr ?_; (case hd => rfl); (case hg => rfl); (case hr => first | (go_simp; done) | (go_simp; rfl)); intro gb hg w1 hbox hb; have HB := Aside0.mk hb; have HR := Aside0.mk (HR.out.kept hb); have KB := Aside0.mk hbox; have b0 : w1.cell? ⟨gb, 0, none⟩ = some (.int .i64 k) := blk_cell KB.out 0; have b1 : w1.cell? ⟨gb, 1, none⟩ = some (.int .i64 i) := blk_cell KB.out 1; have b2 : w1.cell? ⟨gb, 2, none⟩ = some (.float .f64 f) := blk_cell KB.out 2; have b3 : w1.cell? ⟨gb, 3, none⟩ = some (.string s) := blk_cell KB.out 3; have b4 : w1.cell? ⟨gb, 4, none⟩ = some (.slice A n c) := blk_cell KB.out 4; clear hg hbox hb)
        | (go_at_call 39; refine (H1.out _ _ _ HR.out).mono ?_; rw [G1.out]; rintro e w2 ⟨rfl, hb⟩; have HB := Aside0.mk (below_step HB.out hb); have HR := Aside0.mk (HR.out.kept hb); have KB := Aside0.mk (blk_below KB.out hb); clear b0 b1 b2 b3 b4; have b0 : w2.cell? ⟨gb, 0, none⟩ = some (.int .i64 k) := blk_cell KB.out 0; have b1 : w2.cell? ⟨gb, 1, none⟩ = some (.int .i64 i) := blk_cell KB.out 1; have b2 : w2.cell? ⟨gb, 2, none⟩ = some (.float .f64 f) := blk_cell KB.out 2; have b3 : w2.cell? ⟨gb, 3, none⟩ = some (.string s) := blk_cell KB.out 3; have b4 : w2.cell? ⟨gb, 4, none⟩ = some (.slice A n c) := blk_cell KB.out 4; clear hb)
        | (go_at_call 40; refine (H2.out _ _ _ HR.out 8).mono ?_; rw [G2.out]; rintro e w3 ⟨rfl, hb⟩; have HB := Aside0.mk (below_step HB.out hb); have HR := Aside0.mk (HR.out.kept hb); have KB := Aside0.mk (blk_below KB.out hb); clear b0 b1 b2 b3 b4; have b0 : w3.cell? ⟨gb, 0, none⟩ = some (.int .i64 k) := blk_cell KB.out 0; have b1 : w3.cell? ⟨gb, 1, none⟩ = some (.int .i64 i) := blk_cell KB.out 1; have b2 : w3.cell? ⟨gb, 2, none⟩ = some (.float .f64 f) := blk_cell KB.out 2; have b3 : w3.cell? ⟨gb, 3, none⟩ = some (.string s) := blk_cell KB.out 3; have b4 : w3.cell? ⟨gb, 4, none⟩ = some (.slice A n c) := blk_cell KB.out 4; clear hb)
        | (go_at_call 18; refine (H3.out _ _ _ HR.out).mono ?_; rw [G3.out]; rintro e w4 ⟨rfl, hb⟩; have HB := Aside0.mk (below_step HB.out hb); clear hb))
      go_ret
      exact ⟨rfl, HB.out⟩
  · rw [if_pos rfl]
    go_enter Tryz.func17, Tryz.ntmps17
    go_wp2_with (first
      | ((with_reducible refine gate_dst (N := 1) rfl ?_); refine box_event ?hg (N := 1) ?hd (cs := #[.int .i64 k, .int .i64 i, .float .f64 f, .string s, .slice A n c]) (t := 25) ?hr ?_; (case hd => rfl); (case hg => rfl); (case hr => first | (go_simp; done) | (go_simp; rfl)); intro gb hg w1 hbox hb; have HB := Aside0.mk hb; have HR := Aside0.mk (HR.out.kept hb); have KB := Aside0.mk hbox; have b0 : w1.cell? ⟨gb, 0, none⟩ = some (.int .i64 k) := blk_cell KB.out 0; have b1 : w1.cell? ⟨gb, 1, none⟩ = some (.int .i64 i) := blk_cell KB.out 1; have b2 : w1.cell? ⟨gb, 2, none⟩ = some (.float .f64 f) := blk_cell KB.out 2; have b3 : w1.cell? ⟨gb, 3, none⟩ = some (.string s) := blk_cell KB.out 3; have b4 : w1.cell? ⟨gb, 4, none⟩ = some (.slice A n c) := blk_cell KB.out 4; clear hg hbox hb)
      | (go_at_call 39; refine (H1.out _ _ _ HR.out).mono ?_; rw [G1.out]; rintro e w2 ⟨rfl, hb⟩; have HB := Aside0.mk (below_step HB.out hb); have HR := Aside0.mk (HR.out.kept hb); have KB := Aside0.mk (blk_below KB.out hb); clear b0 b1 b2 b3 b4; have b0 : w2.cell? ⟨gb, 0, none⟩ = some (.int .i64 k) := blk_cell KB.out 0; have b1 : w2.cell? ⟨gb, 1, none⟩ = some (.int .i64 i) := blk_cell KB.out 1; have b2 : w2.cell? ⟨gb, 2, none⟩ = some (.float .f64 f) := blk_cell KB.out 2; have b3 : w2.cell? ⟨gb, 3, none⟩ = some (.string s) := blk_cell KB.out 3; have b4 : w2.cell? ⟨gb, 4, none⟩ = some (.slice A n c) := blk_cell KB.out 4; clear hb)
      | (go_at_call 40; refine (H2.out _ _ _ HR.out 8).mono ?_; rw [G2.out]; rintro e w3 ⟨rfl, hb⟩; have HB := Aside0.mk (below_step HB.out hb); have HR := Aside0.mk (HR.out.kept hb); have KB := Aside0.mk (blk_below KB.out hb); clear b0 b1 b2 b3 b4; have b0 : w3.cell? ⟨gb, 0, none⟩ = some (.int .i64 k) := blk_cell KB.out 0; have b1 : w3.cell? ⟨gb, 1, none⟩ = some (.int .i64 i) := blk_cell KB.out 1; have b2 : w3.cell? ⟨gb, 2, none⟩ = some (.float .f64 f) := blk_cell KB.out 2; have b3 : w3.cell? ⟨gb, 3, none⟩ = some (.string s) := blk_cell KB.out 3; have b4 : w3.cell? ⟨gb, 4, none⟩ = some (.slice A n c) := blk_cell KB.out 4; clear hb)
      | (go_at_call 18; refine (H3.out _ _ _ HR.out).mono ?_; rw [G3.out]; rintro e w4 ⟨rfl, hb⟩; have HB := Aside0.mk (below_step HB.out hb); clear hb))
    go_ret
    exact ⟨rfl, HB.out⟩
end Go.Proofs.YtejfmghjmhiodaaGreatDoor.Vz
