import Derived.Test.YtpalofbphmjijaaDoorGdRuns
namespace Go.Proofs.YtpalofbphmjijaaDoor.Gd
open Go.RowKit Go.Proofs.YtpalofbphmjijaaDoorW.PrintWords
set_option linter.unusedVariables false
set_option linter.unusedSimpArgs false
attribute [local go_sem] store_float

set_option maxHeartbeats 8000000 in
set_option maxRecDepth 100000 in
theorem runs5_long (v : Val) (cs : Array Value) (ee how n : Int) (t : ByteArray) (ok : Nat → Prop) (w : World) (hR : RV w ok v cs) (h40 : 40 < (t.size : Int)) (hh : True) :
    Calls Tryd.prog 5 #[.agg cs, .int .u16 ee, .int .u8 how, .string t, .int .i64 n] w fun e w' => e = .returned (.bool true) ∧ Below w.heap.size w w' := by
  have hmf : ∀ (fn : Fn) (first cap : Array Value) (w : World), (Instr.makeFunc fn first cap).run Tryd.prog w = .ok (.func fn first cap) w := fun _ _ _ _ => rfl
  obtain ⟨k, i, f, s, A, m, c, rfl⟩ := hR.form
  have HR := Aside0.mk hR
  have HH := Aside0.mk hh
  clear hR hh
  go_enter Tryd.func5, Tryd.ntmps5
  go_upto_region 3 with (first
    | ((with_reducible refine gate_dst (N := 5) rfl ?_); refine box_event ?hg (N := 5) ?hd (cs := #[.int .i64 k, .int .i64 i, .float .f64 f, .string s, .slice A m c]) (t := 31) ?hr ?_; (case hd => rfl); (case hg => rfl); (case hr => first | (go_simp; done) | (go_simp; rfl)); intro gv hg w1 hbox hb; have HB := Aside0.mk hb; have KV := Aside0.mk hbox; clear hg hbox hb)
    | (go_at_call 7; refine (known7 _).mono ?_; rintro e w2 ⟨rfl, hb⟩; have KV := Aside0.mk (blk_below KV.out hb); have HB := Aside0.mk (below_step HB.out hb); clear hb))
  have b0 : w2.cell? ⟨gv, 0, none⟩ = some (.int .i64 k) := blk_cell KV.out 0
  have b1 : w2.cell? ⟨gv, 1, none⟩ = some (.int .i64 i) := blk_cell KV.out 1
  have b2 : w2.cell? ⟨gv, 2, none⟩ = some (.float .f64 f) := blk_cell KV.out 2
  have b3 : w2.cell? ⟨gv, 3, none⟩ = some (.string s) := blk_cell KV.out 3
  have b4 : w2.cell? ⟨gv, 4, none⟩ = some (.slice A m c) := blk_cell KV.out 4
  go_upto_region 5 with (first
    | (go_at_call 15; refine (light15 _ _ _ _ (HR.out.kept HB.out)).mono ?_; rintro e w3 ⟨⟨lb, rfl⟩, hb⟩; have KV := Aside0.mk (blk_below KV.out hb); have HB := Aside0.mk (below_step HB.out hb); clear hb; clear b0 b1 b2 b3 b4))
  all_goals
    go_ret
    exact ⟨rfl, HB.out⟩
/-- GuardRuns. -/
theorem runs5 (v : Val) (cs : Array Value) (ee how n : Int) (t : ByteArray) (ok : Nat → Prop) (w : World) (hR : RV w ok v cs) (hn : 0 ≤ ee ∧ ee ≤ 65535) (hh : 0 ≤ how ∧ how ≤ 255) :
    Calls Tryd.prog 5 #[.agg cs, .int .u16 ee, .int .u8 how, .string t, .int .i64 n] w fun e w' => e = .returned (.bool true) ∧ Below w.heap.size w w' := by
  by_cases h40 : 40 < (t.size : Int)
  · exact runs5_long v cs ee how n t ok w hR h40 trivial
  · by_cases h0 : ee = 0
    · subst h0
      exact runs5_0 v cs how n t ok w hR (by omega) hh
    · exact runs5_1 v cs ee hn (beq_eq_false_iff_ne.2 h0) (bne_iff_ne.2 h0) (by rw [IntKind.wrap_i64]; omega) how n t ok w hR (by omega) hh
end Go.Proofs.YtpalofbphmjijaaDoor.Gd
