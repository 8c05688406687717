import Derived.OpenShut
import Derived.Test.YtpalofbphmjijaaDoorGdInner
namespace Go.Proofs.YtpalofbphmjijaaDoor.Gd
open Go.RowKit Go.Proofs.YtpalofbphmjijaaDoorW.PrintWords
set_option linter.unusedVariables false
set_option linter.unusedSimpArgs false
attribute [local go_sem] store_float

set_option maxHeartbeats 8000000 in
set_option maxRecDepth 100000 in
theorem inner4_long (how n : Int) (s : ByteArray) (after : Bool) (h : 40 < s.size) (w : World) : Calls Tryd.prog 4 #[.int .u8 how, .string s, .int .i16 n, .bool after] w fun e w' => e = .returned (.bool true) ∧ Below w.heap.size w w' := by
  have hmf : ∀ (fn : Fn) (first cap : Array Value) (w : World), (Instr.makeFunc fn first cap).run Tryd.prog w = .ok (.func fn first cap) w := fun _ _ _ _ => rfl
  go_enter Tryd.func4, Tryd.ntmps4
  go_upto_region 3 with (first
    | ((with_reducible refine gate_dst (N := 4) rfl ?_); refine box_event ?hg (N := 4) ?hd (cs := #[.int .u8 how]) (t := 5) ?hr ?_; (case hd => rfl); (case hg => rfl); (case hr => first | (go_simp; done) | (go_simp; rfl)); intro g4 hg w1 hbox hb; have HB := Aside0.mk hb; have K4 := Aside0.mk hbox; clear hg hbox hb)
    | ((with_reducible refine gate_dst (N := 5) rfl ?_); refine box_event ?hg (N := 5) ?hd (cs := #[.string s]) (t := 9) ?hr ?_; (case hd => rfl); (case hg => rfl); (case hr => first | (go_simp; done) | (go_simp; rfl)); intro g5 hg w2 hbox hb; have K4 := Aside0.mk (blk_below K4.out hb); have K5 := Aside0.mk hbox; have HB := Aside0.mk (below_step HB.out hb); clear hg hbox hb)
    | ((with_reducible refine gate_dst (N := 6) rfl ?_); refine box_event ?hg (N := 6) ?hd (cs := #[.int .i16 n]) (t := 27) ?hr ?_; (case hd => rfl); (case hg => rfl); (case hr => first | (go_simp; done) | (go_simp; rfl)); intro g6 hg w3 hbox hb; have K4 := Aside0.mk (blk_below K4.out hb); have K5 := Aside0.mk (blk_below K5.out hb); have K6 := Aside0.mk hbox; have HB := Aside0.mk (below_step HB.out hb); clear hg hbox hb)
    | ((with_reducible refine gate_dst (N := 7) rfl ?_); refine box_event ?hg (N := 7) ?hd (cs := #[.bool after]) (t := 4) ?hr ?_; (case hd => rfl); (case hg => rfl); (case hr => first | (go_simp; done) | (go_simp; rfl)); intro g7 hg w4 hbox hb; have K4 := Aside0.mk (blk_below K4.out hb); have K5 := Aside0.mk (blk_below K5.out hb); have K6 := Aside0.mk (blk_below K6.out hb); have K7 := Aside0.mk hbox; have HB := Aside0.mk (below_step HB.out hb); clear hg hbox hb)
    | (go_at_call 7; refine (known7 _).mono ?_; rintro e w5 ⟨rfl, hb⟩; have K4 := Aside0.mk (blk_below K4.out hb); have K5 := Aside0.mk (blk_below K5.out hb); have K6 := Aside0.mk (blk_below K6.out hb); have K7 := Aside0.mk (blk_below K7.out hb); have HB := Aside0.mk (below_step HB.out hb); clear hb))
  have c2 : w5.cell? ⟨g5, 0, none⟩ = some (.string s) := blk_cell K5.out 0
  go_wp2
  go_ret
  exact ⟨rfl, HB.out⟩

set_option maxHeartbeats 8000000 in
set_option maxRecDepth 100000 in
theorem inner4_true (how n : Int) (s : ByteArray) (hs : s.size ≤ 40) (hh : 0 ≤ how ∧ how ≤ 255) (hn : -32768 ≤ n ∧ n ≤ 32767) (w : World) : Calls Tryd.prog 4 #[.int .u8 how, .string s, .int .i16 n, .bool true] w fun e w' => e = .returned (.bool true) ∧ Below w.heap.size w w' := by
  have H0 := Aside0.mk hh
  have H1 := Aside0.mk hn
  have H2 := Aside0.mk hs
  have hw : IntKind.i64.wrap n = n := by rw [IntKind.wrap_i64]; omega
  clear hh hn
  have hmf : ∀ (fn : Fn) (first cap : Array Value) (w : World), (Instr.makeFunc fn first cap).run Tryd.prog w = .ok (.func fn first cap) w := fun _ _ _ _ => rfl
  go_enter Tryd.func4, Tryd.ntmps4
  go_upto_region 3 with (first
    | ((with_reducible refine gate_dst (N := 4) rfl ?_); refine box_event ?hg (N := 4) ?hd (cs := #[.int .u8 how]) (t := 5) ?hr ?_; (case hd => rfl); (case hg => rfl); (case hr => first | (go_simp; done) | (go_simp; rfl)); intro g4 hg w1 hbox hb; have HB := Aside0.mk hb; have K4 := Aside0.mk hbox; clear hg hbox hb)
    | ((with_reducible refine gate_dst (N := 5) rfl ?_); refine box_event ?hg (N := 5) ?hd (cs := #[.string s]) (t := 9) ?hr ?_; (case hd => rfl); (case hg => rfl); (case hr => first | (go_simp; done) | (go_simp; rfl)); intro g5 hg w2 hbox hb; have K4 := Aside0.mk (blk_below K4.out hb); have K5 := Aside0.mk hbox; have HB := Aside0.mk (below_step HB.out hb); clear hg hbox hb)
    | ((with_reducible refine gate_dst (N := 6) rfl ?_); refine box_event ?hg (N := 6) ?hd (cs := #[.int .i16 n]) (t := 27) ?hr ?_; (case hd => rfl); (case hg => rfl); (case hr => first | (go_simp; done) | (go_simp; rfl)); intro g6 hg w3 hbox hb; have K4 := Aside0.mk (blk_below K4.out hb); have K5 := Aside0.mk (blk_below K5.out hb); have K6 := Aside0.mk hbox; have HB := Aside0.mk (below_step HB.out hb); clear hg hbox hb)
    | ((with_reducible refine gate_dst (N := 7) rfl ?_); refine box_event ?hg (N := 7) ?hd (cs := #[.bool true]) (t := 4) ?hr ?_; (case hd => rfl); (case hg => rfl); (case hr => first | (go_simp; done) | (go_simp; rfl)); intro g7 hg w4 hbox hb; have K4 := Aside0.mk (blk_below K4.out hb); have K5 := Aside0.mk (blk_below K5.out hb); have K6 := Aside0.mk (blk_below K6.out hb); have K7 := Aside0.mk hbox; have HB := Aside0.mk (below_step HB.out hb); clear hg hbox hb)
    | (go_at_call 7; refine (known7 _).mono ?_; rintro e w5 ⟨rfl, hb⟩; have K4 := Aside0.mk (blk_below K4.out hb); have K5 := Aside0.mk (blk_below K5.out hb); have K6 := Aside0.mk (blk_below K6.out hb); have K7 := Aside0.mk (blk_below K7.out hb); have HB := Aside0.mk (below_step HB.out hb); clear hb))
  have c2 : w5.cell? ⟨g5, 0, none⟩ = some (.string s) := blk_cell K5.out 0
  go_upto_region 5 with (fail)
  go_upto_region 6 with (first
    | ((with_reducible refine gate_dst (N := 9) rfl ?_); refine box_event ?hg (N := 9) ?hd (cs := #[.int .i64 0]) (t := 3) ?hr ?_; (case hd => rfl); (case hg => rfl); (case hr => first | (go_simp; done) | (go_simp; rfl)); intro g9 hg w6 hbox hb; have HN := Aside0.mk (show g4 ≠ g9 ∧ g5 ≠ g9 ∧ g6 ≠ g9 ∧ g7 ≠ g9 by (have h1_ := blk_lt K4.out; have h2_ := blk_lt K5.out; have h3_ := blk_lt K6.out; have h4_ := blk_lt K7.out; omega)); have HG9 := Aside0.mk (show w.heap.size ≤ g9 by (have := HB.out.size; omega)); have K4 := Aside0.mk (blk_below K4.out hb); have K5 := Aside0.mk (blk_below K5.out hb); have K6 := Aside0.mk (blk_below K6.out hb); have K7 := Aside0.mk (blk_below K7.out hb); have K9 := Aside0.mk hbox; have HB := Aside0.mk (below_step HB.out hb); clear hg hbox hb)
    | ((with_reducible refine gate_store (t := 3) (p := 9) rfl ?_); refine put_eventU ?hg (t := 3) (p := 9) (v := .const (.int .i64 0)) ?ho ?hN (g := g9) (u := .int .i64 0) (cs := #[.int .i64 0]) ?hp ?hv K9.out ?hs ?hi ?h1 ?hc ?_; (case hs => rfl); (case hi => kernel_rfl); (case h1 => simp [Value.oneCell']); (case hc => simp [Value.cells]); (case hg => rfl); (case ho => rfl); (case hN => rfl); (case hp => rfl); (case hv => rfl); intro w7 hk hs; have HB := Aside0.mk (below_keep HB.out HG9.out hs); have K9 := Aside0.mk hk; have K4 := Aside0.mk (hs.blk K4.out HN.out.1); have K5 := Aside0.mk (hs.blk K5.out HN.out.2.1); have K6 := Aside0.mk (hs.blk K6.out HN.out.2.2.1); have K7 := Aside0.mk (hs.blk K7.out HN.out.2.2.2); clear hk hs))
  clear c2
  go_upto_region 7 with (first
    | (go_at_call 11; refine (run11_pan 12 _ (decide (how % 5 = 1)) _ (fun k => k = g9) (Seen g9) (fun k hk => by rw [hk]; exact blk_lt K9.out) (fun W W' hb hp => (hb.block g9 ?hlt).trans hp) enters12 (fun W hW => inner12_pan how n s H2.out H0.out H1.out 0 g4 g5 g6 g7 g9 W (blk_below K4.out hW) (blk_below K5.out hW) (blk_below K6.out hW) (blk_below K7.out hW) (blk_below K9.out hW) HN.out.1 HN.out.2.1 HN.out.2.2.1 HN.out.2.2.2)).mono ?_; (case hlt => exact blk_lt K9.out); rintro e w8 ⟨rfl, hs, hp⟩; have HB := Aside0.mk (below_keep HB.out HG9.out hs); have K6 := Aside0.mk (hs.blk K6.out HN.out.2.2.1); have K7 := Aside0.mk (hs.blk K7.out HN.out.2.2.2); have K9 := Aside0.mk (show w8.heap[g9]? = some (.cells #[.int .i64 34] 3 (0, 0)) from hp); clear hs hp)
    | ((with_reducible refine gate_dst (N := 10) rfl ?_); refine box_event ?hg (N := 10) ?hd (cs := #[.int .i64 0, .int .i64 0, .float .f64 0, .string ⟨#[]⟩, .slice none 0 0]) (t := 31) ?hr ?_; (case hd => rfl); (case hg => rfl); (case hr => first | (go_simp; done) | (go_simp; rfl)); intro g10 hg w9 hbox hb; have HG := Aside0.mk (show w.heap.size ≤ g10 ∧ g6 ≠ g10 ∧ g7 ≠ g10 ∧ g9 ≠ g10 by (have h1_ := HB.out.size; have h2_ := blk_lt K6.out; have h3_ := blk_lt K7.out; have h4_ := blk_lt K9.out; omega)); have K6 := Aside0.mk (blk_below K6.out hb); have K7 := Aside0.mk (blk_below K7.out hb); have K9 := Aside0.mk (blk_below K9.out hb); have K10 := Aside0.mk hbox; have HB := Aside0.mk (below_step HB.out hb); clear hg hbox hb)
    | ((with_reducible refine gate_store (t := 31) (p := 10) rfl ?_); refine put_eventU ?hg (t := 31) (p := 10) (v := .tmp 20) ?ho ?hN (g := g10) (u := .agg #[.int .i64 0, .int .i64 0, .float .f64 0, .string ⟨#[]⟩, .slice none 0 0]) (cs := #[.int .i64 0, .int .i64 0, .float .f64 0, .string ⟨#[]⟩, .slice none 0 0]) ?hp ?hv K10.out ?hs ?hi ?h1 ?hc ?_; (case hs => rfl); (case hi => kernel_rfl); (case h1 => simp [Value.oneCell']); (case hc => simp [Value.cells]); (case hg => rfl); (case ho => rfl); (case hN => rfl); (case hp => rfl); (case hv => rfl); intro w10 hk hs; have HB := Aside0.mk (below_keep HB.out HG.out.1 hs); have K6 := Aside0.mk (hs.blk K6.out HG.out.2.1); have K7 := Aside0.mk (hs.blk K7.out HG.out.2.2.1); have K9 := Aside0.mk (hs.blk K9.out HG.out.2.2.2); have K10 := Aside0.mk hk; clear hk hs))
  have c7 : w10.cell? ⟨g7, 0, none⟩ = some (.bool true) := blk_cell K7.out 0
  have c9 : w10.cell? ⟨g9, 0, none⟩ = some (.int .i64 34) := blk_cell K9.out 0
  have c6 : w10.cell? ⟨g6, 0, none⟩ = some (.int .i16 n) := blk_cell K6.out 0
  have c0 : w10.cell? ⟨g10, 0, none⟩ = some (.int .i64 0) := blk_cell K10.out 0
  go_wp2
  go_ret
  exact ⟨rfl, HB.out⟩

set_option maxHeartbeats 8000000 in
set_option maxRecDepth 100000 in
theorem inner4_false (how n : Int) (s : ByteArray) (hs : s.size ≤ 40) (hh : 0 ≤ how ∧ how ≤ 255) (hn : -32768 ≤ n ∧ n ≤ 32767) (w : World) : Calls Tryd.prog 4 #[.int .u8 how, .string s, .int .i16 n, .bool false] w fun e w' => e = .returned (.bool true) ∧ Below w.heap.size w w' := by
  have H0 := Aside0.mk hh
  have H1 := Aside0.mk hn
  have H2 := Aside0.mk hs
  have hw : IntKind.i64.wrap n = n := by rw [IntKind.wrap_i64]; omega
  clear hh hn
  have hmf : ∀ (fn : Fn) (first cap : Array Value) (w : World), (Instr.makeFunc fn first cap).run Tryd.prog w = .ok (.func fn first cap) w := fun _ _ _ _ => rfl
  go_enter Tryd.func4, Tryd.ntmps4
  go_upto_region 3 with (first
    | ((with_reducible refine gate_dst (N := 4) rfl ?_); refine box_event ?hg (N := 4) ?hd (cs := #[.int .u8 how]) (t := 5) ?hr ?_; (case hd => rfl); (case hg => rfl); (case hr => first | (go_simp; done) | (go_simp; rfl)); intro g4 hg w1 hbox hb; have HB := Aside0.mk hb; have K4 := Aside0.mk hbox; clear hg hbox hb)
    | ((with_reducible refine gate_dst (N := 5) rfl ?_); refine box_event ?hg (N := 5) ?hd (cs := #[.string s]) (t := 9) ?hr ?_; (case hd => rfl); (case hg => rfl); (case hr => first | (go_simp; done) | (go_simp; rfl)); intro g5 hg w2 hbox hb; have K4 := Aside0.mk (blk_below K4.out hb); have K5 := Aside0.mk hbox; have HB := Aside0.mk (below_step HB.out hb); clear hg hbox hb)
    | ((with_reducible refine gate_dst (N := 6) rfl ?_); refine box_event ?hg (N := 6) ?hd (cs := #[.int .i16 n]) (t := 27) ?hr ?_; (case hd => rfl); (case hg => rfl); (case hr => first | (go_simp; done) | (go_simp; rfl)); intro g6 hg w3 hbox hb; have K4 := Aside0.mk (blk_below K4.out hb); have K5 := Aside0.mk (blk_below K5.out hb); have K6 := Aside0.mk hbox; have HB := Aside0.mk (below_step HB.out hb); clear hg hbox hb)
    | ((with_reducible refine gate_dst (N := 7) rfl ?_); refine box_event ?hg (N := 7) ?hd (cs := #[.bool false]) (t := 4) ?hr ?_; (case hd => rfl); (case hg => rfl); (case hr => first | (go_simp; done) | (go_simp; rfl)); intro g7 hg w4 hbox hb; have K4 := Aside0.mk (blk_below K4.out hb); have K5 := Aside0.mk (blk_below K5.out hb); have K6 := Aside0.mk (blk_below K6.out hb); have K7 := Aside0.mk hbox; have HB := Aside0.mk (below_step HB.out hb); clear hg hbox hb)
    | (go_at_call 7; refine (known7 _).mono ?_; rintro e w5 ⟨rfl, hb⟩; have K4 := Aside0.mk (blk_below K4.out hb); have K5 := Aside0.mk (blk_below K5.out hb); have K6 := Aside0.mk (blk_below K6.out hb); have K7 := Aside0.mk (blk_below K7.out hb); have HB := Aside0.mk (below_step HB.out hb); clear hb))
  have c2 : w5.cell? ⟨g5, 0, none⟩ = some (.string s) := blk_cell K5.out 0
  go_upto_region 5 with (fail)
  go_upto_region 6 with (first
    | ((with_reducible refine gate_dst (N := 9) rfl ?_); refine box_event ?hg (N := 9) ?hd (cs := #[.int .i64 0]) (t := 3) ?hr ?_; (case hd => rfl); (case hg => rfl); (case hr => first | (go_simp; done) | (go_simp; rfl)); intro g9 hg w6 hbox hb; have HN := Aside0.mk (show g4 ≠ g9 ∧ g5 ≠ g9 ∧ g6 ≠ g9 ∧ g7 ≠ g9 by (have h1_ := blk_lt K4.out; have h2_ := blk_lt K5.out; have h3_ := blk_lt K6.out; have h4_ := blk_lt K7.out; omega)); have HG9 := Aside0.mk (show w.heap.size ≤ g9 by (have := HB.out.size; omega)); have K4 := Aside0.mk (blk_below K4.out hb); have K5 := Aside0.mk (blk_below K5.out hb); have K6 := Aside0.mk (blk_below K6.out hb); have K7 := Aside0.mk (blk_below K7.out hb); have K9 := Aside0.mk hbox; have HB := Aside0.mk (below_step HB.out hb); clear hg hbox hb)
    | ((with_reducible refine gate_store (t := 3) (p := 9) rfl ?_); refine put_eventU ?hg (t := 3) (p := 9) (v := .const (.int .i64 0)) ?ho ?hN (g := g9) (u := .int .i64 0) (cs := #[.int .i64 0]) ?hp ?hv K9.out ?hs ?hi ?h1 ?hc ?_; (case hs => rfl); (case hi => kernel_rfl); (case h1 => simp [Value.oneCell']); (case hc => simp [Value.cells]); (case hg => rfl); (case ho => rfl); (case hN => rfl); (case hp => rfl); (case hv => rfl); intro w7 hk hs; have HB := Aside0.mk (below_keep HB.out HG9.out hs); have K9 := Aside0.mk hk; have K4 := Aside0.mk (hs.blk K4.out HN.out.1); have K5 := Aside0.mk (hs.blk K5.out HN.out.2.1); have K6 := Aside0.mk (hs.blk K6.out HN.out.2.2.1); have K7 := Aside0.mk (hs.blk K7.out HN.out.2.2.2); clear hk hs))
  clear c2
  go_upto_region 7 with (first
    | (go_at_call 11; refine (run11_ok 12 _ 1 n 0 ⟨#[]⟩ none 0 0 _ (fun k => k = g9) (Seen g9) (fun k hk => by rw [hk]; exact blk_lt K9.out) (fun W W' hb hp => (hb.block g9 ?hlt).trans hp) enters12 (fun W hW => inner12_ok how n s H2.out H0.out H1.out 0 g4 g5 g6 g7 g9 W (blk_below K4.out hW) (blk_below K5.out hW) (blk_below K6.out hW) (blk_below K7.out hW) (blk_below K9.out hW) HN.out.1 HN.out.2.1 HN.out.2.2.1 HN.out.2.2.2)).mono ?_; (case hlt => exact blk_lt K9.out); rintro e w8 ⟨rfl, hs, hp⟩; have HB := Aside0.mk (below_keep HB.out HG9.out hs); have K6 := Aside0.mk (hs.blk K6.out HN.out.2.2.1); have K7 := Aside0.mk (hs.blk K7.out HN.out.2.2.2); have K9 := Aside0.mk (show w8.heap[g9]? = some (.cells #[.int .i64 34] 3 (0, 0)) from hp); clear hs hp)
    | ((with_reducible refine gate_dst (N := 10) rfl ?_); refine box_event ?hg (N := 10) ?hd (cs := #[.int .i64 0, .int .i64 0, .float .f64 0, .string ⟨#[]⟩, .slice none 0 0]) (t := 31) ?hr ?_; (case hd => rfl); (case hg => rfl); (case hr => first | (go_simp; done) | (go_simp; rfl)); intro g10 hg w9 hbox hb; have HG := Aside0.mk (show w.heap.size ≤ g10 ∧ g6 ≠ g10 ∧ g7 ≠ g10 ∧ g9 ≠ g10 by (have h1_ := HB.out.size; have h2_ := blk_lt K6.out; have h3_ := blk_lt K7.out; have h4_ := blk_lt K9.out; omega)); have K6 := Aside0.mk (blk_below K6.out hb); have K7 := Aside0.mk (blk_below K7.out hb); have K9 := Aside0.mk (blk_below K9.out hb); have K10 := Aside0.mk hbox; have HB := Aside0.mk (below_step HB.out hb); clear hg hbox hb)
    | ((with_reducible refine gate_store (t := 31) (p := 10) rfl ?_); refine put_eventU ?hg (t := 31) (p := 10) (v := .tmp 20) ?ho ?hN (g := g10) (u := .agg #[.int .i64 1, .int .i64 n, .float .f64 0, .string ⟨#[]⟩, .slice none 0 0]) (cs := #[.int .i64 1, .int .i64 n, .float .f64 0, .string ⟨#[]⟩, .slice none 0 0]) ?hp ?hv K10.out ?hs ?hi ?h1 ?hc ?_; (case hs => rfl); (case hi => kernel_rfl); (case h1 => simp [Value.oneCell']); (case hc => simp [Value.cells]); (case hg => rfl); (case ho => rfl); (case hN => rfl); (case hp => rfl); (case hv => rfl); intro w10 hk hs; have HB := Aside0.mk (below_keep HB.out HG.out.1 hs); have K6 := Aside0.mk (hs.blk K6.out HG.out.2.1); have K7 := Aside0.mk (hs.blk K7.out HG.out.2.2.1); have K9 := Aside0.mk (hs.blk K9.out HG.out.2.2.2); have K10 := Aside0.mk hk; clear hk hs))
  have c7 : w10.cell? ⟨g7, 0, none⟩ = some (.bool false) := blk_cell K7.out 0
  have c9 : w10.cell? ⟨g9, 0, none⟩ = some (.int .i64 34) := blk_cell K9.out 0
  have c6 : w10.cell? ⟨g6, 0, none⟩ = some (.int .i16 n) := blk_cell K6.out 0
  have c1 : w10.cell? ⟨g10, 1, none⟩ = some (.int .i64 n) := blk_cell K10.out 1
  go_wp2
  go_ret
  exact ⟨rfl, HB.out⟩

/-- GuardInner. -/
theorem inner4 (how n : Int) (s : ByteArray) (after : Bool) (hh : 0 ≤ how ∧ how ≤ 255) (hn : -32768 ≤ n ∧ n ≤ 32767) (w : World) : Calls Tryd.prog 4 #[.int .u8 how, .string s, .int .i16 n, .bool after] w fun e w' => e = .returned (.bool true) ∧ Below w.heap.size w w' := by
  by_cases hs : 40 < s.size
  · exact inner4_long how n s after hs w
  · cases after
    · exact inner4_false how n s (by omega) hh hn w
    · exact inner4_true how n s (by omega) hh hn w
end Go.Proofs.YtpalofbphmjijaaDoor.Gd
namespace Go.Proofs.YtpalofbphmjijaaDoor.GdInnerW
open Go.RowKit
set_option linter.unusedVariables false
theorem walk (a0 : Int) (w0 : (Lit.int .u8 a0).wf = true) (a1 : ByteArray) (y1 : a1.size ≤ maxLen) (a2 : Int) (w2 : (Lit.int .i16 a2).wf = true) (a3 : Bool) (W : World) (_h : True) :
    Calls Tryd.prog 4 #[.int .u8 a0, .string a1, .int .i16 a2, .bool a3] W fun e W' => e = .returned (.bool true) ∧ Below W.heap.size W W' := by
  exact Gd.inner4 a0 a2 a1 a3 (bounds_u8 w0) (bounds_i16 w2) W
end Go.Proofs.YtpalofbphmjijaaDoor.GdInnerW
