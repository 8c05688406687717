import Derived.Test.YtpalofbphmjijaaDoorGdInner
namespace Go.Proofs.YtpalofbphmjijaaDoor.Gd
open Go.RowKit Go.Proofs.YtpalofbphmjijaaDoorW.PrintWords
set_option linter.unusedVariables false
set_option linter.unusedSimpArgs false
attribute [local go_sem] store_float

set_option maxHeartbeats 8000000 in
set_option maxRecDepth 100000 in
/-- one: the closure, and what lies in its variables. -/
theorem one19 (gr : Nat) (k i : Int) (w : World) : Calls Tryd.prog 19 #[.pointer (some ⟨gr, 0, none⟩), .int .u8 k, .int .i64 i] w fun e w' =>
    Below w.heap.size w w' ∧ ∃ a b c, e = .returned (.func (.func 34) #[] #[.pointer (some ⟨a, 0, none⟩), .pointer (some ⟨b, 0, none⟩), .pointer (some ⟨c, 0, none⟩)]) ∧ w.heap.size ≤ c ∧ w'.heap[a]? = some (.cells #[.pointer (some ⟨gr, 0, none⟩)] 48 (0, 0)) ∧ w'.heap[b]? = some (.cells #[.int .u8 k] 5 (0, 0)) ∧ w'.heap[c]? = some (.cells #[.int .i64 i] 3 (0, 0)) := by
  have hmf : ∀ (fn : Fn) (first cap : Array Value) (w : World), (Instr.makeFunc fn first cap).run Tryd.prog w = .ok (.func fn first cap) w := fun _ _ _ _ => rfl
  go_enter Tryd.func19, Tryd.ntmps19
  go_wp2_with (first
    | ((with_reducible refine gate_dst (N := 3) rfl ?_); refine box_event ?hg (N := 3) ?hd (cs := #[.pointer (some ⟨gr, 0, none⟩)]) (t := 48) ?hr ?_; (case hd => rfl); (case hg => rfl); (case hr => first | (go_simp; done) | (go_simp; rfl)); intro g1 hg w1 hbox hb; have HB := Aside0.mk hb; have K1 := Aside0.mk hbox; clear hg hbox hb)
    | ((with_reducible refine gate_dst (N := 4) rfl ?_); refine box_event ?hg (N := 4) ?hd (cs := #[.int .u8 k]) (t := 5) ?hr ?_; (case hd => rfl); (case hg => rfl); (case hr => first | (go_simp; done) | (go_simp; rfl)); intro g2 hg w2 hbox hb; have K1 := Aside0.mk (blk_below K1.out hb); have K2 := Aside0.mk hbox; have HB := Aside0.mk (below_step HB.out hb); clear hg hbox hb)
    | ((with_reducible refine gate_dst (N := 5) rfl ?_); refine box_event ?hg (N := 5) ?hd (cs := #[.int .i64 i]) (t := 3) ?hr ?_; (case hd => rfl); (case hg => rfl); (case hr => first | (go_simp; done) | (go_simp; rfl)); intro g3 hg w3 hbox hb; have HG := Aside0.mk (show w.heap.size ≤ g3 by (have := HB.out.size; omega)); have K1 := Aside0.mk (blk_below K1.out hb); have K2 := Aside0.mk (blk_below K2.out hb); have K3 := Aside0.mk hbox; have HB := Aside0.mk (below_step HB.out hb); clear hg hbox hb))
  go_ret
  exact ⟨HB.out, g1, g2, g3, rfl, HG.out, K1.out, K2.out, K3.out⟩

def Ran (g : Nat) (r : Int) (W : World) : Prop := W.heap[g]? = some (.cells #[.int .i64 r] 3 (0, 0))

set_option maxHeartbeats 8000000 in
set_option maxRecDepth 100000 in
/-- one's closure, where it panics. -/
theorem one34_pan (k i r : Int) (gr a b c : Nat) (W : World) (hk : 0 ≤ k ∧ k ≤ 255) (hr : 0 ≤ r ∧ r ≤ 100) (ha : W.heap[a]? = some (.cells #[.pointer (some ⟨gr, 0, none⟩)] 48 (0, 0))) (hb : W.heap[b]? = some (.cells #[.int .u8 k] 5 (0, 0))) (hc : W.heap[c]? = some (.cells #[.int .i64 i] 3 (0, 0))) (hg : W.heap[gr]? = some (.cells #[.int .i64 r] 3 (0, 0))) (hne : c ≠ gr) (h : 240 ≤ k) :
    Calls Tryd.prog 34 #[.pointer (some ⟨a, 0, none⟩), .pointer (some ⟨b, 0, none⟩), .pointer (some ⟨c, 0, none⟩)] W fun e W' => Pan (decide (k % 5 = 1)) e ∧ Save (fun k => k = gr) W W' ∧ Ran gr (r + 1) W' := by
  have HA := Aside0.mk ha
  have HBB := Aside0.mk hb
  have HC := Aside0.mk hc
  have HK := Aside0.mk hg
  have HN := Aside0.mk (show a ≠ gr ∧ b ≠ gr ∧ c ≠ gr from ⟨blk_ne ha hg (by decide), blk_ne hb hg (by decide), hne⟩)
  have HH := Aside0.mk hk
  clear ha hb hc hg hne
  go_enter Tryd.func34, Tryd.ntmps34
  go_upto_region 1 with (first
    | ((with_reducible refine gate_dst (N := 3) rfl ?_); refine box_event ?hg (N := 3) ?hd (cs := #[.int .i64 0, .int .i64 0, .float .f64 0, .string ⟨#[]⟩, .slice none 0 0]) (t := 31) ?hr ?_; (case hd => rfl); (case hg => rfl); (case hr => first | (go_simp; done) | (go_simp; rfl)); intro g3 hg w1 hbox hb; have HB := Aside0.mk (Save.of (S := fun k => k = gr) hb); have HG := Aside0.mk (show W.heap.size ≤ g3 ∧ a < g3 ∧ b < g3 ∧ c < g3 ∧ gr < g3 by (have h1_ := blk_lt HA.out; have h2_ := blk_lt HBB.out; have h3_ := blk_lt HC.out; have h4_ := blk_lt HK.out; omega)); have HA := Aside0.mk (blk_below HA.out hb); have HBB := Aside0.mk (blk_below HBB.out hb); have HC := Aside0.mk (blk_below HC.out hb); have HK := Aside0.mk (blk_below HK.out hb); have K3 := Aside0.mk hbox; clear hg hbox hb))
  have q0 : w1.cell? ⟨a, 0, none⟩ = some (.pointer (some ⟨gr, 0, none⟩)) := blk_cell HA.out 0
  have q1 : w1.cell? ⟨gr, 0, none⟩ = some (.int .i64 r) := blk_cell HK.out 0
  go_upto_region 2 with (first
    | ((with_reducible refine gate_store (t := 3) (p := 9) rfl ?_); refine put_eventU ?hg (t := 3) (p := 9) (v := .tmp 8) ?ho ?hN (g := gr) (u := .int .i64 (r + 1)) (cs := #[.int .i64 (r + 1)]) ?hp ?hv HK.out ?hs ?hi ?h1 ?hc ?_; (case hs => rfl); (case hi => kernel_rfl); (case h1 => simp [Value.oneCell']); (case hc => simp [Value.cells]); (case hg => rfl); (case ho => rfl); (case hN => rfl); (case hp => rfl); (case hv => rfl); intro w2 hk hs; have HB := Aside0.mk (HB.out.then hs); have HK := Aside0.mk hk; have HA := Aside0.mk (hs.blk HA.out HN.out.1); have HBB := Aside0.mk (hs.blk HBB.out HN.out.2.1); have HC := Aside0.mk (hs.blk HC.out HN.out.2.2); have K3 := Aside0.mk (hs.blk K3.out (by have := HG.out; omega)); clear hk hs))
  have q2 : w2.cell? ⟨b, 0, none⟩ = some (.int .u8 k) := blk_cell HBB.out 0
  have q3 : w2.cell? ⟨c, 0, none⟩ = some (.int .i64 i) := blk_cell HC.out 0
  go_wp2_with (go_at_call 10; refine (raise10 k i ⟨#[120]⟩ (by decide) HH.out.1 _).mono ?_; rintro e w7 ⟨⟨v, rfl, hv⟩, hb⟩; have HB := Aside0.mk (HB.out.belowed hb); have HK := Aside0.mk (blk_below HK.out hb); have HV := Aside0.mk hv; clear hb hv)
  exact ⟨rfl, ⟨_, rfl, HV.out⟩, HB.out, HK.out⟩

set_option maxHeartbeats 8000000 in
set_option maxRecDepth 100000 in
/-- one's closure, where it tells its number. -/
theorem one34_ok (k i r : Int) (gr a b c : Nat) (W : World) (hk : 0 ≤ k ∧ k ≤ 255) (hr : 0 ≤ r ∧ r ≤ 100) (ha : W.heap[a]? = some (.cells #[.pointer (some ⟨gr, 0, none⟩)] 48 (0, 0))) (hb : W.heap[b]? = some (.cells #[.int .u8 k] 5 (0, 0))) (hc : W.heap[c]? = some (.cells #[.int .i64 i] 3 (0, 0))) (hg : W.heap[gr]? = some (.cells #[.int .i64 r] 3 (0, 0))) (hne : c ≠ gr) (h : k < 220) :
    Calls Tryd.prog 34 #[.pointer (some ⟨a, 0, none⟩), .pointer (some ⟨b, 0, none⟩), .pointer (some ⟨c, 0, none⟩)] W fun e W' => e = .returned (.tuple #[.agg #[.int .i64 1, .int .i64 i, .float .f64 0, .string ⟨#[]⟩, .slice none 0 0], .int .i64 0]) ∧ Save (fun k => k = gr) W W' ∧ Ran gr (r + 1) W' := by
  have HA := Aside0.mk ha
  have HBB := Aside0.mk hb
  have HC := Aside0.mk hc
  have HK := Aside0.mk hg
  have HN := Aside0.mk (show a ≠ gr ∧ b ≠ gr ∧ c ≠ gr from ⟨blk_ne ha hg (by decide), blk_ne hb hg (by decide), hne⟩)
  have HH := Aside0.mk hk
  clear ha hb hc hg hne
  go_enter Tryd.func34, Tryd.ntmps34
  go_upto_region 1 with (first
    | ((with_reducible refine gate_dst (N := 3) rfl ?_); refine box_event ?hg (N := 3) ?hd (cs := #[.int .i64 0, .int .i64 0, .float .f64 0, .string ⟨#[]⟩, .slice none 0 0]) (t := 31) ?hr ?_; (case hd => rfl); (case hg => rfl); (case hr => first | (go_simp; done) | (go_simp; rfl)); intro g3 hg w1 hbox hb; have HB := Aside0.mk (Save.of (S := fun k => k = gr) hb); have HG := Aside0.mk (show W.heap.size ≤ g3 ∧ a < g3 ∧ b < g3 ∧ c < g3 ∧ gr < g3 by (have h1_ := blk_lt HA.out; have h2_ := blk_lt HBB.out; have h3_ := blk_lt HC.out; have h4_ := blk_lt HK.out; omega)); have HA := Aside0.mk (blk_below HA.out hb); have HBB := Aside0.mk (blk_below HBB.out hb); have HC := Aside0.mk (blk_below HC.out hb); have HK := Aside0.mk (blk_below HK.out hb); have K3 := Aside0.mk hbox; clear hg hbox hb))
  have q0 : w1.cell? ⟨a, 0, none⟩ = some (.pointer (some ⟨gr, 0, none⟩)) := blk_cell HA.out 0
  have q1 : w1.cell? ⟨gr, 0, none⟩ = some (.int .i64 r) := blk_cell HK.out 0
  go_upto_region 2 with (first
    | ((with_reducible refine gate_store (t := 3) (p := 9) rfl ?_); refine put_eventU ?hg (t := 3) (p := 9) (v := .tmp 8) ?ho ?hN (g := gr) (u := .int .i64 (r + 1)) (cs := #[.int .i64 (r + 1)]) ?hp ?hv HK.out ?hs ?hi ?h1 ?hc ?_; (case hs => rfl); (case hi => kernel_rfl); (case h1 => simp [Value.oneCell']); (case hc => simp [Value.cells]); (case hg => rfl); (case ho => rfl); (case hN => rfl); (case hp => rfl); (case hv => rfl); intro w2 hk hs; have HB := Aside0.mk (HB.out.then hs); have HK := Aside0.mk hk; have HA := Aside0.mk (hs.blk HA.out HN.out.1); have HBB := Aside0.mk (hs.blk HBB.out HN.out.2.1); have HC := Aside0.mk (hs.blk HC.out HN.out.2.2); have K3 := Aside0.mk (hs.blk K3.out (by have := HG.out; omega)); clear hk hs))
  have q2 : w2.cell? ⟨b, 0, none⟩ = some (.int .u8 k) := blk_cell HBB.out 0
  have q3 : w2.cell? ⟨c, 0, none⟩ = some (.int .i64 i) := blk_cell HC.out 0
  have hk2 : ¬ 240 ≤ k := by omega
  go_wp2_with (first
    | (go_at_call 14; refine (int14 i _).mono ?_; rintro e w7 ⟨rfl, hb⟩; have HB := Aside0.mk (HB.out.belowed hb); have HK := Aside0.mk (blk_below HK.out hb); have K3 := Aside0.mk (blk_below K3.out hb); clear hb)
    | ((with_reducible refine gate_store (t := 31) (p := 3) rfl ?_); refine put_eventU ?hg (t := 31) (p := 3) (v := .tmp 21) ?ho ?hN (g := g3) (u := .agg #[.int .i64 1, .int .i64 i, .float .f64 0, .string ⟨#[]⟩, .slice none 0 0]) (cs := #[.int .i64 1, .int .i64 i, .float .f64 0, .string ⟨#[]⟩, .slice none 0 0]) ?hp ?hv K3.out ?hs ?hi ?h1 ?hc ?_; (case hs => rfl); (case hi => kernel_rfl); (case h1 => simp [Value.oneCell']); (case hc => simp [Value.cells]); (case hg => rfl); (case ho => rfl); (case hN => rfl); (case hp => rfl); (case hv => rfl); intro w8 hk hs; have HB := Aside0.mk (HB.out.newer hs HG.out.1); have HK := Aside0.mk (hs.blk HK.out (by have := HG.out; omega)); have K3 := Aside0.mk hk; clear hk hs))
  clear q0 q1 q2 q3
  have q0 := blk_cell K3.out 0
  have q1 := blk_cell K3.out 1
  have q2 := blk_cell K3.out 2
  have q3 := blk_cell K3.out 3
  have q4 := blk_cell K3.out 4
  simp at q0 q1 q2 q3 q4
  refine bodyPost_ret (v := .tuple #[.agg #[.int .i64 1, .int .i64 i, .float .f64 0, .string ⟨#[]⟩, .slice none 0 0], .int .i64 0]) ?_ rfl ⟨rfl, HB.out, HK.out⟩
  clear HB HK K3
  simp [results, Tryd.results34, go_sem, q0, q1, q2, q3, q4]

set_option maxHeartbeats 8000000 in
set_option maxRecDepth 100000 in
/-- one's closure, where it tells an error. -/
theorem one34_err (k i r : Int) (gr a b c : Nat) (W : World) (hk : 0 ≤ k ∧ k ≤ 255) (hr : 0 ≤ r ∧ r ≤ 100) (ha : W.heap[a]? = some (.cells #[.pointer (some ⟨gr, 0, none⟩)] 48 (0, 0))) (hb : W.heap[b]? = some (.cells #[.int .u8 k] 5 (0, 0))) (hc : W.heap[c]? = some (.cells #[.int .i64 i] 3 (0, 0))) (hg : W.heap[gr]? = some (.cells #[.int .i64 r] 3 (0, 0))) (hne : c ≠ gr) (h : 220 ≤ k) (h2 : k < 240) :
    Calls Tryd.prog 34 #[.pointer (some ⟨a, 0, none⟩), .pointer (some ⟨b, 0, none⟩), .pointer (some ⟨c, 0, none⟩)] W fun e W' => e = .returned (.tuple #[.agg #[.int .i64 0, .int .i64 0, .float .f64 0, .string ⟨#[]⟩, .slice none 0 0], .int .i64 k]) ∧ Save (fun k => k = gr) W W' ∧ Ran gr (r + 1) W' := by
  have HA := Aside0.mk ha
  have HBB := Aside0.mk hb
  have HC := Aside0.mk hc
  have HK := Aside0.mk hg
  have HN := Aside0.mk (show a ≠ gr ∧ b ≠ gr ∧ c ≠ gr from ⟨blk_ne ha hg (by decide), blk_ne hb hg (by decide), hne⟩)
  have HH := Aside0.mk hk
  clear ha hb hc hg hne
  go_enter Tryd.func34, Tryd.ntmps34
  go_upto_region 1 with (first
    | ((with_reducible refine gate_dst (N := 3) rfl ?_); refine box_event ?hg (N := 3) ?hd (cs := #[.int .i64 0, .int .i64 0, .float .f64 0, .string ⟨#[]⟩, .slice none 0 0]) (t := 31) ?hr ?_; (case hd => rfl); (case hg => rfl); (case hr => first | (go_simp; done) | (go_simp; rfl)); intro g3 hg w1 hbox hb; have HB := Aside0.mk (Save.of (S := fun k => k = gr) hb); have HG := Aside0.mk (show W.heap.size ≤ g3 ∧ a < g3 ∧ b < g3 ∧ c < g3 ∧ gr < g3 by (have h1_ := blk_lt HA.out; have h2_ := blk_lt HBB.out; have h3_ := blk_lt HC.out; have h4_ := blk_lt HK.out; omega)); have HA := Aside0.mk (blk_below HA.out hb); have HBB := Aside0.mk (blk_below HBB.out hb); have HC := Aside0.mk (blk_below HC.out hb); have HK := Aside0.mk (blk_below HK.out hb); have K3 := Aside0.mk hbox; clear hg hbox hb))
  have q0 : w1.cell? ⟨a, 0, none⟩ = some (.pointer (some ⟨gr, 0, none⟩)) := blk_cell HA.out 0
  have q1 : w1.cell? ⟨gr, 0, none⟩ = some (.int .i64 r) := blk_cell HK.out 0
  go_upto_region 2 with (first
    | ((with_reducible refine gate_store (t := 3) (p := 9) rfl ?_); refine put_eventU ?hg (t := 3) (p := 9) (v := .tmp 8) ?ho ?hN (g := gr) (u := .int .i64 (r + 1)) (cs := #[.int .i64 (r + 1)]) ?hp ?hv HK.out ?hs ?hi ?h1 ?hc ?_; (case hs => rfl); (case hi => kernel_rfl); (case h1 => simp [Value.oneCell']); (case hc => simp [Value.cells]); (case hg => rfl); (case ho => rfl); (case hN => rfl); (case hp => rfl); (case hv => rfl); intro w2 hk hs; have HB := Aside0.mk (HB.out.then hs); have HK := Aside0.mk hk; have HA := Aside0.mk (hs.blk HA.out HN.out.1); have HBB := Aside0.mk (hs.blk HBB.out HN.out.2.1); have HC := Aside0.mk (hs.blk HC.out HN.out.2.2); have K3 := Aside0.mk (hs.blk K3.out (by have := HG.out; omega)); clear hk hs))
  have q2 : w2.cell? ⟨b, 0, none⟩ = some (.int .u8 k) := blk_cell HBB.out 0
  have q3 : w2.cell? ⟨c, 0, none⟩ = some (.int .i64 i) := blk_cell HC.out 0
  have hk2 : ¬ 240 ≤ k := by omega
  have hw : IntKind.i64.wrap k = k := by rw [IntKind.wrap_i64]; omega
  have p0 : w2.cell? ⟨g3, 0, none⟩ = some (.int .i64 0) := blk_cell K3.out 0
  have f0 : w2.frozen? ⟨g3, 0, none⟩ = false := blk_frozen K3.out 0
  have p1 : w2.cell? ⟨g3, 1, none⟩ = some (.int .i64 0) := blk_cell K3.out 1
  have f1 : w2.frozen? ⟨g3, 1, none⟩ = false := blk_frozen K3.out 1
  have p2 : w2.cell? ⟨g3, 2, none⟩ = some (.float .f64 0) := blk_cell K3.out 2
  have f2 : w2.frozen? ⟨g3, 2, none⟩ = false := blk_frozen K3.out 2
  have p3 : w2.cell? ⟨g3, 3, none⟩ = some (.string ⟨#[]⟩) := blk_cell K3.out 3
  have f3 : w2.frozen? ⟨g3, 3, none⟩ = false := blk_frozen K3.out 3
  have p4 : w2.cell? ⟨g3, 4, none⟩ = some (.slice none 0 0) := blk_cell K3.out 4
  have f4 : w2.frozen? ⟨g3, 4, none⟩ = false := blk_frozen K3.out 4
  have n1 : ¬ b = g3 := by have := HG.out; omega
  have n2 : ¬ g3 = b := by have := HG.out; omega
  go_upto_region 5 with (fail)
  go_region
  all_goals go_wp2
  all_goals
    generalize hWW : World.drew _ = WW
    have HE : Below w2.heap.size w2 w2 ∧ Save (fun k => k = g3) w2 WW ∧ WW.heap[g3]? = some (.cells #[.int .i64 0, .int .i64 0, .float .f64 0, .string ⟨#[]⟩, .slice none 0 0] 31 (0, 0)) := by
      subst hWW
      have h0 : Save (fun k => k = g3) w2 w2 := Save.of (Below.refl _ _)
      have h5 := ((((h0.setIn (p := ⟨g3, 0, none⟩) rfl (.int .i64 0)).setIn (p := ⟨g3, 1, none⟩) rfl (.int .i64 0)).setIn (p := ⟨g3, 2, none⟩) rfl (.float .f64 0)).setIn (p := ⟨g3, 3, none⟩) rfl (.string ⟨#[]⟩)).setIn (p := ⟨g3, 4, none⟩) rfl (.slice none 0 0)
      exact ⟨Below.refl _ _, ⟨h5.os, h5.tape, h5.output, h5.size, h5.block⟩, blk_set (blk_set (blk_set (blk_set (blk_set K3.out 0 (.int .i64 0)) 1 (.int .i64 0)) 2 (.float .f64 0)) 3 (.string ⟨#[]⟩)) 4 (.slice none 0 0)⟩
    have HB := Aside0.mk (HB.out.newer HE.2.1 HG.out.1)
    have HK := Aside0.mk (HE.2.1.blk HK.out (by have := HG.out; omega))
    have K3 := Aside0.mk HE.2.2
    clear hWW HE q0 q1 q2 q3 p0 p1 p2 p3 p4 f0 f1 f2 f3 f4
    have q0 := blk_cell K3.out 0
    have q1 := blk_cell K3.out 1
    have q2 := blk_cell K3.out 2
    have q3 := blk_cell K3.out 3
    have q4 := blk_cell K3.out 4
    simp at q0 q1 q2 q3 q4
    refine bodyPost_ret (v := .tuple #[.agg #[.int .i64 0, .int .i64 0, .float .f64 0, .string ⟨#[]⟩, .slice none 0 0], .int .i64 k]) ?_ rfl ⟨rfl, HB.out, HK.out⟩
    clear HB HK K3
    simp [results, Tryd.results34, go_sem, q0, q1, q2, q3, q4]
end Go.Proofs.YtpalofbphmjijaaDoor.Gd
