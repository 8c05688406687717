import Derived.Test.YtpalofbphmjijaaDoorGdKnown2
namespace Go.Proofs.YtpalofbphmjijaaDoor.Gd
open Go.RowKit Go.Proofs.YtpalofbphmjijaaDoorW.PrintWords
set_option linter.unusedVariables false
set_option linter.unusedSimpArgs false
attribute [local go_sem] store_float

section
variable {P : Program} {ops : Array Oper} {rest : List Oper} {o : Oper} {a : Act} {Q : Exit → Act → World → Prop}
theorem put_eventU {W : World} (hgd : o.guard = none) {t : TypeId} {p : Tmp} {v : Operand} (ho : o.op = .store t (.tmp p) v) (hN : o.dst = none) {g : Nat} {u : Value} {cur cs : Array Value} {e : TypeId}
    (hp : a.eval (.tmp p) = .pointer (some ⟨g, 0, none⟩)) (hv : a.eval v = u) (hb : W.heap[g]? = some (.cells cur e (0, 0))) (hs : cur.size = cs.size) (hi : (P.info? t).map (·.size) = some cs.size) (h1 : ∀ q ∈ cs.toList, q.oneCell' = true) (hc : u.cells = cs)
    (h : ∀ w1, w1.heap[g]? = some (.cells cs e (0, 0)) → Save (fun k => k = g) W w1 → wpList P ops Q rest a w1) : wpList P ops Q (o :: rest) a W := by
  have hr := run_store_run (P := P) (o := 0) t u cs.toList hb (by rw [hc]) (by rw [hi]; simp) (by simp [hs]) h1
  refine wpList_plain hgd fun K hK => ?_
  have hx : (execOp a.eval o).run P W = .ok .skip (W.setCells g 0 cs.toList) := by
    simp [execOp, ho, hp, hv, hr]
  unfold Oper.wp
  rw [hx]
  show K (a.put o.dst undef) _
  rw [hN]
  obtain ⟨k1, k2⟩ := cells_put hb hs
  exact hK _ _ (h _ k1 k2)
end
theorem Save.mono {S T : Nat → Prop} {w w' : World} (h : Save S w w') (hST : ∀ k, S k → T k) : Save T w w' := ⟨h.os, h.tape, h.output, h.size, fun k hk hs => h.block k hk (fun x => hs (hST k x))⟩
theorem Save.newer {S : Nat → Prop} {w a b : World} {g : Nat} (h : Save S w a) (k : Save (fun k => k = g) a b) (hg : w.heap.size ≤ g) : Save S w b :=
  ⟨k.os.trans h.os, k.tape.trans h.tape, k.output.trans h.output, Nat.le_trans h.size k.size, fun i hi hs => (k.block i (Nat.lt_of_lt_of_le hi h.size) (by omega)).trans (h.block i hi hs)⟩
theorem Save.belowed {S : Nat → Prop} {w a b : World} (h : Save S w a) (k : Below a.heap.size a b) : Save S w b := h.then (Save.of k)
def Seen (g : Nat) (W : World) : Prop := W.heap[g]? = some (.cells #[.int .i64 34] 3 (0, 0))

set_option maxHeartbeats 8000000 in
set_option maxRecDepth 100000 in
/-- GuardInner's closure, where it panics. -/
theorem inner12_pan (how n : Int) (s : ByteArray) (hs : s.size ≤ 40) (hh : 0 ≤ how ∧ how ≤ 255) (hn : -32768 ≤ n ∧ n ≤ 32767) (x : Int) (b4 b5 b6 b7 b9 : Nat) (W : World)
    (k4 : W.heap[b4]? = some (.cells #[.int .u8 how] 5 (0, 0))) (k5 : W.heap[b5]? = some (.cells #[.string s] 9 (0, 0))) (k6 : W.heap[b6]? = some (.cells #[.int .i16 n] 27 (0, 0))) (k7 : W.heap[b7]? = some (.cells #[.bool true] 4 (0, 0))) (k9 : W.heap[b9]? = some (.cells #[.int .i64 x] 3 (0, 0)))
    (n4 : b4 ≠ b9) (n5 : b5 ≠ b9) (n6 : b6 ≠ b9) (n7 : b7 ≠ b9) :
    Calls Tryd.prog 12 #[.pointer (some ⟨b4, 0, none⟩), .pointer (some ⟨b5, 0, none⟩), .pointer (some ⟨b6, 0, none⟩), .pointer (some ⟨b9, 0, none⟩), .pointer (some ⟨b7, 0, none⟩)] W fun e W' => Pan (decide (how % 5 = 1)) e ∧ Save (fun k => k = b9) W W' ∧ Seen b9 W' := by
  have H0 := Aside0.mk hh
  have H1 := Aside0.mk hn
  have hw : IntKind.i64.wrap n = n := by rw [IntKind.wrap_i64]; omega
  have K4 := Aside0.mk k4
  have K5 := Aside0.mk k5
  have K6 := Aside0.mk k6
  have K7 := Aside0.mk k7
  have K9 := Aside0.mk k9
  have HN := Aside0.mk (show b4 ≠ b9 ∧ b5 ≠ b9 ∧ b6 ≠ b9 ∧ b7 ≠ b9 from ⟨n4, n5, n6, n7⟩)
  have HS := Aside0.mk (show s.size ≤ 100 by omega)
  clear hh hn k4 k5 k6 k7 k9 n4 n5 n6 n7 hs
  go_enter Tryd.func12, Tryd.ntmps12
  go_upto_region 1 with (first
    | ((with_reducible refine gate_dst (N := 5) rfl ?_); refine box_event ?hg (N := 5) ?hd (cs := #[.int .i64 0, .int .i64 0, .float .f64 0, .string ⟨#[]⟩, .slice none 0 0]) (t := 31) ?hr ?_; (case hd => rfl); (case hg => rfl); (case hr => first | (go_simp; done) | (go_simp; rfl)); intro g5 hg w1 hbox hb; have HB := Aside0.mk (Save.of (S := fun k => k = b9) hb); have HG5 := Aside0.mk (show W.heap.size ≤ g5 by omega); have HM := Aside0.mk (show b9 < g5 by (have := blk_lt K9.out; omega)); have K4 := Aside0.mk (blk_below K4.out hb); have K5 := Aside0.mk (blk_below K5.out hb); have K6 := Aside0.mk (blk_below K6.out hb); have K7 := Aside0.mk (blk_below K7.out hb); have K9 := Aside0.mk (blk_below K9.out hb); have K5r := Aside0.mk hbox; clear hg hbox hb))
  have c4 : w1.cell? ⟨b4, 0, none⟩ = some (.int .u8 how) := blk_cell K4.out 0
  have c5 : w1.cell? ⟨b5, 0, none⟩ = some (.string s) := blk_cell K5.out 0
  have c6 : w1.cell? ⟨b6, 0, none⟩ = some (.int .i16 n) := blk_cell K6.out 0
  go_upto_region 2 with (first
    | (go_at_call 13; refine (rises13 _ _ _ _).mono ?_; rintro e w2 ⟨hb, a', b', c', rfl, ha, hbb, hc⟩; have HB := Aside0.mk (HB.out.belowed hb); have K4 := Aside0.mk (blk_below K4.out hb); have K5 := Aside0.mk (blk_below K5.out hb); have K6 := Aside0.mk (blk_below K6.out hb); have K7 := Aside0.mk (blk_below K7.out hb); have K9 := Aside0.mk (blk_below K9.out hb); have K5r := Aside0.mk (blk_below K5r.out hb); have A3 := Aside0.mk ha; have A4 := Aside0.mk hbb; have A5 := Aside0.mk hc; clear hb ha hbb hc)
    | (go_at_call 11; refine (run_rises a' b' c' how n s HS.out H0.out.1 _ A3.out A4.out A5.out).mono ?_; rintro e w3 ⟨rfl, hb⟩; have HB := Aside0.mk (HB.out.belowed hb); have K4 := Aside0.mk (blk_below K4.out hb); have K5 := Aside0.mk (blk_below K5.out hb); have K6 := Aside0.mk (blk_below K6.out hb); have K7 := Aside0.mk (blk_below K7.out hb); have K9 := Aside0.mk (blk_below K9.out hb); have K5r := Aside0.mk (blk_below K5r.out hb); clear hb)
    | ((with_reducible refine gate_dst (N := 7) rfl ?_); refine box_event ?hg (N := 7) ?hd (cs := #[.int .i64 0, .int .i64 0, .float .f64 0, .string ⟨#[]⟩, .slice none 0 0]) (t := 31) ?hr ?_; (case hd => rfl); (case hg => rfl); (case hr => first | (go_simp; done) | (go_simp; rfl)); intro g7 hg w4 hbox hb; have HG7 := Aside0.mk (show W.heap.size ≤ g7 ∧ b9 < g7 ∧ g5 < g7 ∧ b4 < g7 ∧ b5 < g7 ∧ b6 < g7 ∧ b7 < g7 by (have h1_ := HB.out.size; have h2_ := blk_lt K9.out; have h3_ := blk_lt K5r.out; have h4_ := blk_lt K4.out; have h5_ := blk_lt K5.out; have h6_ := blk_lt K6.out; have h7_ := blk_lt K7.out; omega)); have HB := Aside0.mk (HB.out.belowed hb); have K4 := Aside0.mk (blk_below K4.out hb); have K5 := Aside0.mk (blk_below K5.out hb); have K6 := Aside0.mk (blk_below K6.out hb); have K7 := Aside0.mk (blk_below K7.out hb); have K9 := Aside0.mk (blk_below K9.out hb); have K5r := Aside0.mk (blk_below K5r.out hb); have K7r := Aside0.mk hbox; clear hg hbox hb)
    | ((with_reducible refine gate_store (t := 31) (p := 7) rfl ?_); refine put_eventU ?hg (t := 31) (p := 7) (v := .tmp 16) ?ho ?hN (g := g7) (u := .agg #[.int .i64 0, .int .i64 0, .float .f64 0, .string ⟨#[]⟩, .slice none 0 0]) (cs := #[.int .i64 0, .int .i64 0, .float .f64 0, .string ⟨#[]⟩, .slice none 0 0]) ?hp ?hv K7r.out ?hs ?hi ?h1 ?hc ?_; (case hs => rfl); (case hi => kernel_rfl); (case h1 => simp [Value.oneCell']); (case hc => simp [Value.cells]); (case hg => rfl); (case ho => rfl); (case hN => rfl); (case hp => rfl); (case hv => rfl); intro w5 hk hs; have HB := Aside0.mk (HB.out.newer hs HG7.out.1); have K4 := Aside0.mk (hs.blk K4.out (by have := HG7.out; omega)); have K5 := Aside0.mk (hs.blk K5.out (by have := HG7.out; omega)); have K6 := Aside0.mk (hs.blk K6.out (by have := HG7.out; omega)); have K7 := Aside0.mk (hs.blk K7.out (by have := HG7.out; omega)); have K9 := Aside0.mk (hs.blk K9.out (by have := HG7.out; omega)); have K5r := Aside0.mk (hs.blk K5r.out (by have := HG7.out; omega)); clear hk hs))
  clear c4 c5 c6
  go_upto_region 3 with (first
    | ((with_reducible refine gate_store (t := 3) (p := 3) rfl ?_); refine put_eventU ?hg (t := 3) (p := 3) (v := .tmp 18) ?ho ?hN (g := b9) (u := .int .i64 34) (cs := #[.int .i64 34]) ?hp ?hv K9.out ?hs ?hi ?h1 ?hc ?_; (case hs => rfl); (case hi => kernel_rfl); (case h1 => simp [Value.oneCell']); (case hc => simp [Value.cells]); (case hg => rfl); (case ho => rfl); (case hN => rfl); (case hp => rfl); (case hv => rfl); intro w6 hk hs; have HB := Aside0.mk (HB.out.then hs); have K9 := Aside0.mk hk; have K4 := Aside0.mk (hs.blk K4.out HN.out.1); have K5 := Aside0.mk (hs.blk K5.out HN.out.2.1); have K6 := Aside0.mk (hs.blk K6.out HN.out.2.2.1); have K7 := Aside0.mk (hs.blk K7.out HN.out.2.2.2); have K5r := Aside0.mk (hs.blk K5r.out (by have := HM.out; omega)); clear hk hs))
  have c4 : w6.cell? ⟨b4, 0, none⟩ = some (.int .u8 how) := blk_cell K4.out 0
  have c5 : w6.cell? ⟨b5, 0, none⟩ = some (.string s) := blk_cell K5.out 0
  have c6 : w6.cell? ⟨b6, 0, none⟩ = some (.int .i16 n) := blk_cell K6.out 0
  have c7 : w6.cell? ⟨b7, 0, none⟩ = some (.bool true) := blk_cell K7.out 0
  go_wp2_with (go_at_call 10; refine (raise10 how n s HS.out H0.out.1 _).mono ?_; rintro e w7 ⟨⟨v, rfl, hv⟩, hb⟩; have HB := Aside0.mk (HB.out.belowed hb); have K9 := Aside0.mk (blk_below K9.out hb); have HV := Aside0.mk hv; clear hb hv)
  exact ⟨rfl, ⟨_, rfl, HV.out⟩, HB.out, K9.out⟩

set_option maxHeartbeats 8000000 in
set_option maxRecDepth 100000 in
/-- GuardInner's closure, where it returns. -/
theorem inner12_ok (how n : Int) (s : ByteArray) (hs : s.size ≤ 40) (hh : 0 ≤ how ∧ how ≤ 255) (hn : -32768 ≤ n ∧ n ≤ 32767) (x : Int) (b4 b5 b6 b7 b9 : Nat) (W : World)
    (k4 : W.heap[b4]? = some (.cells #[.int .u8 how] 5 (0, 0))) (k5 : W.heap[b5]? = some (.cells #[.string s] 9 (0, 0))) (k6 : W.heap[b6]? = some (.cells #[.int .i16 n] 27 (0, 0))) (k7 : W.heap[b7]? = some (.cells #[.bool false] 4 (0, 0))) (k9 : W.heap[b9]? = some (.cells #[.int .i64 x] 3 (0, 0)))
    (n4 : b4 ≠ b9) (n5 : b5 ≠ b9) (n6 : b6 ≠ b9) (n7 : b7 ≠ b9) :
    Calls Tryd.prog 12 #[.pointer (some ⟨b4, 0, none⟩), .pointer (some ⟨b5, 0, none⟩), .pointer (some ⟨b6, 0, none⟩), .pointer (some ⟨b9, 0, none⟩), .pointer (some ⟨b7, 0, none⟩)] W fun e W' => e = .returned (.tuple #[.agg #[.int .i64 1, .int .i64 n, .float .f64 0, .string ⟨#[]⟩, .slice none 0 0], .int .i64 0]) ∧ Save (fun k => k = b9) W W' ∧ Seen b9 W' := by
  have H0 := Aside0.mk hh
  have H1 := Aside0.mk hn
  have hw : IntKind.i64.wrap n = n := by rw [IntKind.wrap_i64]; omega
  have K4 := Aside0.mk k4
  have K5 := Aside0.mk k5
  have K6 := Aside0.mk k6
  have K7 := Aside0.mk k7
  have K9 := Aside0.mk k9
  have HN := Aside0.mk (show b4 ≠ b9 ∧ b5 ≠ b9 ∧ b6 ≠ b9 ∧ b7 ≠ b9 from ⟨n4, n5, n6, n7⟩)
  have HS := Aside0.mk (show s.size ≤ 100 by omega)
  clear hh hn k4 k5 k6 k7 k9 n4 n5 n6 n7 hs
  go_enter Tryd.func12, Tryd.ntmps12
  go_upto_region 1 with (first
    | ((with_reducible refine gate_dst (N := 5) rfl ?_); refine box_event ?hg (N := 5) ?hd (cs := #[.int .i64 0, .int .i64 0, .float .f64 0, .string ⟨#[]⟩, .slice none 0 0]) (t := 31) ?hr ?_; (case hd => rfl); (case hg => rfl); (case hr => first | (go_simp; done) | (go_simp; rfl)); intro g5 hg w1 hbox hb; have HB := Aside0.mk (Save.of (S := fun k => k = b9) hb); have HG5 := Aside0.mk (show W.heap.size ≤ g5 by omega); have HM := Aside0.mk (show b9 < g5 by (have := blk_lt K9.out; omega)); have K4 := Aside0.mk (blk_below K4.out hb); have K5 := Aside0.mk (blk_below K5.out hb); have K6 := Aside0.mk (blk_below K6.out hb); have K7 := Aside0.mk (blk_below K7.out hb); have K9 := Aside0.mk (blk_below K9.out hb); have K5r := Aside0.mk hbox; clear hg hbox hb))
  have c4 : w1.cell? ⟨b4, 0, none⟩ = some (.int .u8 how) := blk_cell K4.out 0
  have c5 : w1.cell? ⟨b5, 0, none⟩ = some (.string s) := blk_cell K5.out 0
  have c6 : w1.cell? ⟨b6, 0, none⟩ = some (.int .i16 n) := blk_cell K6.out 0
  go_upto_region 2 with (first
    | (go_at_call 13; refine (rises13 _ _ _ _).mono ?_; rintro e w2 ⟨hb, a', b', c', rfl, ha, hbb, hc⟩; have HB := Aside0.mk (HB.out.belowed hb); have K4 := Aside0.mk (blk_below K4.out hb); have K5 := Aside0.mk (blk_below K5.out hb); have K6 := Aside0.mk (blk_below K6.out hb); have K7 := Aside0.mk (blk_below K7.out hb); have K9 := Aside0.mk (blk_below K9.out hb); have K5r := Aside0.mk (blk_below K5r.out hb); have A3 := Aside0.mk ha; have A4 := Aside0.mk hbb; have A5 := Aside0.mk hc; clear hb ha hbb hc)
    | (go_at_call 11; refine (run_rises a' b' c' how n s HS.out H0.out.1 _ A3.out A4.out A5.out).mono ?_; rintro e w3 ⟨rfl, hb⟩; have HB := Aside0.mk (HB.out.belowed hb); have K4 := Aside0.mk (blk_below K4.out hb); have K5 := Aside0.mk (blk_below K5.out hb); have K6 := Aside0.mk (blk_below K6.out hb); have K7 := Aside0.mk (blk_below K7.out hb); have K9 := Aside0.mk (blk_below K9.out hb); have K5r := Aside0.mk (blk_below K5r.out hb); clear hb)
    | ((with_reducible refine gate_dst (N := 7) rfl ?_); refine box_event ?hg (N := 7) ?hd (cs := #[.int .i64 0, .int .i64 0, .float .f64 0, .string ⟨#[]⟩, .slice none 0 0]) (t := 31) ?hr ?_; (case hd => rfl); (case hg => rfl); (case hr => first | (go_simp; done) | (go_simp; rfl)); intro g7 hg w4 hbox hb; have HG7 := Aside0.mk (show W.heap.size ≤ g7 ∧ b9 < g7 ∧ g5 < g7 ∧ b4 < g7 ∧ b5 < g7 ∧ b6 < g7 ∧ b7 < g7 by (have h1_ := HB.out.size; have h2_ := blk_lt K9.out; have h3_ := blk_lt K5r.out; have h4_ := blk_lt K4.out; have h5_ := blk_lt K5.out; have h6_ := blk_lt K6.out; have h7_ := blk_lt K7.out; omega)); have HB := Aside0.mk (HB.out.belowed hb); have K4 := Aside0.mk (blk_below K4.out hb); have K5 := Aside0.mk (blk_below K5.out hb); have K6 := Aside0.mk (blk_below K6.out hb); have K7 := Aside0.mk (blk_below K7.out hb); have K9 := Aside0.mk (blk_below K9.out hb); have K5r := Aside0.mk (blk_below K5r.out hb); have K7r := Aside0.mk hbox; clear hg hbox hb)
    | ((with_reducible refine gate_store (t := 31) (p := 7) rfl ?_); refine put_eventU ?hg (t := 31) (p := 7) (v := .tmp 16) ?ho ?hN (g := g7) (u := .agg #[.int .i64 0, .int .i64 0, .float .f64 0, .string ⟨#[]⟩, .slice none 0 0]) (cs := #[.int .i64 0, .int .i64 0, .float .f64 0, .string ⟨#[]⟩, .slice none 0 0]) ?hp ?hv K7r.out ?hs ?hi ?h1 ?hc ?_; (case hs => rfl); (case hi => kernel_rfl); (case h1 => simp [Value.oneCell']); (case hc => simp [Value.cells]); (case hg => rfl); (case ho => rfl); (case hN => rfl); (case hp => rfl); (case hv => rfl); intro w5 hk hs; have HB := Aside0.mk (HB.out.newer hs HG7.out.1); have K4 := Aside0.mk (hs.blk K4.out (by have := HG7.out; omega)); have K5 := Aside0.mk (hs.blk K5.out (by have := HG7.out; omega)); have K6 := Aside0.mk (hs.blk K6.out (by have := HG7.out; omega)); have K7 := Aside0.mk (hs.blk K7.out (by have := HG7.out; omega)); have K9 := Aside0.mk (hs.blk K9.out (by have := HG7.out; omega)); have K5r := Aside0.mk (hs.blk K5r.out (by have := HG7.out; omega)); clear hk hs))
  clear c4 c5 c6
  go_upto_region 3 with (first
    | ((with_reducible refine gate_store (t := 3) (p := 3) rfl ?_); refine put_eventU ?hg (t := 3) (p := 3) (v := .tmp 18) ?ho ?hN (g := b9) (u := .int .i64 34) (cs := #[.int .i64 34]) ?hp ?hv K9.out ?hs ?hi ?h1 ?hc ?_; (case hs => rfl); (case hi => kernel_rfl); (case h1 => simp [Value.oneCell']); (case hc => simp [Value.cells]); (case hg => rfl); (case ho => rfl); (case hN => rfl); (case hp => rfl); (case hv => rfl); intro w6 hk hs; have HB := Aside0.mk (HB.out.then hs); have K9 := Aside0.mk hk; have K4 := Aside0.mk (hs.blk K4.out HN.out.1); have K5 := Aside0.mk (hs.blk K5.out HN.out.2.1); have K6 := Aside0.mk (hs.blk K6.out HN.out.2.2.1); have K7 := Aside0.mk (hs.blk K7.out HN.out.2.2.2); have K5r := Aside0.mk (hs.blk K5r.out (by have := HM.out; omega)); clear hk hs))
  have c4 : w6.cell? ⟨b4, 0, none⟩ = some (.int .u8 how) := blk_cell K4.out 0
  have c5 : w6.cell? ⟨b5, 0, none⟩ = some (.string s) := blk_cell K5.out 0
  have c6 : w6.cell? ⟨b6, 0, none⟩ = some (.int .i16 n) := blk_cell K6.out 0
  have c7 : w6.cell? ⟨b7, 0, none⟩ = some (.bool false) := blk_cell K7.out 0
  go_wp2_with (first
    | (go_at_call 14; refine (int14 n _).mono ?_; rintro e w7 ⟨rfl, hb⟩; have HB := Aside0.mk (HB.out.belowed hb); have K9 := Aside0.mk (blk_below K9.out hb); have K5r := Aside0.mk (blk_below K5r.out hb); clear hb)
    | ((with_reducible refine gate_store (t := 31) (p := 5) rfl ?_); refine put_eventU ?hg (t := 31) (p := 5) (v := .tmp 27) ?ho ?hN (g := g5) (u := .agg #[.int .i64 1, .int .i64 n, .float .f64 0, .string ⟨#[]⟩, .slice none 0 0]) (cs := #[.int .i64 1, .int .i64 n, .float .f64 0, .string ⟨#[]⟩, .slice none 0 0]) ?hp ?hv K5r.out ?hs ?hi ?h1 ?hc ?_; (case hs => rfl); (case hi => kernel_rfl); (case h1 => simp [Value.oneCell']); (case hc => simp [Value.cells]); (case hg => rfl); (case ho => rfl); (case hN => rfl); (case hp => rfl); (case hv => rfl); intro w8 hk hs; have HB := Aside0.mk (HB.out.newer hs HG5.out); have K9 := Aside0.mk (hs.blk K9.out (by have := HM.out; omega)); have K5r := Aside0.mk hk; clear hk hs))
  have q0 := blk_cell K5r.out 0
  have q1 := blk_cell K5r.out 1
  have q2 := blk_cell K5r.out 2
  have q3 := blk_cell K5r.out 3
  have q4 := blk_cell K5r.out 4
  simp at q0 q1 q2 q3 q4
  refine bodyPost_ret (v := .tuple #[.agg #[.int .i64 1, .int .i64 n, .float .f64 0, .string ⟨#[]⟩, .slice none 0 0], .int .i64 0]) ?_ rfl ⟨rfl, HB.out, K9.out⟩
  simp [results, Tryd.results12, go_sem, q0, q1, q2, q3, q4]
end Go.Proofs.YtpalofbphmjijaaDoor.Gd
