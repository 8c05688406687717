import Derived.Test.YtpalofbphmjijaaDoorGdKnown1
namespace Go.Proofs.YtpalofbphmjijaaDoor.Gd
open Go.RowKit Go.Proofs.YtpalofbphmjijaaDoorW.PrintWords
set_option linter.unusedVariables false
set_option linter.unusedSimpArgs false
attribute [local go_sem] store_float

theorem cells_put {W : World} {g : Nat} {cur cs : Array Value} {e : TypeId} (hb : W.heap[g]? = some (.cells cur e (0, 0))) (hs : cur.size = cs.size) :
    (W.setCells g 0 cs.toList).heap[g]? = some (.cells cs e (0, 0)) ∧ Save (fun k => k = g) W (W.setCells g 0 cs.toList) := by
  obtain ⟨cur', h1, h2, h3⟩ := setCells_row cs.toList 0 W cur hb (by simp [hs])
  obtain ⟨s1, s2, s3, s4⟩ := setCells_same g cs.toList 0 W
  have e : cur' = cs := by
    apply Array.toList_inj.1
    rw [h3]; simp [hs.symm]
  rw [e] at h1
  exact ⟨h1, s1, s2, s3, by rw [s4]; exact Nat.le_refl _, fun k _ hk => setCells_far _ _ k hk⟩

section
variable {P : Program} {ops : Array Oper} {rest : List Oper} {o : Oper} {a : Act} {Q : Exit → Act → World → Prop}
theorem put_event {W : World} (hgd : o.guard = none) {t : TypeId} {p : Tmp} {v : Operand} (ho : o.op = .store t (.tmp p) v) (hN : o.dst = none) {g : Nat} {cur cs : Array Value} {e : TypeId}
    (hp : a.eval (.tmp p) = .pointer (some ⟨g, 0, none⟩)) (hv : a.eval v = .agg cs) (hb : W.heap[g]? = some (.cells cur e (0, 0))) (hs : cur.size = cs.size) (hi : (P.info? t).map (·.size) = some cs.size) (h1 : ∀ q ∈ cs.toList, q.oneCell' = true) (hc : (Value.agg cs).cells = cs)
    (h : ∀ w1, w1.heap[g]? = some (.cells cs e (0, 0)) → Save (fun k => k = g) W w1 → wpList P ops Q rest a w1) : wpList P ops Q (o :: rest) a W := by
  have hr := run_store_run (P := P) (o := 0) t (.agg cs) cs.toList hb (by rw [hc]) (by rw [hi]; simp) (by simp [hs]) h1
  refine wpList_plain hgd fun K hK => ?_
  have hx : (execOp a.eval o).run P W = .ok .skip (W.setCells g 0 cs.toList) := by
    simp [execOp, ho, hp, hv, hr]
  unfold Oper.wp
  rw [hx]
  show K (a.put o.dst undef) _
  rw [hN]
  obtain ⟨k1, k2⟩ := cells_put hb hs
  exact hK _ _ (h _ k1 k2)
end
/-- The first letters of such a text. -/
theorem cut14 (m : ByteArray) : ("runtime error: ".toUTF8 ++ m).extract 0 14 = ⟨#[114, 117, 110, 116, 105, 109, 101, 32, 101, 114, 114, 111, 114, 58]⟩ := by
  rw [ByteArray.extract_append]
  rw [show "runtime error: ".toUTF8.extract 0 14 = ⟨#[114, 117, 110, 116, 105, 109, 101, 32, 101, 114, 114, 111, 114, 58]⟩ from by decide +kernel]
  rw [show "runtime error: ".toUTF8.size = 15 from by decide +kernel]
  rw [show m.extract (0 - 15) (14 - 15) = ByteArray.empty from by apply ByteArray.ext; simp]
  rfl
theorem size15 (m : ByteArray) : 14 < ("runtime error: ".toUTF8 ++ m).size := by
  rw [ByteArray.size_append, show "runtime error: ".toUTF8.size = 15 from by decide +kernel]; omega
theorem Text.cut {t : ByteArray} (h : Text false t) : 14 < t.size ∧ t.extract 0 14 = ⟨#[114, 117, 110, 116, 105, 109, 101, 32, 101, 114, 114, 111, 114, 58]⟩ := by
  rcases h with ⟨h, _⟩ | ⟨_, m, rfl⟩
  · cases h
  · exact ⟨size15 m, cut14 m⟩
theorem Text.cut' {t : ByteArray} (h : Text true t) : 10 < t.size ∧ t.extract 0 10 = ⟨#[97, 115, 115, 105, 103, 110, 109, 101, 110, 116]⟩ := by
  rcases h with ⟨_, rfl⟩ | ⟨h, _⟩
  · exact ⟨by decide +kernel, by decide +kernel⟩
  · cases h
/-- Told of a closure that returns, and changes nothing. -/
theorem told_idle (w : World) : Calls Tryd.prog 8 #[.func (.func 22) #[] #[]] w fun e w' => e = .returned (.tuple #[.string ⟨#[]⟩, .bool false]) ∧ Below w.heap.size w w' := by
  refine (told8_ret 22 #[] w (fun W' => Below w.heap.size w W') enters22 ((known22 _).mono ?_)).mono ?_
  · rintro e W' ⟨rfl, rfl⟩
    exact ⟨rfl, boxes w, below_boxes w⟩
  · rintro e w' ⟨W', rfl, hQ, rfl⟩
    exact ⟨rfl, (hQ.setCell (Nat.le_refl _) _).setCell (by show _ ≤ w.heap.size + 1; omega) _⟩
theorem below_keep {w W W' : World} {g : Nat} (h : Below w.heap.size w W) (hg : w.heap.size ≤ g) (k : Save (fun k => k = g) W W') : Below w.heap.size w W' :=
  ⟨k.os.trans h.os, k.tape.trans h.tape, k.output.trans h.output, Nat.le_trans h.size k.size, fun i hi => (k.block i (Nat.lt_of_lt_of_le hi h.size) (by omega)).trans (h.block i hi)⟩

set_option maxHeartbeats 8000000 in
set_option maxRecDepth 100000 in
/-- known. -/
theorem known7 (w : World) : Calls Tryd.prog 7 #[] w fun e w' => e = .returned (.bool true) ∧ Below w.heap.size w w' := by
  have HB := Aside0.mk (Below.refl w.heap.size w)
  go_enter Tryd.func7, Tryd.ntmps7
  go_upto_region 5 with (first
    | (go_at_call 14; refine (int14 3 _).mono ?_; rintro e w1 ⟨rfl, hb⟩; have HB := Aside0.mk (below_step HB.out hb); clear hb)
    | (go_at_call 16; refine (told16 _ _ _ _ _ _ _ _ _).mono ?_; rintro e w2 ⟨hb, a, b, rfl, ha, hbb⟩; have HB := Aside0.mk (below_step HB.out hb); have A1 := Aside0.mk ha; have A2 := Aside0.mk hbb; clear hb ha hbb)
    | (go_at_call 13; refine (rises13 _ _ _ _).mono ?_; rintro e w5 ⟨hb, a', b', c', rfl, ha, hbb, hc⟩; have HB := Aside0.mk (below_step HB.out hb); have K1 := Aside0.mk (blk_below K1.out hb); have A3 := Aside0.mk ha; have A4 := Aside0.mk hbb; have A5 := Aside0.mk hc; clear hb ha hbb hc)
    | (go_at_call 11; refine (run_rises a' b' c' 0 0 ⟨#[120]⟩ (by decide) (by decide) _ A3.out A4.out A5.out).mono ?_; rintro e w6 ⟨rfl, hb⟩; have HB := Aside0.mk (below_step HB.out hb); have K1 := Aside0.mk (blk_below K1.out hb); clear hb)
    | (go_at_call 11; refine (run_told0 1 3 0 ⟨#[]⟩ none 0 0 a b _ A1.out A2.out).mono ?_; rintro e w3 ⟨rfl, hb⟩; have HB := Aside0.mk (below_step HB.out hb); clear hb)
    | (go_at_call 8; refine (told_idle _).mono ?_; rintro e w8 ⟨rfl, hb⟩; have HB := Aside0.mk (below_step HB.out hb); have K1 := Aside0.mk (blk_below K1.out hb); clear hb)
    | (go_at_call 8; refine (told_panics 21 #[] false _ enters21 (fun W _ => known21 W)).mono ?_; rintro e w7 ⟨⟨t, rfl, ht⟩, hb⟩; have HB := Aside0.mk (below_step HB.out hb); have K1 := Aside0.mk (blk_below K1.out hb); have HT := Aside0.mk ht; clear hb ht)
    | ((with_reducible refine gate_dst (N := 1) rfl ?_); refine box_event ?hg (N := 1) ?hd (cs := #[.int .i64 0, .int .i64 0, .float .f64 0, .string ⟨#[]⟩, .slice none 0 0]) (t := 31) ?hr ?_; (case hd => rfl); (case hg => rfl); (case hr => first | (go_simp; done) | (go_simp; rfl)); intro g1 hg w4 hbox hb; have HG := Aside0.mk (show w.heap.size ≤ g1 by (have := HB.out.size; omega)); have K1 := Aside0.mk hbox; have HB := Aside0.mk (below_step HB.out hb); clear hg hbox hb)
    | ((with_reducible refine gate_dst (N := 3) rfl ?_); refine box_event ?hg (N := 3) ?hd (cs := #[.int .i64 0, .int .i64 0, .float .f64 0, .string ⟨#[]⟩, .slice none 0 0]) (t := 31) ?hr ?_; (case hd => rfl); (case hg => rfl); (case hr => first | (go_simp; done) | (go_simp; rfl)); intro g2 hg w9 hbox hb; have HG2 := Aside0.mk (show w.heap.size ≤ g2 ∧ g1 ≠ g2 by (have h1_ := HB.out.size; have h2_ := blk_lt K1.out; omega)); have K2 := Aside0.mk hbox; have HB := Aside0.mk (below_step HB.out hb); have K1 := Aside0.mk (blk_below K1.out hb); clear hg hbox hb)
    | ((with_reducible refine gate_store (t := 31) (p := 1) rfl ?_); refine put_event ?hg (t := 31) (p := 1) (v := .tmp 13) ?ho ?hN (g := g1) (cs := #[.int .i64 1, .int .i64 3, .float .f64 0, .string ⟨#[]⟩, .slice none 0 0]) ?hp ?hv K1.out ?hs ?hi ?h1 ?hc ?_; (case hs => rfl); (case hi => kernel_rfl); (case h1 => simp [Value.oneCell']); (case hc => simp [Value.cells]); (case hg => rfl); (case ho => rfl); (case hN => rfl); (case hp => rfl); (case hv => rfl); intro w10 hk hs; have HB := Aside0.mk (below_keep HB.out HG.out hs); have K1 := Aside0.mk hk; clear hk hs)
    | ((with_reducible refine gate_store (t := 31) (p := 3) rfl ?_); refine put_event ?hg (t := 31) (p := 3) (v := .tmp 18) ?ho ?hN (g := g2) (cs := #[.int .i64 0, .int .i64 0, .float .f64 0, .string ⟨#[]⟩, .slice none 0 0]) ?hp ?hv K2.out ?hs ?hi ?h1 ?hc ?_; (case hs => rfl); (case hi => kernel_rfl); (case h1 => simp [Value.oneCell']); (case hc => simp [Value.cells]); (case hg => rfl); (case ho => rfl); (case hN => rfl); (case hp => rfl); (case hv => rfl); intro w11 hk hs; have HB := Aside0.mk (below_keep HB.out HG2.out.1 hs); have K1 := Aside0.mk (hs.blk K1.out HG2.out.2); clear hk hs))
  have c1 : w8.cell? ⟨g1, 1, none⟩ = some (.int .i64 3) := blk_cell K1.out 1
  obtain ⟨hl, hx⟩ := HT.out.cut
  have n1 : (0 : Int) ≤ 14 := by decide
  go_wp2
  go_ret
  exact ⟨rfl, HB.out⟩
end Go.Proofs.YtpalofbphmjijaaDoor.Gd
