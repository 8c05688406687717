import Derived.Test.YtpalofbphmjijaaDoorGdKnown2
namespace Go.Proofs.YtpalofbphmjijaaDoor.Gd
open Go.RowKit Go.Proofs.YtpalofbphmjijaaDoorW.PrintWords
set_option linter.unusedVariables false
set_option linter.unusedSimpArgs false
attribute [local go_sem] store_float

set_option maxHeartbeats 8000000 in
set_option maxRecDepth 100000 in
theorem tells3_long (how n : Int) (s : ByteArray) (h : 40 < s.size) (w : World) : Calls Tryd.prog 3 #[.int .u8 how, .string s, .int .i32 n] w fun e w' => e = .returned (.bool true) ∧ Below w.heap.size w w' := by
  have hmf : ∀ (fn : Fn) (first cap : Array Value) (w : World), (Instr.makeFunc fn first cap).run Tryd.prog w = .ok (.func fn first cap) w := fun _ _ _ _ => rfl
  go_enter Tryd.func3, Tryd.ntmps3
  go_upto_region 3 with (first
    | ((with_reducible refine gate_dst (N := 3) rfl ?_); refine box_event ?hg (N := 3) ?hd (cs := #[.int .u8 how]) (t := 5) ?hr ?_; (case hd => rfl); (case hg => rfl); (case hr => first | (go_simp; done) | (go_simp; rfl)); intro g1 hg w1 hbox hb; have HB := Aside0.mk hb; have K1 := Aside0.mk hbox; clear hg hbox hb)
    | ((with_reducible refine gate_dst (N := 4) rfl ?_); refine box_event ?hg (N := 4) ?hd (cs := #[.string s]) (t := 9) ?hr ?_; (case hd => rfl); (case hg => rfl); (case hr => first | (go_simp; done) | (go_simp; rfl)); intro g2 hg w2 hbox hb; have K1 := Aside0.mk (blk_below K1.out hb); have K2 := Aside0.mk hbox; have HB := Aside0.mk (below_step HB.out hb); clear hg hbox hb)
    | ((with_reducible refine gate_dst (N := 5) rfl ?_); refine box_event ?hg (N := 5) ?hd (cs := #[.int .i32 n]) (t := 21) ?hr ?_; (case hd => rfl); (case hg => rfl); (case hr => first | (go_simp; done) | (go_simp; rfl)); intro g3 hg w3 hbox hb; have K1 := Aside0.mk (blk_below K1.out hb); have K2 := Aside0.mk (blk_below K2.out hb); have K3 := Aside0.mk hbox; have HB := Aside0.mk (below_step HB.out hb); clear hg hbox hb)
    | (go_at_call 7; refine (known7 _).mono ?_; rintro e w4 ⟨rfl, hb⟩; have K1 := Aside0.mk (blk_below K1.out hb); have K2 := Aside0.mk (blk_below K2.out hb); have K3 := Aside0.mk (blk_below K3.out hb); have HB := Aside0.mk (below_step HB.out hb); clear hb)
    | fail)
  have c2 : w4.cell? ⟨g2, 0, none⟩ = some (.string s) := blk_cell K2.out 0
  go_wp2
  go_ret
  exact ⟨rfl, HB.out⟩

set_option maxHeartbeats 8000000 in
set_option maxRecDepth 100000 in
theorem tells3_other (how n : Int) (s : ByteArray) (hs : s.size ≤ 40) (hh : 0 ≤ how ∧ how ≤ 255) (hn : -2147483648 ≤ n ∧ n ≤ 2147483647) (h5 : ¬ how % 5 = 1) (w : World) : Calls Tryd.prog 3 #[.int .u8 how, .string s, .int .i32 n] w fun e w' => e = .returned (.bool true) ∧ Below w.heap.size w w' := by
  have H0 := Aside0.mk hh
  have H1 := Aside0.mk hn
  have H2 := Aside0.mk h5
  clear hn
  have hmf : ∀ (fn : Fn) (first cap : Array Value) (w : World), (Instr.makeFunc fn first cap).run Tryd.prog w = .ok (.func fn first cap) w := fun _ _ _ _ => rfl
  go_enter Tryd.func3, Tryd.ntmps3
  go_upto_region 3 with (first
    | ((with_reducible refine gate_dst (N := 3) rfl ?_); refine box_event ?hg (N := 3) ?hd (cs := #[.int .u8 how]) (t := 5) ?hr ?_; (case hd => rfl); (case hg => rfl); (case hr => first | (go_simp; done) | (go_simp; rfl)); intro g1 hg w1 hbox hb; have HB := Aside0.mk hb; have K1 := Aside0.mk hbox; clear hg hbox hb)
    | ((with_reducible refine gate_dst (N := 4) rfl ?_); refine box_event ?hg (N := 4) ?hd (cs := #[.string s]) (t := 9) ?hr ?_; (case hd => rfl); (case hg => rfl); (case hr => first | (go_simp; done) | (go_simp; rfl)); intro g2 hg w2 hbox hb; have K1 := Aside0.mk (blk_below K1.out hb); have K2 := Aside0.mk hbox; have HB := Aside0.mk (below_step HB.out hb); clear hg hbox hb)
    | ((with_reducible refine gate_dst (N := 5) rfl ?_); refine box_event ?hg (N := 5) ?hd (cs := #[.int .i32 n]) (t := 21) ?hr ?_; (case hd => rfl); (case hg => rfl); (case hr => first | (go_simp; done) | (go_simp; rfl)); intro g3 hg w3 hbox hb; have K1 := Aside0.mk (blk_below K1.out hb); have K2 := Aside0.mk (blk_below K2.out hb); have K3 := Aside0.mk hbox; have HB := Aside0.mk (below_step HB.out hb); clear hg hbox hb)
    | (go_at_call 7; refine (known7 _).mono ?_; rintro e w4 ⟨rfl, hb⟩; have K1 := Aside0.mk (blk_below K1.out hb); have K2 := Aside0.mk (blk_below K2.out hb); have K3 := Aside0.mk (blk_below K3.out hb); have HB := Aside0.mk (below_step HB.out hb); clear hb)
    | fail)
  have c2 : w4.cell? ⟨g2, 0, none⟩ = some (.string s) := blk_cell K2.out 0
  go_upto_region 6 with (first
    | (go_at_call 8; refine (told_panics 9 _ (decide (how % 5 = 1)) _ enters9 (fun W hW => tells9 ⟨g1, 0, none⟩ ⟨g2, 0, none⟩ ⟨g3, 0, none⟩ how n s (by omega) H0.out.1 (by have := H1.out; omega) W (blk_cell (blk_below K1.out hW) 0) (blk_cell (blk_below K2.out hW) 0) (blk_cell (blk_below K3.out hW) 0))).mono ?_; rintro e w5 ⟨⟨t, rfl, ht⟩, hb⟩; have K1 := Aside0.mk (blk_below K1.out hb); have K2 := Aside0.mk (blk_below K2.out hb); have K3 := Aside0.mk (blk_below K3.out hb); have HB := Aside0.mk (below_step HB.out hb); have HT := Aside0.mk ht; clear hb ht))
  have c1 : w5.cell? ⟨g1, 0, none⟩ = some (.int .u8 how) := blk_cell K1.out 0
  have HT' : Text false t := by have := HT.out; rwa [show decide (how % 5 = 1) = false by simpa using H2.out] at this
  obtain ⟨hl, hx⟩ := HT'.cut
  have hm : (Int.tmod how 5 == 1) = false := by rw [Int.tmod_eq_emod_of_nonneg H0.out.1]; simpa using H2.out
  have hm' : (how % 5 == 1) = false := by simpa using H2.out
  clear hs hh h5
  go_wp2
  go_ret
  exact ⟨rfl, HB.out⟩

set_option maxHeartbeats 8000000 in
set_option maxRecDepth 100000 in
theorem tells3_map (how n : Int) (s : ByteArray) (hs : s.size ≤ 40) (hh : 0 ≤ how ∧ how ≤ 255) (hn : -2147483648 ≤ n ∧ n ≤ 2147483647) (h5 : how % 5 = 1) (w : World) : Calls Tryd.prog 3 #[.int .u8 how, .string s, .int .i32 n] w fun e w' => e = .returned (.bool true) ∧ Below w.heap.size w w' := by
  have H0 := Aside0.mk hh
  have H1 := Aside0.mk hn
  have H2 := Aside0.mk h5
  clear hn
  have hmf : ∀ (fn : Fn) (first cap : Array Value) (w : World), (Instr.makeFunc fn first cap).run Tryd.prog w = .ok (.func fn first cap) w := fun _ _ _ _ => rfl
  go_enter Tryd.func3, Tryd.ntmps3
  go_upto_region 3 with (first
    | ((with_reducible refine gate_dst (N := 3) rfl ?_); refine box_event ?hg (N := 3) ?hd (cs := #[.int .u8 how]) (t := 5) ?hr ?_; (case hd => rfl); (case hg => rfl); (case hr => first | (go_simp; done) | (go_simp; rfl)); intro g1 hg w1 hbox hb; have HB := Aside0.mk hb; have K1 := Aside0.mk hbox; clear hg hbox hb)
    | ((with_reducible refine gate_dst (N := 4) rfl ?_); refine box_event ?hg (N := 4) ?hd (cs := #[.string s]) (t := 9) ?hr ?_; (case hd => rfl); (case hg => rfl); (case hr => first | (go_simp; done) | (go_simp; rfl)); intro g2 hg w2 hbox hb; have K1 := Aside0.mk (blk_below K1.out hb); have K2 := Aside0.mk hbox; have HB := Aside0.mk (below_step HB.out hb); clear hg hbox hb)
    | ((with_reducible refine gate_dst (N := 5) rfl ?_); refine box_event ?hg (N := 5) ?hd (cs := #[.int .i32 n]) (t := 21) ?hr ?_; (case hd => rfl); (case hg => rfl); (case hr => first | (go_simp; done) | (go_simp; rfl)); intro g3 hg w3 hbox hb; have K1 := Aside0.mk (blk_below K1.out hb); have K2 := Aside0.mk (blk_below K2.out hb); have K3 := Aside0.mk hbox; have HB := Aside0.mk (below_step HB.out hb); clear hg hbox hb)
    | (go_at_call 7; refine (known7 _).mono ?_; rintro e w4 ⟨rfl, hb⟩; have K1 := Aside0.mk (blk_below K1.out hb); have K2 := Aside0.mk (blk_below K2.out hb); have K3 := Aside0.mk (blk_below K3.out hb); have HB := Aside0.mk (below_step HB.out hb); clear hb)
    | fail)
  have c2 : w4.cell? ⟨g2, 0, none⟩ = some (.string s) := blk_cell K2.out 0
  go_upto_region 6 with (first
    | (go_at_call 8; refine (told_panics 9 _ (decide (how % 5 = 1)) _ enters9 (fun W hW => tells9 ⟨g1, 0, none⟩ ⟨g2, 0, none⟩ ⟨g3, 0, none⟩ how n s (by omega) H0.out.1 (by have := H1.out; omega) W (blk_cell (blk_below K1.out hW) 0) (blk_cell (blk_below K2.out hW) 0) (blk_cell (blk_below K3.out hW) 0))).mono ?_; rintro e w5 ⟨⟨t, rfl, ht⟩, hb⟩; have K1 := Aside0.mk (blk_below K1.out hb); have K2 := Aside0.mk (blk_below K2.out hb); have K3 := Aside0.mk (blk_below K3.out hb); have HB := Aside0.mk (below_step HB.out hb); have HT := Aside0.mk ht; clear hb ht))
  have c1 : w5.cell? ⟨g1, 0, none⟩ = some (.int .u8 how) := blk_cell K1.out 0
  have HT' : Text true t := by have := HT.out; rwa [show decide (how % 5 = 1) = true by simpa using H2.out] at this
  obtain ⟨hl, hx⟩ := HT'.cut'
  have hm : (Int.tmod how 5 == 1) = true := by rw [Int.tmod_eq_emod_of_nonneg H0.out.1]; simpa using H2.out
  have hm' : (how % 5 == 1) = true := by simpa using H2.out
  clear hs hh h5
  go_wp2
  go_ret
  exact ⟨rfl, HB.out⟩

/-- GuardTells. -/
theorem tells3 (how n : Int) (s : ByteArray) (hh : 0 ≤ how ∧ how ≤ 255) (hn : -2147483648 ≤ n ∧ n ≤ 2147483647) (w : World) : Calls Tryd.prog 3 #[.int .u8 how, .string s, .int .i32 n] w fun e w' => e = .returned (.bool true) ∧ Below w.heap.size w w' := by
  by_cases hs : 40 < s.size
  · exact tells3_long how n s hs w
  · by_cases h5 : how % 5 = 1
    · exact tells3_map how n s (by omega) hh hn h5 w
    · exact tells3_other how n s (by omega) hh hn h5 w
end Go.Proofs.YtpalofbphmjijaaDoor.Gd
