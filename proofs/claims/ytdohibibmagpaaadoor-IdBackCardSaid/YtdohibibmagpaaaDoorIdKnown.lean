import Derived.Test.YtdohibibmagpaaaDoorQx0
import Derived.Test.YtdohibibmagpaaaDoorQx1
import Derived.Test.YtdohibibmagpaaaDoorQx5
import Derived.Test.YtdohibibmagpaaaDoorIdParse
namespace Go.Proofs.YtdohibibmagpaaaDoor.Q
open Go.RowKit Go.Proofs.YtdohibibmagpaaaDoorW.PrintWords Go.Proofs.YtdohibibmagpaaaDoorW.PrintLast Go.Proofs.YtdohibibmagpaaaDoorW.PrintMore
open IdNum
set_option linter.unusedVariables false
set_option linter.unusedSimpArgs false
attribute [local go_sem high] eqA25

def choirlaw5_known.f : Option Bool := some true

theorem known_n1 : opid_Nested.f 7 3 0 1 = some (7, 3, 1, true) := by kernel_rfl
theorem known_n2 : opid_Nested.f 7 3 1 1 = some (0, 0, 0, false) := by kernel_rfl
theorem known_r : opid_Root.f 7 3 1 = some (7, 3, 0) := by kernel_rfl
theorem known_l : opid_Less.f 100 7 3 0 7 3 1 = some true := by kernel_rfl

theorem known_t (W : World) (h : IdNum.Ok W) : Calls Tryd.prog 7 #[.agg #[.int .u32 7, .int .u32 3, .int .u16 1]] W fun e W' => e = .returned (.string ⟨#[55, 45, 51, 46, 49]⟩) ∧ Below W.heap.size W W' := by
  have := text7 7 3 1 (by decide) (by decide) (by decide) W h
  rw [known_text] at this
  exact this

/-- The world behind the third variable: the first two hold the id. -/
structure Two (w : World) (g1 g3 : Nat) (W : World) : Prop where
  ok : IdNum.Ok W
  below : Below w.heap.size w W
  c10 : W.cell? ⟨g1, 0, none⟩ = some (.int .u32 7)
  c11 : W.cell? ⟨g1, 1, none⟩ = some (.int .u32 3)
  c12 : W.cell? ⟨g1, 2, none⟩ = some (.int .u16 1)
  c30 : W.cell? ⟨g3, 0, none⟩ = some (.int .u32 7)
  c31 : W.cell? ⟨g3, 1, none⟩ = some (.int .u32 3)
  c32 : W.cell? ⟨g3, 2, none⟩ = some (.int .u16 1)
  l0 : w.heap.size ≤ W.heap.size
  l1 : g1 < W.heap.size
  l3 : g3 < W.heap.size
theorem Two.step {w W W' : World} {g1 g3 : Nat} (h : Two w g1 g3 W) (hb : Below W.heap.size W W') : Two w g1 g3 W' :=
  ⟨h.ok.below hb, h.below.trans (hb.mono h.l0), by rw [hb.cell (by exact h.l1)]; exact h.c10, by rw [hb.cell (by exact h.l1)]; exact h.c11, by rw [hb.cell (by exact h.l1)]; exact h.c12,
    by rw [hb.cell (by exact h.l3)]; exact h.c30, by rw [hb.cell (by exact h.l3)]; exact h.c31, by rw [hb.cell (by exact h.l3)]; exact h.c32,
    Nat.le_trans h.l0 hb.size, Nat.lt_of_lt_of_le h.l1 hb.size, Nat.lt_of_lt_of_le h.l3 hb.size⟩

theorem Two.cells {w W : World} {g1 g3 : Nat} (h : Two w g1 g3 W) : W.cell? ⟨g1, 0, none⟩ = some (.int .u32 7) ∧ W.cell? ⟨g1, 1, none⟩ = some (.int .u32 3) ∧ W.cell? ⟨g1, 2, none⟩ = some (.int .u16 1) ∧
    W.cell? ⟨g3, 0, none⟩ = some (.int .u32 7) ∧ W.cell? ⟨g3, 1, none⟩ = some (.int .u32 3) ∧ W.cell? ⟨g3, 2, none⟩ = some (.int .u16 1) := ⟨h.c10, h.c11, h.c12, h.c30, h.c31, h.c32⟩
theorem One.stored {w W : World} {g : Nat} (hB : Below w.heap.size w W) (hg : w.heap.size ≤ g) (hbk : W.heap[g]? = some (.cells #[.int .u32 0, .int .u32 0, .int .u16 0] 25 (0, 0))) (x y z : Value) :
    Below w.heap.size w (((W.setCell ⟨g, 0, none⟩ x).setCell ⟨g, 1, none⟩ y).setCell ⟨g, 2, none⟩ z) ∧ (((W.setCell ⟨g, 0, none⟩ x).setCell ⟨g, 1, none⟩ y).setCell ⟨g, 2, none⟩ z).heap[g]? = some (.cells #[x, y, z] 25 (0, 0)) :=
  ⟨((hB.setCell hg x).setCell hg y).setCell hg z, three_set hbk x y z⟩

set_option maxHeartbeats 8000000 in
set_option maxRecDepth 100000 in
theorem known_walk (w : World) (hw : IdNum.Ok w) :
    Calls Tryd.prog 6 #[] w fun e w' => e = .returned (.bool true) ∧ Below w.heap.size w w' := by
  have HW := Aside0.mk hw
  clear hw
  go_enter Tryd.func6, Tryd.ntmps6
  go_wp2_with fail
  have hp := parse8 [55, 45, 51, 46, 49] (by decide) w HW.out
  rw [known_parsed, known_ok] at hp
  refine hp.mono ?_
  clear hp
  rintro e w1 ⟨rfl, hb1⟩
  have B1 := Aside0.mk hb1
  clear hb1
  simp only [if_true]
  go_upto_region 2 with ((with_reducible refine gate_dst (N := 1) rfl ?_); refine box_event ?hg (N := 1) ?hd (cs := #[.int .u32 0, .int .u32 0, .int .u16 0]) (t := 25) ?hr ?_; (case hd => rfl); (case hg => rfl); (case hr => first | (go_simp; done) | (go_simp; rfl)); intro g1 hg w2 hbox hb; have B2 := Aside0.mk (below_step B1.out hb); have BK1 := Aside0.mk hbox; have G1 := Aside0.mk (show w.heap.size ≤ g1 by rw [hg]; exact B1.out.size); have q0 : w2.cell? ⟨g1, 0, none⟩ = some (.int .u32 0) := blk_cell hbox 0; have q1 : w2.cell? ⟨g1, 1, none⟩ = some (.int .u32 0) := blk_cell hbox 1; have q2 : w2.cell? ⟨g1, 2, none⟩ = some (.int .u16 0) := blk_cell hbox 2; have f0 : w2.frozen? ⟨g1, 0, none⟩ = false := blk_frozen hbox 0; have f1 : w2.frozen? ⟨g1, 1, none⟩ = false := blk_frozen hbox 1; have f2 : w2.frozen? ⟨g1, 2, none⟩ = false := blk_frozen hbox 2; clear hg hb hbox)
  obtain ⟨h2_, b2⟩ := One.stored B2.out G1.out BK1.out (.int .u32 7) (.int .u32 3) (.int .u16 1)
  clear q0 q1 q2 f0 f1 f2 B1 B2 BK1
  generalize (((w2.setCell ⟨g1, 0, none⟩ (.int .u32 7)).setCell ⟨g1, 1, none⟩ (.int .u32 3)).setCell ⟨g1, 2, none⟩ (.int .u16 1)) = W2 at h2_ b2 ⊢
  have B2 := Aside0.mk h2_
  have BK1 := Aside0.mk b2
  clear h2_ b2
  go_upto_region 3 with (first
    | (go_at_call 13; refine (opid_Nested.calls 7 3 0 1 7 3 1 true W2 known_n1).mono ?_; rintro e w3 ⟨rfl, hb⟩; have B3 := Aside0.mk (below_step B2.out hb); have BK1' := Aside0.mk (blk_below BK1.out hb); clear hb B2 BK1)
    | ((with_reducible refine gate_dst (N := 3) rfl ?_); refine box_event ?hg (N := 3) ?hd (cs := #[.int .u32 0, .int .u32 0, .int .u16 0]) (t := 25) ?hr ?_; (case hd => rfl); (case hg => rfl); (case hr => first | (go_simp; done) | (go_simp; rfl)); intro g3 hg w4 hbox hb; have B4 := Aside0.mk (below_step B3.out hb); have BK1 := Aside0.mk (blk_below BK1'.out hb); have BK3 := Aside0.mk hbox; have G3 := Aside0.mk (show w.heap.size ≤ g3 ∧ g1 < g3 by rw [hg]; exact ⟨B3.out.size, blk_lt BK1'.out⟩); have q0 : w4.cell? ⟨g3, 0, none⟩ = some (.int .u32 0) := blk_cell hbox 0; have q1 : w4.cell? ⟨g3, 1, none⟩ = some (.int .u32 0) := blk_cell hbox 1; have q2 : w4.cell? ⟨g3, 2, none⟩ = some (.int .u16 0) := blk_cell hbox 2; have f0 : w4.frozen? ⟨g3, 0, none⟩ = false := blk_frozen hbox 0; have f1 : w4.frozen? ⟨g3, 1, none⟩ = false := blk_frozen hbox 1; have f2 : w4.frozen? ⟨g3, 2, none⟩ = false := blk_frozen hbox 2; clear hg hb hbox))
  obtain ⟨h4_, b4⟩ := One.stored B4.out G3.out.1 BK3.out (.int .u32 7) (.int .u32 3) (.int .u16 1)
  have b1_ := blk_far (blk_far (blk_far BK1.out (p := ⟨g3, 0, none⟩) (by have := G3.out.2; show g1 ≠ g3; omega) (.int .u32 7)) (p := ⟨g3, 1, none⟩) (by have := G3.out.2; show g1 ≠ g3; omega) (.int .u32 3)) (p := ⟨g3, 2, none⟩) (by have := G3.out.2; show g1 ≠ g3; omega) (.int .u16 1)
  clear q0 q1 q2 f0 f1 f2 B4 BK3 BK1 BK1'
  generalize (((w4.setCell ⟨g3, 0, none⟩ (.int .u32 7)).setCell ⟨g3, 1, none⟩ (.int .u32 3)).setCell ⟨g3, 2, none⟩ (.int .u16 1)) = W4 at h4_ b4 b1_ ⊢
  have B4 := Aside0.mk h4_
  have BK1 := Aside0.mk b1_
  have BK3 := Aside0.mk b4
  obtain ⟨p0, p1, p2⟩ := three_cells b1_
  clear h4_ b4 b1_
  go_upto_region 4 with (first
    | (go_at_call 13; refine (opid_Nested.calls 7 3 1 1 0 0 0 false W4 known_n2).mono ?_; rintro e w5 ⟨rfl, hb⟩; have B5 := Aside0.mk (below_step B4.out hb); have BK1' := Aside0.mk (blk_below BK1.out hb); have BK3' := Aside0.mk (blk_below BK3.out hb); clear hb B4 BK1 BK3)
    | ((with_reducible refine gate_dst (N := 5) rfl ?_); refine box_event ?hg (N := 5) ?hd (cs := #[.int .u32 0, .int .u32 0, .int .u16 0]) (t := 25) ?hr ?_; (case hd => rfl); (case hg => rfl); (case hr => first | (go_simp; done) | (go_simp; rfl)); intro g5 hg w6 hbox hb; have B6 := Aside0.mk (below_step B5.out hb); have BK1 := Aside0.mk (blk_below BK1'.out hb); have BK3 := Aside0.mk (blk_below BK3'.out hb); have G5 := Aside0.mk (show w.heap.size ≤ g5 ∧ g1 < g5 ∧ g3 < g5 by rw [hg]; exact ⟨B5.out.size, blk_lt BK1'.out, blk_lt BK3'.out⟩); have BK5 := Aside0.mk hbox; have q0 : w6.cell? ⟨g5, 0, none⟩ = some (.int .u32 0) := blk_cell hbox 0; have q1 : w6.cell? ⟨g5, 1, none⟩ = some (.int .u32 0) := blk_cell hbox 1; have q2 : w6.cell? ⟨g5, 2, none⟩ = some (.int .u16 0) := blk_cell hbox 2; have f0 : w6.frozen? ⟨g5, 0, none⟩ = false := blk_frozen hbox 0; have f1 : w6.frozen? ⟨g5, 1, none⟩ = false := blk_frozen hbox 1; have f2 : w6.frozen? ⟨g5, 2, none⟩ = false := blk_frozen hbox 2; clear hg hb hbox))
  have HT : Aside0 (Two w g1 g3 (((w6.setCell ⟨g5, 0, none⟩ (.int .u32 0)).setCell ⟨g5, 1, none⟩ (.int .u32 0)).setCell ⟨g5, 2, none⟩ (.int .u16 0))) := by
    obtain ⟨h6, b6⟩ := One.stored B6.out G5.out.1 BK5.out (.int .u32 0) (.int .u32 0) (.int .u16 0)
    have e1 := blk_far (blk_far (blk_far BK1.out (p := ⟨g5, 0, none⟩) (by have := G5.out.2.1; show g1 ≠ g5; omega) (.int .u32 0)) (p := ⟨g5, 1, none⟩) (by have := G5.out.2.1; show g1 ≠ g5; omega) (.int .u32 0)) (p := ⟨g5, 2, none⟩) (by have := G5.out.2.1; show g1 ≠ g5; omega) (.int .u16 0)
    have e3 := blk_far (blk_far (blk_far BK3.out (p := ⟨g5, 0, none⟩) (by have := G5.out.2.2; show g3 ≠ g5; omega) (.int .u32 0)) (p := ⟨g5, 1, none⟩) (by have := G5.out.2.2; show g3 ≠ g5; omega) (.int .u32 0)) (p := ⟨g5, 2, none⟩) (by have := G5.out.2.2; show g3 ≠ g5; omega) (.int .u16 0)
    exact ⟨⟨HW.out.below h6, h6, (three_cells e1).1, (three_cells e1).2.1, (three_cells e1).2.2, (three_cells e3).1, (three_cells e3).2.1, (three_cells e3).2.2, h6.size, blk_lt e1, blk_lt e3⟩⟩
  clear q0 q1 q2 f0 f1 f2 p0 p1 p2 B5 B6 BK1 BK3 BK5 BK1' BK3' G1 G3 G5
  generalize (((w6.setCell ⟨g5, 0, none⟩ (.int .u32 0)).setCell ⟨g5, 1, none⟩ (.int .u32 0)).setCell ⟨g5, 2, none⟩ (.int .u16 0)) = W6 at HT ⊢
  have hr1 := fun W (h : Two w g1 g3 W) => (opid_Root.calls 7 3 1 7 3 0 W known_r).mono (fun e W' (x : e = .returned (.agg #[.int .u32 7, .int .u32 3, .int .u16 0]) ∧ _) => (⟨x.1, h.step x.2⟩ : e = .returned (.agg #[.int .u32 7, .int .u32 3, .int .u16 0]) ∧ Two w g1 g3 W'))
  have hl1 := fun W (h : Two w g1 g3 W) => (opid_Less.calls 100 7 3 0 7 3 1 true W known_l).mono (fun e W' (x : e = .returned (.bool true) ∧ _) => (⟨x.1, h.step x.2⟩ : e = .returned (.bool true) ∧ Two w g1 g3 W'))
  have ht1 := fun W (h : Two w g1 g3 W) => (known_t W h.ok).mono (fun e W' x => (⟨x.1, h.step x.2⟩ : e = .returned (.string ⟨#[55, 45, 51, 46, 49]⟩) ∧ Two w g1 g3 W'))
  obtain ⟨a0, a1, a2, a3, a4, a5⟩ := HT.out.cells
  go_region_with (first
    | (go_at_call 14; refine (hr1 _ ?_).mono ?_; (first | exact HT3.out | exact HT2.out); rintro e W ⟨rfl, h_⟩; obtain ⟨a0, a1, a2, a3, a4, a5⟩ := h_.cells; have HT3 := Aside0.mk h_; clear h_)
    | (go_at_call 7; refine (ht1 _ ?_).mono ?_; exact HT.out.step ((Below.refl _ _).drew); rintro e W ⟨rfl, h_⟩; obtain ⟨a0, a1, a2, a3, a4, a5⟩ := h_.cells; have HT2 := Aside0.mk h_; clear h_)
    | (go_at_call 11; refine (hl1 _ ?_).mono ?_; exact HT3.out; rintro e W ⟨rfl, h_⟩; have HT3 := Aside0.mk h_; clear h_))
  all_goals (go_wp2; go_ret; exact ⟨rfl, HT3.out.below⟩)

theorem choirlaw5_known.calls (r : Bool) (w : World) (h : choirlaw5_known.f = some r) (hT : ∃ W0, IdNum.Ok W0 ∧ Below W0.heap.size W0 w) :
    Calls Tryd.prog 6 #[] w fun e w' => e = .returned (.bool r) ∧ Below w.heap.size w w' := by
  obtain ⟨W0, h0, hb⟩ := hT
  obtain rfl := Option.some.inj h
  exact known_walk w (h0.below hb)
end Go.Proofs.YtdohibibmagpaaaDoor.Q
