import Derived.Test.YtpalofbphmjijaaDoorGdRun4
namespace Go.Proofs.YtpalofbphmjijaaDoor.Gd
open Go.RowKit Go.Proofs.YtpalofbphmjijaaDoorW.PrintWords
set_option linter.unusedVariables false
set_option linter.unusedSimpArgs false
attribute [local go_sem] store_float

theorem named_put {w : World} {a b : Value} {W : World} (h : Named w a b W) {p : Addr} {u : Value} {g2 g3 : Nat} (h2 : g2 < w.heap.size) (h3 : g3 < w.heap.size) (hp : p.block = g2 ∨ p.block = g3) : Named w a b (W.setCell p u) :=
  ⟨blk_far h.s (by rcases hp with hp | hp <;> rw [hp] <;> omega) _, blk_far h.p (by rcases hp with hp | hp <;> rw [hp] <;> omega) _⟩


set_option maxHeartbeats 8000000 in
set_option maxRecDepth 100000 in
/-- guard.Run of a closure that returns. -/
theorem run11_ok (k : FuncId) (caps : Array Value) (v0 v1 : Int) (v2 : Nat) (v3 : ByteArray) (va : Option Addr) (vn vc : Nat) (w : World) (S : Nat → Prop) (P : World → Prop) (hS : ∀ k, S k → k < w.heap.size) (hst : ∀ W W', Below w.heap.size W W' → P W → P W')
    (hce : ∀ args W, (callFunc k args).run Tryd.prog W = .ok (.enter k args) W)
    (hk : ∀ W, Below w.heap.size w W → Calls Tryd.prog k caps W fun e W' => e = .returned (.tuple #[.agg #[.int .i64 v0, .int .i64 v1, .float .f64 v2, .string v3, .slice va vn vc], .int .i64 0]) ∧ Save S W W' ∧ P W') :
    Calls Tryd.prog 11 #[.func (.func k) #[] caps] w fun e w' => e = .returned (.tuple #[.agg #[.int .i64 v0, .int .i64 v1, .float .f64 v2, .string v3, .slice va vn vc], .int .i64 0]) ∧ Save S w w' ∧ P w' := by
  have hmf : ∀ (fn : Fn) (first cap : Array Value) (w : World), (Instr.makeFunc fn first cap).run Tryd.prog w = .ok (.func fn first cap) w := fun _ _ _ _ => rfl
  go_enter Tryd.func11, Tryd.ntmps11
  go_upto_region 2 with (first
    | ((with_reducible refine gate_dst (N := 1) rfl ?_); refine box_event ?hg (N := 1) ?hd (cs := #[.func (.func k) #[] caps]) (t := 35) ?hr ?_; (case hd => rfl); (case hg => rfl); (case hr => first | (go_simp; done) | (go_simp; rfl)); intro g1 hg w1 hbox hb; have HB := Aside0.mk hb; have K1 := Aside0.mk hbox; have G1 := Aside0.mk (show w.heap.size ≤ g1 by omega); clear hg hbox hb)
    | ((with_reducible refine gate_dst (N := 2) rfl ?_); refine box_event ?hg (N := 2) ?hd (cs := #[.int .i64 0, .int .i64 0, .float .f64 0, .string ⟨#[]⟩, .slice none 0 0]) (t := 31) ?hr ?_; (case hd => rfl); (case hg => rfl); (case hr => first | (go_simp; done) | (go_simp; rfl)); intro g2 hg w2 hbox hb; have K1 := Aside0.mk (blk_below K1.out hb); have K2 := Aside0.mk hbox; have G2 := Aside0.mk (show w.heap.size ≤ g2 by (have := HB.out.size; omega)); have HB := Aside0.mk (below_step HB.out hb); clear hg hbox hb)
    | ((with_reducible refine gate_dst (N := 3) rfl ?_); refine box_event ?hg (N := 3) ?hd (cs := #[.int .i64 0]) (t := 32) ?hr ?_; (case hd => rfl); (case hg => rfl); (case hr => first | (go_simp; done) | (go_simp; rfl)); intro g3 hg w3 hbox hb; have G3 := Aside0.mk (show w.heap.size ≤ g3 ∧ g2 ≠ g3 by (have h1_ := HB.out.size; have h2_ := blk_lt K2.out; omega)); have K1 := Aside0.mk (blk_below K1.out hb); have K2 := Aside0.mk (blk_below K2.out hb); have K3 := Aside0.mk hbox; have HB := Aside0.mk (below_step HB.out hb); clear hg hbox hb)
    | (go_at_call 8; refine (told8_ret 25 _ _ (Two S P w g2 g3 (Cells.row ⟨v0, v1, v2, v3, va, vn, vc⟩) #[.int .i64 0]) enters25 ((run25_retQ k caps ⟨g1, 0, none⟩ g2 g3 ⟨v0, v1, v2, v3, va, vn, vc⟩ 0 w _ S P (Named w3 (.string ⟨#[]⟩) (.bool false)) (fun W p u hp hN => named_put hN (blk_lt K2.out) (blk_lt K3.out) hp) hce (blk_cell (blk_below K1.out (below_boxes _)) 0) ((hk _ (below_step HB.out (below_boxes _))).mono ?hq)).mono ?hq2)).mono ?_; (case hq => rintro e W' ⟨rfl, hs, hp⟩; have hh := two_of hS hst HB.out G2.out G3.out.1 G3.out.2 K2.out K3.out hs hp; exact ⟨rfl, hh.2, hh.1⟩); (case hq2 => rintro e W' ⟨rfl, hT, hN⟩; exact ⟨rfl, hN, hT⟩); rintro e w4 ⟨W', rfl, hT, hw4⟩; have HT := Aside0.mk (show Two S P w g2 g3 (Cells.row ⟨v0, v1, v2, v3, va, vn, vc⟩) #[.int .i64 0] w4 by (rw [hw4]; have h1_ := HB.out.size; have h2_ := blk_lt K2.out; have h3_ := blk_lt K3.out; exact (hT.new (by show _ ≤ w3.heap.size; omega) (by show g2 ≠ w3.heap.size; omega) (by show g3 ≠ w3.heap.size; omega) _).new (by show _ ≤ w3.heap.size + 1; omega) (by show g2 ≠ w3.heap.size + 1; omega) (by show g3 ≠ w3.heap.size + 1; omega) _)); clear hT hw4))
  replace HT : Aside0 (Two S P w g2 g3 #[.int .i64 v0, .int .i64 v1, .float .f64 v2, .string v3, .slice va vn vc] #[.int .i64 0] w4) := HT
  have r0 : w4.cell? ⟨g3, 0, none⟩ = some (.int .i64 0) := blk_cell HT.out.k3 0
  have rf : w4.frozen? ⟨g3, 0, none⟩ = false := blk_frozen HT.out.k3 0
  have q0 : w4.cell? ⟨g2, 0, none⟩ = some (.int .i64 v0) := blk_cell HT.out.k2 0
  have q1 : w4.cell? ⟨g2, 1, none⟩ = some (.int .i64 v1) := blk_cell HT.out.k2 1
  have q2 : w4.cell? ⟨g2, 2, none⟩ = some (.float .f64 v2) := blk_cell HT.out.k2 2
  have q3 : w4.cell? ⟨g2, 3, none⟩ = some (.string v3) := blk_cell HT.out.k2 3
  have q4 : w4.cell? ⟨g2, 4, none⟩ = some (.slice va vn vc) := blk_cell HT.out.k2 4
  have f0 : w4.frozen? ⟨g2, 0, none⟩ = false := blk_frozen HT.out.k2 0
  have f1 : w4.frozen? ⟨g2, 1, none⟩ = false := blk_frozen HT.out.k2 1
  have f2 : w4.frozen? ⟨g2, 2, none⟩ = false := blk_frozen HT.out.k2 2
  have f3 : w4.frozen? ⟨g2, 3, none⟩ = false := blk_frozen HT.out.k2 3
  have f4 : w4.frozen? ⟨g2, 4, none⟩ = false := blk_frozen HT.out.k2 4
  have hne : ¬ g2 = g3 := HT.out.n
  have hne2 : ¬ g3 = g2 := fun e => HT.out.n e.symm
  go_upto_region 6 with (fail)
  go_region
  all_goals go_wp2
  all_goals
    generalize hWW : World.drew _ = WW
    have HE : Two S P w g2 g3 #[.int .i64 v0, .int .i64 v1, .float .f64 v2, .string v3, .slice va vn vc] #[.int .i64 0] WW := by
      subst hWW
      repeat (with_reducible first | exact HT.out | refine Two.drew ?_ | refine Two.set2 ?_ rfl | refine Two.set3 ?_ rfl)
    clear hWW r0 rf q0 q1 q2 q3 q4 f0 f1 f2 f3 f4 HT
    refine bodyPost_ret (v := .tuple #[.agg #[.int .i64 v0, .int .i64 v1, .float .f64 v2, .string v3, .slice va vn vc], .int .i64 0]) ?_ rfl ⟨rfl, HE.b, HE.p⟩
    have r0 := blk_cell HE.k3 0
    have q0 := blk_cell HE.k2 0
    have q1 := blk_cell HE.k2 1
    have q2 := blk_cell HE.k2 2
    have q3 := blk_cell HE.k2 3
    have q4 := blk_cell HE.k2 4
    simp at r0 q0 q1 q2 q3 q4
    clear hk hce hmf hne hne2 HE
    simp [results, Tryd.results11, go_sem, r0, q0, q1, q2, q3, q4]

set_option maxHeartbeats 8000000 in
set_option maxRecDepth 100000 in
/-- guard.Run of a closure that returns. -/
theorem run11_err (k : FuncId) (caps : Array Value) (v0 v1 : Int) (v2 : Nat) (v3 : ByteArray) (va : Option Addr) (vn vc : Nat) (r : Int) (hr : (r != 0) = true) (w : World) (S : Nat → Prop) (P : World → Prop) (hS : ∀ k, S k → k < w.heap.size) (hst : ∀ W W', Below w.heap.size W W' → P W → P W')
    (hce : ∀ args W, (callFunc k args).run Tryd.prog W = .ok (.enter k args) W)
    (hk : ∀ W, Below w.heap.size w W → Calls Tryd.prog k caps W fun e W' => e = .returned (.tuple #[.agg #[.int .i64 v0, .int .i64 v1, .float .f64 v2, .string v3, .slice va vn vc], .int .i64 r]) ∧ Save S W W' ∧ P W') :
    Calls Tryd.prog 11 #[.func (.func k) #[] caps] w fun e w' => e = .returned (.tuple #[.agg #[.int .i64 0, .int .i64 0, .float .f64 0, .string ⟨#[]⟩, .slice none 0 0], .int .i64 r]) ∧ Save S w w' ∧ P w' := by
  have hmf : ∀ (fn : Fn) (first cap : Array Value) (w : World), (Instr.makeFunc fn first cap).run Tryd.prog w = .ok (.func fn first cap) w := fun _ _ _ _ => rfl
  go_enter Tryd.func11, Tryd.ntmps11
  go_upto_region 2 with (first
    | ((with_reducible refine gate_dst (N := 1) rfl ?_); refine box_event ?hg (N := 1) ?hd (cs := #[.func (.func k) #[] caps]) (t := 35) ?hr ?_; (case hd => rfl); (case hg => rfl); (case hr => first | (go_simp; done) | (go_simp; rfl)); intro g1 hg w1 hbox hb; have HB := Aside0.mk hb; have K1 := Aside0.mk hbox; have G1 := Aside0.mk (show w.heap.size ≤ g1 by omega); clear hg hbox hb)
    | ((with_reducible refine gate_dst (N := 2) rfl ?_); refine box_event ?hg (N := 2) ?hd (cs := #[.int .i64 0, .int .i64 0, .float .f64 0, .string ⟨#[]⟩, .slice none 0 0]) (t := 31) ?hr ?_; (case hd => rfl); (case hg => rfl); (case hr => first | (go_simp; done) | (go_simp; rfl)); intro g2 hg w2 hbox hb; have K1 := Aside0.mk (blk_below K1.out hb); have K2 := Aside0.mk hbox; have G2 := Aside0.mk (show w.heap.size ≤ g2 by (have := HB.out.size; omega)); have HB := Aside0.mk (below_step HB.out hb); clear hg hbox hb)
    | ((with_reducible refine gate_dst (N := 3) rfl ?_); refine box_event ?hg (N := 3) ?hd (cs := #[.int .i64 0]) (t := 32) ?hr ?_; (case hd => rfl); (case hg => rfl); (case hr => first | (go_simp; done) | (go_simp; rfl)); intro g3 hg w3 hbox hb; have G3 := Aside0.mk (show w.heap.size ≤ g3 ∧ g2 ≠ g3 by (have h1_ := HB.out.size; have h2_ := blk_lt K2.out; omega)); have K1 := Aside0.mk (blk_below K1.out hb); have K2 := Aside0.mk (blk_below K2.out hb); have K3 := Aside0.mk hbox; have HB := Aside0.mk (below_step HB.out hb); clear hg hbox hb)
    | (go_at_call 8; refine (told8_ret 25 _ _ (Two S P w g2 g3 (Cells.row ⟨v0, v1, v2, v3, va, vn, vc⟩) #[.int .i64 r]) enters25 ((run25_retQ k caps ⟨g1, 0, none⟩ g2 g3 ⟨v0, v1, v2, v3, va, vn, vc⟩ r w _ S P (Named w3 (.string ⟨#[]⟩) (.bool false)) (fun W p u hp hN => named_put hN (blk_lt K2.out) (blk_lt K3.out) hp) hce (blk_cell (blk_below K1.out (below_boxes _)) 0) ((hk _ (below_step HB.out (below_boxes _))).mono ?hq)).mono ?hq2)).mono ?_; (case hq => rintro e W' ⟨rfl, hs, hp⟩; have hh := two_of hS hst HB.out G2.out G3.out.1 G3.out.2 K2.out K3.out hs hp; exact ⟨rfl, hh.2, hh.1⟩); (case hq2 => rintro e W' ⟨rfl, hT, hN⟩; exact ⟨rfl, hN, hT⟩); rintro e w4 ⟨W', rfl, hT, hw4⟩; have HT := Aside0.mk (show Two S P w g2 g3 (Cells.row ⟨v0, v1, v2, v3, va, vn, vc⟩) #[.int .i64 r] w4 by (rw [hw4]; have h1_ := HB.out.size; have h2_ := blk_lt K2.out; have h3_ := blk_lt K3.out; exact (hT.new (by show _ ≤ w3.heap.size; omega) (by show g2 ≠ w3.heap.size; omega) (by show g3 ≠ w3.heap.size; omega) _).new (by show _ ≤ w3.heap.size + 1; omega) (by show g2 ≠ w3.heap.size + 1; omega) (by show g3 ≠ w3.heap.size + 1; omega) _)); clear hT hw4))
  replace HT : Aside0 (Two S P w g2 g3 #[.int .i64 v0, .int .i64 v1, .float .f64 v2, .string v3, .slice va vn vc] #[.int .i64 r] w4) := HT
  have r0 : w4.cell? ⟨g3, 0, none⟩ = some (.int .i64 r) := blk_cell HT.out.k3 0
  have rf : w4.frozen? ⟨g3, 0, none⟩ = false := blk_frozen HT.out.k3 0
  have q0 : w4.cell? ⟨g2, 0, none⟩ = some (.int .i64 v0) := blk_cell HT.out.k2 0
  have q1 : w4.cell? ⟨g2, 1, none⟩ = some (.int .i64 v1) := blk_cell HT.out.k2 1
  have q2 : w4.cell? ⟨g2, 2, none⟩ = some (.float .f64 v2) := blk_cell HT.out.k2 2
  have q3 : w4.cell? ⟨g2, 3, none⟩ = some (.string v3) := blk_cell HT.out.k2 3
  have q4 : w4.cell? ⟨g2, 4, none⟩ = some (.slice va vn vc) := blk_cell HT.out.k2 4
  have f0 : w4.frozen? ⟨g2, 0, none⟩ = false := blk_frozen HT.out.k2 0
  have f1 : w4.frozen? ⟨g2, 1, none⟩ = false := blk_frozen HT.out.k2 1
  have f2 : w4.frozen? ⟨g2, 2, none⟩ = false := blk_frozen HT.out.k2 2
  have f3 : w4.frozen? ⟨g2, 3, none⟩ = false := blk_frozen HT.out.k2 3
  have f4 : w4.frozen? ⟨g2, 4, none⟩ = false := blk_frozen HT.out.k2 4
  have hne : ¬ g2 = g3 := HT.out.n
  have hne2 : ¬ g3 = g2 := fun e => HT.out.n e.symm
  go_upto_region 6 with (fail)
  generalize hWW : World.setCell (World.setCell (World.setCell (World.setCell (World.setCell _ _ _) _ _) _ _) _ _) _ _ = W5
  have HE : Two S P w g2 g3 #[.int .i64 0, .int .i64 0, .float .f64 0, .string ⟨#[]⟩, .slice none 0 0] #[.int .i64 r] W5 := by
    subst hWW
    exact ((((HT.out.put2 0 (.int .i64 0)).put2 1 (.int .i64 0)).put2 2 (.float .f64 0)).put2 3 (.string ⟨#[]⟩)).put2 4 (.slice none 0 0)
  clear hWW r0 rf q0 q1 q2 q3 q4 f0 f1 f2 f3 f4 HT
  have HT := Aside0.mk HE
  clear HE
  have r0 : W5.cell? ⟨g3, 0, none⟩ = some (.int .i64 r) := blk_cell HT.out.k3 0
  have rf : W5.frozen? ⟨g3, 0, none⟩ = false := blk_frozen HT.out.k3 0
  have q0 : W5.cell? ⟨g2, 0, none⟩ = some (.int .i64 0) := blk_cell HT.out.k2 0
  have q1 : W5.cell? ⟨g2, 1, none⟩ = some (.int .i64 0) := blk_cell HT.out.k2 1
  have q2 : W5.cell? ⟨g2, 2, none⟩ = some (.float .f64 0) := blk_cell HT.out.k2 2
  have q3 : W5.cell? ⟨g2, 3, none⟩ = some (.string ⟨#[]⟩) := blk_cell HT.out.k2 3
  have q4 : W5.cell? ⟨g2, 4, none⟩ = some (.slice none 0 0) := blk_cell HT.out.k2 4
  have f0 : W5.frozen? ⟨g2, 0, none⟩ = false := blk_frozen HT.out.k2 0
  have f1 : W5.frozen? ⟨g2, 1, none⟩ = false := blk_frozen HT.out.k2 1
  have f2 : W5.frozen? ⟨g2, 2, none⟩ = false := blk_frozen HT.out.k2 2
  have f3 : W5.frozen? ⟨g2, 3, none⟩ = false := blk_frozen HT.out.k2 3
  have f4 : W5.frozen? ⟨g2, 4, none⟩ = false := blk_frozen HT.out.k2 4
  go_region
  all_goals go_wp2
  all_goals
    generalize hWW : World.drew _ = WW
    have HE : Two S P w g2 g3 #[.int .i64 0, .int .i64 0, .float .f64 0, .string ⟨#[]⟩, .slice none 0 0] #[.int .i64 r] WW := by
      subst hWW
      repeat (with_reducible first | exact HT.out | refine Two.drew ?_ | refine Two.set2 ?_ rfl | refine Two.set3 ?_ rfl)
    clear hWW r0 rf q0 q1 q2 q3 q4 f0 f1 f2 f3 f4 HT
    refine bodyPost_ret (v := .tuple #[.agg #[.int .i64 0, .int .i64 0, .float .f64 0, .string ⟨#[]⟩, .slice none 0 0], .int .i64 r]) ?_ rfl ⟨rfl, HE.b, HE.p⟩
    have r0 := blk_cell HE.k3 0
    have q0 := blk_cell HE.k2 0
    have q1 := blk_cell HE.k2 1
    have q2 := blk_cell HE.k2 2
    have q3 := blk_cell HE.k2 3
    have q4 := blk_cell HE.k2 4
    simp at r0 q0 q1 q2 q3 q4
    clear hk hce hmf hne hne2 HE
    simp [results, Tryd.results11, go_sem, r0, q0, q1, q2, q3, q4]
end Go.Proofs.YtpalofbphmjijaaDoor.Gd
