import Derived.Test.YtpalofbphmjijaaDoorGdRun3
namespace Go.Proofs.YtpalofbphmjijaaDoor.Gd
open Go.RowKit Go.Proofs.YtpalofbphmjijaaDoorW.PrintWords
set_option linter.unusedVariables false
set_option linter.unusedSimpArgs false

theorem below_boxes (w : World) : Below w.heap.size w ((w.alloc (.cells #[.string ⟨#[]⟩] 9)).alloc (.cells #[.bool false] 4)) :=
  ((Below.refl w.heap.size w).alloc (Nat.le_refl _) _).alloc (by show _ ≤ (w.heap.push _).size; rw [Array.size_push]; omega) _

/-- Behind the callee, within Told, within Run. -/
theorem two_of {S : Nat → Prop} {P : World → Prop} {w w3 W' : World} {g2 g3 : Nat} (hS : ∀ k, S k → k < w.heap.size) (hst : ∀ W W', Below w.heap.size W W' → P W → P W')
    (hB : Below w.heap.size w w3) (h2 : w.heap.size ≤ g2) (h3 : w.heap.size ≤ g3) (hn : g2 ≠ g3)
    (K2 : w3.heap[g2]? = some (.cells zeroCells.row 31 (0, 0))) (K3 : w3.heap[g3]? = some (.cells #[.int .i64 0] 32 (0, 0)))
    (hs : Save S ((w3.alloc (.cells #[.string ⟨#[]⟩] 9)).alloc (.cells #[.bool false] 4)) W') (hp : P W') :
    Named w3 (.string ⟨#[]⟩) (.bool false) W' ∧ Two S P w g2 g3 zeroCells.row #[.int .i64 0] W' := by
  have hN := boxes w3
  have hb := below_boxes w3
  have hsz := hB.size
  refine ⟨⟨hs.blk hN.s (fun h => by have := hS _ h; omega), hs.blk hN.p (fun h => by have := hS _ h; omega)⟩, ?_, hp, hst, h2, h3, hn, hs.blk (blk_below K2 hb) (fun h => by have := hS _ h; omega), hs.blk (blk_below K3 hb) (fun h => by have := hS _ h; omega)⟩
  exact (Save.of (below_step hB hb)).then hs

attribute [local go_sem] store_float

set_option maxHeartbeats 8000000 in
set_option maxRecDepth 100000 in
/-- guard.Run of a closure that panics. -/
theorem run11_pan (k : FuncId) (caps : Array Value) (pl : Bool) (w : World) (S : Nat → Prop) (P : World → Prop) (hS : ∀ k, S k → k < w.heap.size) (hst : ∀ W W', Below w.heap.size W W' → P W → P W')
    (hce : ∀ args W, (callFunc k args).run Tryd.prog W = .ok (.enter k args) W)
    (hk : ∀ W, Below w.heap.size w W → Calls Tryd.prog k caps W fun e W' => Pan pl e ∧ Save S W W' ∧ P W') :
    Calls Tryd.prog 11 #[.func (.func k) #[] caps] w fun e w' => e = .returned (.tuple #[.agg #[.int .i64 0, .int .i64 0, .float .f64 0, .string ⟨#[]⟩, .slice none 0 0], .int .i64 34]) ∧ Save S w w' ∧ P w' := by
  have hmf : ∀ (fn : Fn) (first cap : Array Value) (w : World), (Instr.makeFunc fn first cap).run Tryd.prog w = .ok (.func fn first cap) w := fun _ _ _ _ => rfl
  go_enter Tryd.func11, Tryd.ntmps11
  go_upto_region 2 with (first
    | ((with_reducible refine gate_dst (N := 1) rfl ?_); refine box_event ?hg (N := 1) ?hd (cs := #[.func (.func k) #[] caps]) (t := 35) ?hr ?_; (case hd => rfl); (case hg => rfl); (case hr => first | (go_simp; done) | (go_simp; rfl)); intro g1 hg w1 hbox hb; have HB := Aside0.mk hb; have K1 := Aside0.mk hbox; have G1 := Aside0.mk (show w.heap.size ≤ g1 by omega); clear hg hbox hb)
    | ((with_reducible refine gate_dst (N := 2) rfl ?_); refine box_event ?hg (N := 2) ?hd (cs := #[.int .i64 0, .int .i64 0, .float .f64 0, .string ⟨#[]⟩, .slice none 0 0]) (t := 31) ?hr ?_; (case hd => rfl); (case hg => rfl); (case hr => first | (go_simp; done) | (go_simp; rfl)); intro g2 hg w2 hbox hb; have K1 := Aside0.mk (blk_below K1.out hb); have K2 := Aside0.mk hbox; have G2 := Aside0.mk (show w.heap.size ≤ g2 by (have := HB.out.size; omega)); have HB := Aside0.mk (below_step HB.out hb); clear hg hbox hb)
    | ((with_reducible refine gate_dst (N := 3) rfl ?_); refine box_event ?hg (N := 3) ?hd (cs := #[.int .i64 0]) (t := 32) ?hr ?_; (case hd => rfl); (case hg => rfl); (case hr => first | (go_simp; done) | (go_simp; rfl)); intro g3 hg w3 hbox hb; have G3 := Aside0.mk (show w.heap.size ≤ g3 ∧ g2 ≠ g3 by (have h1_ := HB.out.size; have h2_ := blk_lt K2.out; omega)); have K1 := Aside0.mk (blk_below K1.out hb); have K2 := Aside0.mk (blk_below K2.out hb); have K3 := Aside0.mk hbox; have HB := Aside0.mk (below_step HB.out hb); clear hg hbox hb)
    | (go_at_call 8; refine (told8_pan 25 _ pl _ (Two S P w g2 g3 zeroCells.row #[.int .i64 0]) enters25 ((run25_panQ k caps pl ⟨g1, 0, none⟩ _ _ _ _ hce (blk_cell (blk_below K1.out (below_boxes _)) 0) (hk _ (below_step HB.out (below_boxes _)))).mono ?hq)).mono ?_; (case hq => rintro e W' ⟨⟨v, rfl, hv⟩, hs, hp⟩; obtain ⟨T, pv, rfl⟩ := hv.is; exact ⟨⟨T, pv, rfl, hv⟩, two_of hS hst HB.out G2.out G3.out.1 G3.out.2 K2.out K3.out hs hp⟩); rintro e w4 ⟨t, W', rfl, _, hT, hw4⟩; have HT := Aside0.mk (show Two S P w g2 g3 zeroCells.row #[.int .i64 0] w4 by (rw [hw4]; have h1_ := HB.out.size; have h2_ := blk_lt K2.out; have h3_ := blk_lt K3.out; exact (hT.new (by show _ ≤ w3.heap.size; omega) (by show g2 ≠ w3.heap.size; omega) (by show g3 ≠ w3.heap.size; omega) _).new (by show _ ≤ w3.heap.size + 1; omega) (by show g2 ≠ w3.heap.size + 1; omega) (by show g3 ≠ w3.heap.size + 1; omega) _)); clear hT hw4))
  have r0 : w4.cell? ⟨g3, 0, none⟩ = some (.int .i64 0) := blk_cell HT.out.k3 0
  have rf : w4.frozen? ⟨g3, 0, none⟩ = false := blk_frozen HT.out.k3 0
  have q0 : w4.cell? ⟨g2, 0, none⟩ = some (.int .i64 0) := blk_cell HT.out.k2 0
  have q1 : w4.cell? ⟨g2, 1, none⟩ = some (.int .i64 0) := blk_cell HT.out.k2 1
  have q2 : w4.cell? ⟨g2, 2, none⟩ = some (.float .f64 0) := blk_cell HT.out.k2 2
  have q3 : w4.cell? ⟨g2, 3, none⟩ = some (.string ⟨#[]⟩) := blk_cell HT.out.k2 3
  have q4 : w4.cell? ⟨g2, 4, none⟩ = some (.slice none 0 0) := blk_cell HT.out.k2 4
  have f0 : w4.frozen? ⟨g2, 0, none⟩ = false := blk_frozen HT.out.k2 0
  have f1 : w4.frozen? ⟨g2, 1, none⟩ = false := blk_frozen HT.out.k2 1
  have f2 : w4.frozen? ⟨g2, 2, none⟩ = false := blk_frozen HT.out.k2 2
  have f3 : w4.frozen? ⟨g2, 3, none⟩ = false := blk_frozen HT.out.k2 3
  have f4 : w4.frozen? ⟨g2, 4, none⟩ = false := blk_frozen HT.out.k2 4
  have hne : ¬ g2 = g3 := HT.out.n
  have hne2 : ¬ g3 = g2 := fun e => HT.out.n e.symm
  go_upto_region 6 with (fail)
  generalize hWW : World.setCell (World.setCell (World.setCell (World.setCell (World.setCell (World.setCell _ _ _) _ _) _ _) _ _) _ _) _ _ = W5
  have HE : Two S P w g2 g3 #[.int .i64 0, .int .i64 0, .float .f64 0, .string ⟨#[]⟩, .slice none 0 0] #[.int .i64 34] W5 := by
    subst hWW
    exact (((((HT.out.put3 0 (.int .i64 34)).put2 0 (.int .i64 0)).put2 1 (.int .i64 0)).put2 2 (.float .f64 0)).put2 3 (.string ⟨#[]⟩)).put2 4 (.slice none 0 0)
  clear hWW r0 rf q0 q1 q2 q3 q4 f0 f1 f2 f3 f4 HT
  have HT := Aside0.mk HE
  clear HE
  have r0 : W5.cell? ⟨g3, 0, none⟩ = some (.int .i64 34) := blk_cell HT.out.k3 0
  have rf : W5.frozen? ⟨g3, 0, none⟩ = false := blk_frozen HT.out.k3 0
  have q0 : W5.cell? ⟨g2, 0, none⟩ = some (.int .i64 0) := blk_cell HT.out.k2 0
  have q1 : W5.cell? ⟨g2, 1, none⟩ = some (.int .i64 0) := blk_cell HT.out.k2 1
  have q2 : W5.cell? ⟨g2, 2, none⟩ = some (.float .f64 0) := blk_cell HT.out.k2 2
  have q3 : W5.cell? ⟨g2, 3, none⟩ = some (.string ⟨#[]⟩) := blk_cell HT.out.k2 3
  have q4 : W5.cell? ⟨g2, 4, none⟩ = some (.slice none 0 0) := blk_cell HT.out.k2 4
  have f0 : W5.frozen? ⟨g2, 0, none⟩ = false := blk_frozen HT.out.k2 0
  have f1 : W5.frozen? ⟨g2, 1, none⟩ = false := blk_frozen HT.out.k2 1
  have f2 : W5.frozen? ⟨g2, 2, none⟩ = false := blk_frozen HT.out.k2 2
  have f3 : W5.frozen? ⟨g2, 3, none⟩ = false := blk_frozen HT.out.k2 3
  have f4 : W5.frozen? ⟨g2, 4, none⟩ = false := blk_frozen HT.out.k2 4
  go_region
  all_goals go_wp2
  all_goals
    generalize hWW : World.drew _ = WW
    have HE : Two S P w g2 g3 #[.int .i64 0, .int .i64 0, .float .f64 0, .string ⟨#[]⟩, .slice none 0 0] #[.int .i64 34] WW := by
      subst hWW
      repeat (with_reducible first | exact HT.out | refine Two.drew ?_ | refine Two.set2 ?_ rfl | refine Two.set3 ?_ rfl)
    clear hWW r0 rf q0 q1 q2 q3 q4 f0 f1 f2 f3 f4 HT
    refine bodyPost_ret (v := .tuple #[.agg #[.int .i64 0, .int .i64 0, .float .f64 0, .string ⟨#[]⟩, .slice none 0 0], .int .i64 34]) ?_ rfl ⟨rfl, HE.b, HE.p⟩
    have r0 := blk_cell HE.k3 0
    have q0 := blk_cell HE.k2 0
    have q1 := blk_cell HE.k2 1
    have q2 := blk_cell HE.k2 2
    have q3 := blk_cell HE.k2 3
    have q4 := blk_cell HE.k2 4
    simp at r0 q0 q1 q2 q3 q4
    clear hk hce hmf hne hne2 HE
    simp [results, Tryd.results11, go_sem, r0, q0, q1, q2, q3, q4]
end Go.Proofs.YtpalofbphmjijaaDoor.Gd
