import Derived.Test.YtpalofbphmjijaaDoorGdTold
import Derived.Defers
import Derived.Recover
import Derived.Laws.Pointers
namespace Go.Proofs.YtpalofbphmjijaaDoor.Gd
open Go.RowKit Go.Proofs.YtpalofbphmjijaaDoorW.PrintWords
set_option linter.unusedVariables false
set_option linter.unusedSimpArgs false

theorem catch_idle (p q : Addr) (w : World) :
    CallsD Tryd.prog 23 #[.pointer (some p), .pointer (some q)] .returning w fun e u' w' => e = .returned (.tuple #[]) ∧ u' = .returning ∧ w' = w := by
  refine callsD_of_wpS Tryd.func23 rfl fun c₀ cs hu => ?_
  apply wpS_seq
  apply wpS_region
  simp [wpOpsS, go_sem, recoverD, hu, Tryd.ntmps23, Exit.thenS]
  apply wpS_seq
  apply wpS_region
  simp [wpOpsS, go_sem, Exit.thenS]
  refine wpS_cond (t := false) (by simp [Act.eval, Array.replicate]) ?_
  simp only [Bool.false_eq_true, if_false]
  refine wpS_of_wp (wp_skip ?_)
  cases c₀
  simp_all [bodyPostS, results, Tryd.results23]

theorem catch_panicking (p q : Addr) (pl : Bool) (T : TypeId) (pv : Value) (h24 : ∀ w, Calls Tryd.prog 24 #[.iface T pv] w fun e w' => (∃ t, e = .returned (.string t) ∧ Text pl t) ∧ w' = w)
    (older : List PanicEntry) (w : World) (x y : Value) (hp : w.cell? p = some x) (hpz : w.frozen? p = false) (hq : ∀ t, (w.setCell p (.string t)).cell? q = some y) (hqz : ∀ t, (w.setCell p (.string t)).frozen? q = false) :
    CallsD Tryd.prog 23 #[.pointer (some p), .pointer (some q)] (.panicking ({ v := .iface T pv, recovered := false } :: older)) w fun e u' w' =>
      e = .returned (.tuple #[]) ∧ u' = .panicking ({ v := .iface T pv, recovered := true } :: older) ∧ ∃ t, Text pl t ∧ w' = (w.setCell p (.string t)).setCell q (.bool true) := by
  refine callsD_of_wpS Tryd.func23 rfl fun c₀ cs hu => ?_
  apply wpS_seq
  apply wpS_region
  simp [wpOpsS, go_sem, recoverD, hu, Tryd.ntmps23, Exit.thenS]
  apply wpS_seq
  apply wpS_region
  simp [wpOpsS, go_sem, Exit.thenS]
  refine wpS_cond (t := true) (by simp [Act.eval, Array.replicate]) ?_
  simp only [if_true]
  refine wpS_of_wp ?_
  go_wp2_with (go_at_call 24; refine (h24 _).mono ?_; rintro e w1 ⟨⟨t, rfl, hT⟩, rfl⟩; have hq' := hq t; have hqz' := hqz t)
  simp [bodyPostS, results, Tryd.results23]
  exact ⟨t, hT, rfl⟩

/-- What lies in the two named results' variables. -/
structure Named (w : World) (a b : Value) (W : World) : Prop where
  s : W.heap[w.heap.size]? = some (.cells #[a] 9 (0, 0))
  p : W.heap[w.heap.size + 1]? = some (.cells #[b] 4 (0, 0))

set_option maxHeartbeats 4000000 in
set_option maxRecDepth 100000 in
/-- Told, where what it calls panics. -/
theorem told8_pan (k : FuncId) (caps : Array Value) (pl : Bool) (w : World) (Q : World → Prop) (hce : ∀ args W, (callFunc k args).run Tryd.prog W = .ok (.enter k args) W)
    (hk : Calls Tryd.prog k caps ((w.alloc (.cells #[.string ⟨#[]⟩] 9)).alloc (.cells #[.bool false] 4)) fun e W' => (∃ T pv, e = .panicked [{ v := .iface T pv, recovered := false }] ∧ RtV pl (.iface T pv)) ∧ Named w (.string ⟨#[]⟩) (.bool false) W' ∧ Q W') :
    Calls Tryd.prog 8 #[.func (.func k) #[] caps] w fun e w' => ∃ t W', e = .returned (.tuple #[.string t, .bool true]) ∧ Text pl t ∧ Q W' ∧ w' = (W'.setCell ⟨w.heap.size, 0, none⟩ (.string t)).setCell ⟨w.heap.size + 1, 0, none⟩ (.bool true) := by
  have hmf : ∀ (fn : Fn) (first cap : Array Value) (w : World), (Instr.makeFunc fn first cap).run Tryd.prog w = .ok (.func fn first cap) w := fun _ _ _ _ => rfl
  go_enter_defers Tryd.func8, Tryd.ntmps8
  go_wp2_with fail
  refine hk.mono ?_
  rintro e W' ⟨⟨T, pv, rfl, hv⟩, hN, hQ⟩
  go_wp2_with fail
  refine leaves_cons (f := 23) (args := #[.pointer (some ⟨w.heap.size, 0, none⟩), .pointer (some ⟨w.heap.size + 1, 0, none⟩)]) (by simp) (by simp [go_sem]) ?_
  refine (catch_panicking ⟨w.heap.size, 0, none⟩ ⟨w.heap.size + 1, 0, none⟩ pl T pv (told24 pl _ hv) [] W' _ _ (blk_cell hN.s 0) (blk_frozen hN.s 0) (fun t => blk_cell (blk_far hN.p (by simp) _) 0) (fun t => blk_frozen (blk_far hN.p (by simp) _) 0)).mono ?_
  rintro e u' w'' ⟨rfl, rfl, t, hT, rfl⟩
  have r0 : ((W'.setCell ⟨w.heap.size, 0, none⟩ (.string t)).setCell ⟨w.heap.size + 1, 0, none⟩ (.bool true)).cell? ⟨w.heap.size, 0, none⟩ = some (.string t) := blk_cell (blk_far (blk_set hN.s 0 _) (by simp) _) 0
  have r1 : ((W'.setCell ⟨w.heap.size, 0, none⟩ (.string t)).setCell ⟨w.heap.size + 1, 0, none⟩ (.bool true)).cell? ⟨w.heap.size + 1, 0, none⟩ = some (.bool true) := blk_cell (blk_set (blk_far hN.p (by simp) _) 0 _) 0
  generalize hWW : (W'.setCell ⟨w.heap.size, 0, none⟩ (.string t)).setCell ⟨w.heap.size + 1, 0, none⟩ (.bool true) = WW at r0 r1 ⊢
  simp [Leaves, settle, results, Tryd.results8, go_sem, r0, r1]
  exact ⟨hT, W', hQ, hWW.symm⟩

set_option maxHeartbeats 4000000 in
set_option maxRecDepth 100000 in
/-- Told, where what it calls returns. -/
theorem told8_ret (k : FuncId) (caps : Array Value) (w : World) (Q : World → Prop) (hce : ∀ args W, (callFunc k args).run Tryd.prog W = .ok (.enter k args) W)
    (hk : Calls Tryd.prog k caps ((w.alloc (.cells #[.string ⟨#[]⟩] 9)).alloc (.cells #[.bool false] 4)) fun e W' => e = .returned (.tuple #[]) ∧ Named w (.string ⟨#[]⟩) (.bool false) W' ∧ Q W') :
    Calls Tryd.prog 8 #[.func (.func k) #[] caps] w fun e w' => ∃ W', e = .returned (.tuple #[.string ⟨#[]⟩, .bool false]) ∧ Q W' ∧ w' = (W'.setCell ⟨w.heap.size, 0, none⟩ (.string ⟨#[]⟩)).setCell ⟨w.heap.size + 1, 0, none⟩ (.bool false) := by
  have hmf : ∀ (fn : Fn) (first cap : Array Value) (w : World), (Instr.makeFunc fn first cap).run Tryd.prog w = .ok (.func fn first cap) w := fun _ _ _ _ => rfl
  go_enter_defers Tryd.func8, Tryd.ntmps8
  go_wp2_with fail
  refine hk.mono ?_
  rintro e W' ⟨rfl, hN, hQ⟩
  have p0 : W'.cell? ⟨w.heap.size, 0, none⟩ = some (.string ⟨#[]⟩) := blk_cell hN.s 0
  have p1 : W'.cell? ⟨w.heap.size + 1, 0, none⟩ = some (.bool false) := blk_cell hN.p 0
  have f0 : W'.frozen? ⟨w.heap.size, 0, none⟩ = false := blk_frozen hN.s 0
  have f1 : W'.frozen? ⟨w.heap.size + 1, 0, none⟩ = false := blk_frozen hN.p 0
  go_wp2_with fail
  refine leaves_cons (f := 23) (args := #[.pointer (some ⟨w.heap.size, 0, none⟩), .pointer (some ⟨w.heap.size + 1, 0, none⟩)]) (by simp) (by simp [go_sem]) ?_
  refine (catch_idle ⟨w.heap.size, 0, none⟩ ⟨w.heap.size + 1, 0, none⟩ _).mono ?_
  rintro e u' w'' ⟨rfl, rfl, rfl⟩
  have r0 : ((W'.setCell ⟨w.heap.size, 0, none⟩ (.string ⟨#[]⟩)).setCell ⟨w.heap.size + 1, 0, none⟩ (.bool false)).cell? ⟨w.heap.size, 0, none⟩ = some (.string ⟨#[]⟩) := blk_cell (blk_far (blk_set hN.s 0 _) (by simp) _) 0
  have r1 : ((W'.setCell ⟨w.heap.size, 0, none⟩ (.string ⟨#[]⟩)).setCell ⟨w.heap.size + 1, 0, none⟩ (.bool false)).cell? ⟨w.heap.size + 1, 0, none⟩ = some (.bool false) := blk_cell (blk_set (blk_far hN.p (by simp) _) 0 _) 0
  generalize hWW : (W'.setCell ⟨w.heap.size, 0, none⟩ (.string ⟨#[]⟩)).setCell ⟨w.heap.size + 1, 0, none⟩ (.bool false) = WW at r0 r1 ⊢
  simp [Leaves, settle, results, Tryd.results8, go_sem, r0, r1]
  exact ⟨W', hQ, hWW.symm⟩
end Go.Proofs.YtpalofbphmjijaaDoor.Gd
