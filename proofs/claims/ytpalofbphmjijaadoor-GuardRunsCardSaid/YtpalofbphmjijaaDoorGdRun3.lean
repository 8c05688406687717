import Derived.Test.YtpalofbphmjijaaDoorGdRun2
namespace Go.Proofs.YtpalofbphmjijaaDoor.Gd
open Go.RowKit Go.Proofs.YtpalofbphmjijaaDoorW.PrintWords
set_option linter.unusedVariables false
set_option linter.unusedSimpArgs false

theorem store_float {P : Program} {w : World} {a : Addr} {m : Mode} (k : FloatKind) (x : Nat) : (store a (.float k x) m).run P w = stored P w a (.float k x) m := run_store P w a _ m rfl

/-- All blocks but those of S are as they were. -/
structure Save (S : Nat → Prop) (w w' : World) : Prop where
  os : w'.os = w.os
  tape : w'.tape = w.tape
  output : w'.output = w.output
  size : w.heap.size ≤ w'.heap.size
  block : ∀ k, k < w.heap.size → ¬ S k → w'.heap[k]? = w.heap[k]?
theorem Save.of {S : Nat → Prop} {w w' : World} (h : Below w.heap.size w w') : Save S w w' := ⟨h.os, h.tape, h.output, h.size, fun k hk _ => h.block k hk⟩
theorem Save.below {w w' : World} (h : Save (fun _ => False) w w') : Below w.heap.size w w' := ⟨h.os, h.tape, h.output, h.size, fun k hk => h.block k hk (fun x => x)⟩
theorem Save.then {S : Nat → Prop} {w a b : World} (h : Save S w a) (k : Save S a b) : Save S w b :=
  ⟨k.os.trans h.os, k.tape.trans h.tape, k.output.trans h.output, Nat.le_trans h.size k.size, fun i hi hs => (k.block i (Nat.lt_of_lt_of_le hi h.size) hs).trans (h.block i hi hs)⟩
theorem Save.setNew {S : Nat → Prop} {w a : World} (h : Save S w a) {p : Addr} (hp : w.heap.size ≤ p.block) (u : Value) : Save S w (a.setCell p u) :=
  ⟨h.os, h.tape, h.output, by simpa [World.setCell] using h.size, fun i hi hs => (Below.heap_setCell _ _ _ _ (by omega)).trans (h.block i hi hs)⟩
theorem Save.setIn {S : Nat → Prop} {w a : World} (h : Save S w a) {p : Addr} (hp : S p.block) (u : Value) : Save S w (a.setCell p u) :=
  ⟨h.os, h.tape, h.output, by simpa [World.setCell] using h.size, fun i hi hs => (Below.heap_setCell _ _ _ _ (fun e => hs (by rw [e]; exact hp))).trans (h.block i hi hs)⟩
theorem Save.blk {S : Nat → Prop} {w a : World} (h : Save S w a) {g : Nat} {o : Obj} (k : w.heap[g]? = some o) (hs : ¬ S g) : a.heap[g]? = some o := (h.block g (blk_lt k) hs).trans k

/-- What lies in the two results' variables of Run. -/
structure Two (S : Nat → Prop) (P : World → Prop) (w : World) (g2 g3 : Nat) (cs ds : Array Value) (W : World) : Prop where
  b : Save S w W
  p : P W
  st : ∀ W W', Below w.heap.size W W' → P W → P W'
  h2 : w.heap.size ≤ g2
  h3 : w.heap.size ≤ g3
  n : g2 ≠ g3
  k2 : W.heap[g2]? = some (.cells cs 31 (0, 0))
  k3 : W.heap[g3]? = some (.cells ds 32 (0, 0))
section
variable {S : Nat → Prop} {P : World → Prop} {w : World} {g2 g3 : Nat} {cs ds : Array Value} {W : World}
theorem Two.drew (h : Two S P w g2 g3 cs ds W) : Two S P w g2 g3 cs ds W.drew :=
  ⟨⟨h.b.os, h.b.tape, h.b.output, h.b.size, h.b.block⟩, h.st _ _ (Below.refl _ _).drew h.p, h.st, h.h2, h.h3, h.n, h.k2, h.k3⟩
theorem set_same {cs : Array Value} {i : Nat} {u : Value} (h : cs[i]? = some u) : cs.setIfInBounds i u = cs := by
  apply Array.ext_getElem?
  intro j
  rw [Array.getElem?_setIfInBounds]
  split
  · rename_i e; subst e; split
    · exact h.symm
    · rename_i e; rw [Array.getElem?_eq_none (by omega)] at h; cases h
  · rfl
theorem Two.put2 (h : Two S P w g2 g3 cs ds W) (i : Nat) (u : Value) : Two S P w g2 g3 (cs.setIfInBounds i u) ds (W.setCell ⟨g2, i, none⟩ u) :=
  ⟨h.b.setNew h.h2 _, h.st _ _ ((Below.refl _ _).setCell h.h2 _) h.p, h.st, h.h2, h.h3, h.n, blk_set h.k2 i u, blk_far h.k3 (fun e => h.n e.symm) _⟩
theorem Two.put3 (h : Two S P w g2 g3 cs ds W) (i : Nat) (u : Value) : Two S P w g2 g3 cs (ds.setIfInBounds i u) (W.setCell ⟨g3, i, none⟩ u) :=
  ⟨h.b.setNew h.h3 _, h.st _ _ ((Below.refl _ _).setCell h.h3 _) h.p, h.st, h.h2, h.h3, h.n, blk_far h.k2 h.n _, blk_set h.k3 i u⟩
theorem Two.set2 (h : Two S P w g2 g3 cs ds W) {i : Nat} {u : Value} (hu : cs[i]? = some u) : Two S P w g2 g3 cs ds (W.setCell ⟨g2, i, none⟩ u) := by
  have := h.put2 i u; rwa [set_same hu] at this
theorem Two.set3 (h : Two S P w g2 g3 cs ds W) {i : Nat} {u : Value} (hu : ds[i]? = some u) : Two S P w g2 g3 cs ds (W.setCell ⟨g3, i, none⟩ u) := by
  have := h.put3 i u; rwa [set_same hu] at this
theorem Two.new (h : Two S P w g2 g3 cs ds W) {p : Addr} (hp : w.heap.size ≤ p.block) (n2 : g2 ≠ p.block) (n3 : g3 ≠ p.block) (u : Value) : Two S P w g2 g3 cs ds (W.setCell p u) :=
  ⟨h.b.setNew hp _, h.st _ _ ((Below.refl _ _).setCell hp _) h.p, h.st, h.h2, h.h3, h.n, blk_far h.k2 n2 _, blk_far h.k3 n3 _⟩
end

def Pan (pl : Bool) (e : Ending) : Prop := ∃ v, e = .panicked [{ v := v, recovered := false }] ∧ RtV pl v
/-- A value of api.Value, cell by cell. -/
structure Cells where
  k : Int
  i : Int
  f : Nat
  s : ByteArray
  a : Option Addr
  n : Nat
  c : Nat
def Cells.row (v : Cells) : Array Value := #[.int .i64 v.k, .int .i64 v.i, .float .f64 v.f, .string v.s, .slice v.a v.n v.c]
def zeroCells : Cells := ⟨0, 0, 0, ⟨#[]⟩, none, 0, 0⟩

set_option maxHeartbeats 4000000 in
set_option maxRecDepth 100000 in
/-- Run's closure, where what it calls panics. -/
theorem run25_panQ (k : FuncId) (caps : Array Value) (pl : Bool) (a : Addr) (b c : Value) (W : World) (Q : World → Prop) (hce : ∀ args W, (callFunc k args).run Tryd.prog W = .ok (.enter k args) W)
    (h0 : W.cell? a = some (.func (.func k) #[] caps)) (hk : Calls Tryd.prog k caps W fun e W' => Pan pl e ∧ Q W') :
    Calls Tryd.prog 25 #[.pointer (some a), b, c] W fun e W' => Pan pl e ∧ Q W' := by
  go_enter Tryd.func25, Tryd.ntmps25
  go_wp2_with fail
  refine hk.mono ?_
  rintro e W' ⟨⟨v, rfl, hv⟩, hB⟩
  go_wp2_with fail
  exact ⟨rfl, ⟨v, rfl, hv⟩, hB⟩

attribute [local go_sem] store_float
set_option maxHeartbeats 4000000 in
set_option maxRecDepth 100000 in
/-- Run's closure, where what it calls returns. -/
theorem run25_retQ (k : FuncId) (caps : Array Value) (a : Addr) (g2 g3 : Nat) (v : Cells) (r : Int) (w0 W : World) (S : Nat → Prop) (P N : World → Prop) (hN : ∀ W p u, (p.block = g2 ∨ p.block = g3) → N W → N (W.setCell p u)) (hce : ∀ args W, (callFunc k args).run Tryd.prog W = .ok (.enter k args) W)
    (h0 : W.cell? a = some (.func (.func k) #[] caps)) (hk : Calls Tryd.prog k caps W fun e W' => e = .returned (.tuple #[.agg v.row, .int .i64 r]) ∧ Two S P w0 g2 g3 zeroCells.row #[.int .i64 0] W' ∧ N W') :
    Calls Tryd.prog 25 #[.pointer (some a), .pointer (some ⟨g2, 0, none⟩), .pointer (some ⟨g3, 0, none⟩)] W fun e W' => e = .returned (.tuple #[]) ∧ Two S P w0 g2 g3 v.row #[.int .i64 r] W' ∧ N W' := by
  obtain ⟨v0, v1, v2, v3, va, vn, vc⟩ := v
  unfold Cells.row at hk ⊢
  go_enter Tryd.func25, Tryd.ntmps25
  go_wp2_with fail
  refine hk.mono ?_
  rintro e W' ⟨rfl, hT, hn⟩
  have q0 : W'.cell? ⟨g2, 0, none⟩ = some (.int .i64 0) := blk_cell hT.k2 0
  have q1 : W'.cell? ⟨g2, 1, none⟩ = some (.int .i64 0) := blk_cell hT.k2 1
  have q2 : W'.cell? ⟨g2, 2, none⟩ = some (.float .f64 0) := blk_cell hT.k2 2
  have q3 : W'.cell? ⟨g2, 3, none⟩ = some (.string ⟨#[]⟩) := blk_cell hT.k2 3
  have q4 : W'.cell? ⟨g2, 4, none⟩ = some (.slice none 0 0) := blk_cell hT.k2 4
  have r0 : W'.cell? ⟨g3, 0, none⟩ = some (.int .i64 0) := blk_cell hT.k3 0
  have f0 : W'.frozen? ⟨g2, 0, none⟩ = false := blk_frozen hT.k2 0
  have f1 : W'.frozen? ⟨g2, 1, none⟩ = false := blk_frozen hT.k2 1
  have f2 : W'.frozen? ⟨g2, 2, none⟩ = false := blk_frozen hT.k2 2
  have f3 : W'.frozen? ⟨g2, 3, none⟩ = false := blk_frozen hT.k2 3
  have f4 : W'.frozen? ⟨g2, 4, none⟩ = false := blk_frozen hT.k2 4
  have rf : W'.frozen? ⟨g3, 0, none⟩ = false := blk_frozen hT.k3 0
  have hne : ¬ g2 = g3 := hT.n
  have hne2 : ¬ g3 = g2 := fun e => hT.n e.symm
  have HT := Aside0.mk hT
  have HN := Aside0.mk hn
  clear hT hn
  go_wp2_with fail
  go_end0
  have X := (((((HT.out.put2 0 (.int .i64 v0)).put2 1 (.int .i64 v1)).put2 2 (.float .f64 v2)).put2 3 (.string v3)).put2 4 (.slice va vn vc)).put3 0 (.int .i64 r)
  exact ⟨rfl, X, hN _ _ _ (.inr rfl) (hN _ _ _ (.inl rfl) (hN _ _ _ (.inl rfl) (hN _ _ _ (.inl rfl) (hN _ _ _ (.inl rfl) (hN _ _ _ (.inl rfl) HN.out)))))⟩
end Go.Proofs.YtpalofbphmjijaaDoor.Gd
