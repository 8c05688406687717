import Derived.Test.YtejfmghjmhiodaaGreatDoorProg
import Derived.Test.YtejfmghjmhiodaaGreatDoorWMore
import Derived.Laws.Cover2
import Derived.LoopTactic
namespace Go.Proofs.YtejfmghjmhiodaaGreatDoor.Vz
open Go.RowKit Go.Proofs.YtejfmghjmhiodaaGreatDoorW.PrintWords
set_option linter.unusedVariables false
set_option linter.unusedSimpArgs false
theorem store_float {P : Program} {w : World} {a : Addr} {m : Mode} (k : FloatKind) (x : Nat) : (store a (.float k x) m).run P w = stored P w a (.float k x) m := run_store P w a _ m rfl

/-- All blocks but those of S are as they were. -/
structure Save (S : Nat → Prop) (w w' : World) : Prop where
  os : w'.os = w.os
  tape : w'.tape = w.tape
  output : w'.output = w.output
  size : w.heap.size ≤ w'.heap.size
  block : ∀ k, k < w.heap.size → ¬ S k → w'.heap[k]? = w.heap[k]?
theorem Save.of {S : Nat → Prop} {w w' : World} (h : Below w.heap.size w w') : Save S w w' := ⟨h.os, h.tape, h.output, h.size, fun k hk _ => h.block k hk⟩
theorem Save.below {w w' : World} (h : Save (fun _ => False) w w') : Below w.heap.size w w' := ⟨h.os, h.tape, h.output, h.size, fun k hk => h.block k hk (fun x => x)⟩
theorem Save.then {S : Nat → Prop} {w a b : World} (h : Save S w a) (k : Save S a b) : Save S w b :=
  ⟨k.os.trans h.os, k.tape.trans h.tape, k.output.trans h.output, Nat.le_trans h.size k.size, fun i hi hs => (k.block i (Nat.lt_of_lt_of_le hi h.size) hs).trans (h.block i hi hs)⟩
theorem Save.setNew {S : Nat → Prop} {w a : World} (h : Save S w a) {p : Addr} (hp : w.heap.size ≤ p.block) (u : Value) : Save S w (a.setCell p u) :=
  ⟨h.os, h.tape, h.output, by simpa [World.setCell] using h.size, fun i hi hs => (Below.heap_setCell _ _ _ _ (by omega)).trans (h.block i hi hs)⟩
theorem Save.setIn {S : Nat → Prop} {w a : World} (h : Save S w a) {p : Addr} (hp : S p.block) (u : Value) : Save S w (a.setCell p u) :=
  ⟨h.os, h.tape, h.output, by simpa [World.setCell] using h.size, fun i hi hs => (Below.heap_setCell _ _ _ _ (fun e => hs (by rw [e]; exact hp))).trans (h.block i hi hs)⟩
theorem Save.blk {S : Nat → Prop} {w a : World} (h : Save S w a) {g : Nat} {o : Obj} (k : w.heap[g]? = some o) (hs : ¬ S g) : a.heap[g]? = some o := (h.block g (blk_lt k) hs).trans k

attribute [local go_sem] store_float
/-- One new block. -/
structure One (w : World) (g : Nat) (t : TypeId) (cs : Array Value) (W : World) : Prop where
  b : Below w.heap.size w W
  hg : w.heap.size ≤ g
  k : W.heap[g]? = some (.cells cs t (0, 0))
theorem One.put {w : World} {g : Nat} {t : TypeId} {cs : Array Value} {W : World} (h : One w g t cs W) (i : Nat) (u : Value) : One w g t (cs.setIfInBounds i u) (W.setCell ⟨g, i, none⟩ u) := ⟨h.b.setCell h.hg _, h.hg, blk_set h.k i u⟩
theorem One.drew {w : World} {g : Nat} {t : TypeId} {cs : Array Value} {W : World} (h : One w g t cs W) : One w g t cs W.drew := ⟨h.b.drew, h.hg, h.k⟩

theorem cells_put {W : World} {g : Nat} {cur cs : Array Value} {e : TypeId} (hb : W.heap[g]? = some (.cells cur e (0, 0))) (hs : cur.size = cs.size) :
    (W.setCells g 0 cs.toList).heap[g]? = some (.cells cs e (0, 0)) ∧ Save (fun k => k = g) W (W.setCells g 0 cs.toList) := by
  obtain ⟨cur', h1, h2, h3⟩ := setCells_row cs.toList 0 W cur hb (by simp [hs])
  obtain ⟨s1, s2, s3, s4⟩ := setCells_same g cs.toList 0 W
  have e : cur' = cs := by
    apply Array.toList_inj.1
    rw [h3]; simp [hs.symm]
  rw [e] at h1
  exact ⟨h1, s1, s2, s3, by rw [s4]; exact Nat.le_refl _, fun k _ hk => setCells_far _ _ k hk⟩

section
variable {P : Program} {ops : Array Oper} {rest : List Oper} {o : Oper} {a : Act} {Q : Exit → Act → World → Prop}
theorem put_event {W : World} (hgd : o.guard = none) {t : TypeId} {p : Tmp} {v : Operand} (ho : o.op = .store t (.tmp p) v) (hN : o.dst = none) {g : Nat} {cur cs : Array Value} {e : TypeId}
    (hp : a.eval (.tmp p) = .pointer (some ⟨g, 0, none⟩)) (hv : a.eval v = .agg cs) (hb : W.heap[g]? = some (.cells cur e (0, 0))) (hs : cur.size = cs.size) (hi : (P.info? t).map (·.size) = some cs.size) (h1 : ∀ q ∈ cs.toList, q.oneCell' = true) (hc : (Value.agg cs).cells = cs)
    (h : ∀ w1, w1.heap[g]? = some (.cells cs e (0, 0)) → Save (fun k => k = g) W w1 → wpList P ops Q rest a w1) : wpList P ops Q (o :: rest) a W := by
  have hr := run_store_run (P := P) (o := 0) t (.agg cs) cs.toList hb (by rw [hc]) (by rw [hi]; simp) (by simp [hs]) h1
  refine wpList_plain hgd fun K hK => ?_
  have hx : (execOp a.eval o).run P W = .ok .skip (W.setCells g 0 cs.toList) := by
    simp [execOp, ho, hp, hv, hr]
  unfold Oper.wp
  rw [hx]
  show K (a.put o.dst undef) _
  rw [hN]
  obtain ⟨k1, k2⟩ := cells_put hb hs
  exact hK _ _ (h _ k1 k2)
end
theorem below_keep {w W W' : World} {g : Nat} (h : Below w.heap.size w W) (hg : w.heap.size ≤ g) (k : Save (fun k => k = g) W W') : Below w.heap.size w W' :=
  ⟨k.os.trans h.os, k.tape.trans h.tape, k.output.trans h.output, Nat.le_trans h.size k.size, fun i hi => (k.block i (Nat.lt_of_lt_of_le hi h.size) (by omega)).trans (h.block i hi)⟩

section
variable {P : Program} {ops : Array Oper} {rest : List Oper} {o : Oper} {a : Act} {Q : Exit → Act → World → Prop}
theorem put_eventU {W : World} (hgd : o.guard = none) {t : TypeId} {p : Tmp} {v : Operand} (ho : o.op = .store t (.tmp p) v) (hN : o.dst = none) {g : Nat} {u : Value} {cur cs : Array Value} {e : TypeId}
    (hp : a.eval (.tmp p) = .pointer (some ⟨g, 0, none⟩)) (hv : a.eval v = u) (hb : W.heap[g]? = some (.cells cur e (0, 0))) (hs : cur.size = cs.size) (hi : (P.info? t).map (·.size) = some cs.size) (h1 : ∀ q ∈ cs.toList, q.oneCell' = true) (hc : u.cells = cs)
    (h : ∀ w1, w1.heap[g]? = some (.cells cs e (0, 0)) → Save (fun k => k = g) W w1 → wpList P ops Q rest a w1) : wpList P ops Q (o :: rest) a W := by
  have hr := run_store_run (P := P) (o := 0) t u cs.toList hb (by rw [hc]) (by rw [hi]; simp) (by simp [hs]) h1
  refine wpList_plain hgd fun K hK => ?_
  have hx : (execOp a.eval o).run P W = .ok .skip (W.setCells g 0 cs.toList) := by
    simp [execOp, ho, hp, hv, hr]
  unfold Oper.wp
  rw [hx]
  show K (a.put o.dst undef) _
  rw [hN]
  obtain ⟨k1, k2⟩ := cells_put hb hs
  exact hK _ _ (h _ k1 k2)
end
theorem Save.mono {S T : Nat → Prop} {w w' : World} (h : Save S w w') (hST : ∀ k, S k → T k) : Save T w w' := ⟨h.os, h.tape, h.output, h.size, fun k hk hs => h.block k hk (fun x => hs (hST k x))⟩
theorem Save.newer {S : Nat → Prop} {w a b : World} {g : Nat} (h : Save S w a) (k : Save (fun k => k = g) a b) (hg : w.heap.size ≤ g) : Save S w b :=
  ⟨k.os.trans h.os, k.tape.trans h.tape, k.output.trans h.output, Nat.le_trans h.size k.size, fun i hi hs => (k.block i (Nat.lt_of_lt_of_le hi h.size) (by omega)).trans (h.block i hi hs)⟩
theorem Save.belowed {S : Nat → Prop} {w a b : World} (h : Save S w a) (k : Below a.heap.size a b) : Save S w b := h.then (Save.of k)
theorem Save.grown {S : Nat → Prop} {w a b : World} {row : Option Nat} (h : Save S w a) (hg : a.grownBy b row) (hr : ∀ k, row = some k → w.heap.size ≤ k) : Save S w b :=
  ⟨hg.os.trans h.os, hg.tape.trans h.tape, hg.output.trans h.output, Nat.le_trans h.size hg.size, fun k hk hs => (hg.block k (Nat.lt_of_lt_of_le hk h.size) (fun e => by have := hr k e.symm; omega)).trans (h.block k hk hs)⟩
theorem own_save {w w' : World} {base e size : Nat} {v : Value} {n : Nat} {xs : List Value} {S : Nat → Prop} (h : w.ownsRow base e size v n xs) (hs : Save S w w') (hS : ∀ k, v.ownBlock = some k → ¬ S k) : w'.ownsRow base e size v n xs := by
  obtain ⟨h1, h2⟩ := h
  refine ⟨h1, ?_⟩
  rcases h2 with h2 | ⟨g, cap, cur, hv, hg, hh, r⟩
  · exact .inl h2
  · exact .inr ⟨g, cap, cur, hv, hg, hs.blk hh (hS g (by rw [hv]; rfl)), r⟩
theorem own_under {w : World} {base e size : Nat} {v : Value} {n : Nat} {xs : List Value} (h : w.ownsRow base e size v n xs) : ∀ k, v.ownBlock = some k → base ≤ k ∧ k < w.heap.size := by
  intro k hk
  rcases h.2 with ⟨hv, _⟩ | ⟨g, cap, cur, hv, hg, hh, _⟩
  · rw [hv] at hk; cases hk
  · rw [hv] at hk
    obtain rfl : g = k := by simpa [Value.ownBlock] using hk
    exact ⟨hg, blk_lt hh⟩
theorem info25 : (Tryz.prog.info? 25).map (fun i => (i.zero, i.size, i.bytes)) = some (some (.agg #[.int .i64 0, .int .i64 0, .float .f64 0, .string ⟨#[]⟩, .slice none 0 0]), 5, 64) := by kernel_rfl


set_option maxHeartbeats 8000000 in
set_option maxRecDepth 100000 in
/-- choirref1.Int. -/
theorem int14 (n : Int) (w : World) : Calls Tryz.prog 23 #[.int .i64 n] w fun e w' => e = .returned (.agg #[.int .i64 1, .int .i64 n, .float .f64 0, .string ⟨#[]⟩, .slice none 0 0]) ∧ Below w.heap.size w w' := by
  have hB := Aside0.mk ((Below.refl w.heap.size w).alloc (Nat.le_refl _) (.cells #[.int .i64 1, .int .i64 n, .float .f64 0, .string ⟨#[]⟩, .slice none 0 0] 25))
  go_enter Tryz.func23, Tryz.ntmps23
  go_wp2
  refine bodyPost_ret (v := .agg #[.int .i64 1, .int .i64 n, .float .f64 0, .string ⟨#[]⟩, .slice none 0 0]) (by simp [results, Tryz.results23, go_sem]) rfl ⟨rfl, ?_⟩
  exact hB.out

/-- A value of api.Value: kind, I, F's bits, S, L. -/
inductive Val where
  | mk (k i : Int) (f : Nat) (s : ByteArray) (l : List Val)

theorem cell_in {w : World} {b o : Nat} {v : Value} (h : w.cell? ⟨b, o, none⟩ = some v) : b < w.heap.size := by
  rcases Nat.lt_or_ge b w.heap.size with h1 | h1
  · exact h1
  · have : w.heap[b]? = none := Array.getElem?_eq_none h1
    simp [World.cell?, this] at h
/-- A value as it lies in memory; the blocks of its lists are 'ok'. -/
inductive RV (W : World) (ok : Nat → Prop) : Val → Array Value → Prop
  | mk (k i : Int) (f : Nat) (s : ByteArray) (l : List Val) (A : Option Addr) (c g off : Nat) (cs : Nat → Array Value)
      (hk : (Lit.int .i64 k).wf = true) (hi : (Lit.int .i64 i).wf = true) (hf : (Lit.float .f64 f).wf = true) (hs : s.size ≤ 140737488351232)
      (hc : l.length ≤ c) (hb : l.length * 64 ≤ 140737488351232) (hA : 0 < l.length → A = some ⟨g, off, none⟩ ∧ ok g)
      (hcell : ∀ j, j < l.length → ∀ q, q < 5 → W.cell? ⟨g, off + j * 5 + q, none⟩ = (cs j)[q]?)
      (hsub : ∀ (j : Nat) (h : j < l.length), RV W ok l[j] (cs j)) :
      RV W ok (.mk k i f s l) #[.int .i64 k, .int .i64 i, .float .f64 f, .string s, .slice A l.length c]
theorem RV.form {W : World} {ok : Nat → Prop} {v : Val} {cs : Array Value} (h : RV W ok v cs) : ∃ (k i : Int) (f : Nat) (s : ByteArray) (A : Option Addr) (n c : Nat), cs = #[.int .i64 k, .int .i64 i, .float .f64 f, .string s, .slice A n c] := by
  cases h with
  | mk k i f s l A c g off cs => exact ⟨k, i, f, s, A, _, c, rfl⟩
theorem RV.step {W W' : World} {ok ok' : Nat → Prop} {v : Val} {cs : Array Value} (h : RV W ok v cs) (hm : ∀ g, ok g → g < W.heap.size → W'.heap[g]? = W.heap[g]?) (hok : ∀ g, ok g → g < W.heap.size → ok' g) : RV W' ok' v cs := by
  induction h with
  | mk k i f s l A c g off cs hk hi hf hs hc hb hA hcell hsub ih =>
    have hg : 0 < l.length → g < W.heap.size := fun hp => by
      have h1 := hcell 0 hp 0 (by decide)
      obtain ⟨_, _, _, _, _, _, _, e⟩ := (hsub 0 hp).form
      rw [e] at h1
      exact cell_in h1
    refine .mk k i f s l A c g off cs hk hi hf hs hc hb (fun hp => ⟨(hA hp).1, hok g (hA hp).2 (hg hp)⟩) (fun j hj q hq => ?_) ih
    have hp : 0 < l.length := Nat.lt_of_le_of_lt (Nat.zero_le _) hj
    rw [← hcell j hj q hq]
    exact World.cell?_of_block (hm g (hA hp).2 (hg hp))
theorem RV.kept {W W' : World} {ok : Nat → Prop} {v : Val} {cs : Array Value} (h : RV W ok v cs) (hb : Below W.heap.size W W') : RV W' ok v cs := h.step (fun g _ hg => hb.block g hg) (fun _ h _ => h)
theorem RV.mono {W : World} {ok ok' : Nat → Prop} {v : Val} {cs : Array Value} (h : RV W ok v cs) (hok : ∀ g, ok g → g < W.heap.size → ok' g) : RV W ok' v cs := h.step (fun _ _ _ => rfl) hok
/-- Its elements' cells. -/
theorem cells5 {W : World} {g o : Nat} {cs : Array Value} {x0 x1 x2 x3 x4 : Value} (h : ∀ q, q < 5 → W.cell? ⟨g, o + q, none⟩ = cs[q]?) (e : cs = #[x0, x1, x2, x3, x4]) :
    W.cell? ⟨g, o, none⟩ = some x0 ∧ W.cell? ⟨g, o + 1, none⟩ = some x1 ∧ W.cell? ⟨g, o + 2, none⟩ = some x2 ∧ W.cell? ⟨g, o + 3, none⟩ = some x3 ∧ W.cell? ⟨g, o + 4, none⟩ = some x4 := by
  subst e
  exact ⟨h 0 (by decide), h 1 (by decide), h 2 (by decide), h 3 (by decide), h 4 (by decide)⟩
theorem Val.ind {P : Val → Prop} (h : ∀ k i f s l, (∀ (j : Nat) (hj : j < l.length), P l[j]) → P (.mk k i f s l)) (v : Val) : P v :=
  match v with
  | .mk k i f s l => h k i f s l fun j hj => Val.ind h l[j]
termination_by SizeOf.sizeOf v
decreasing_by
  have := List.sizeOf_lt_of_mem (List.getElem_mem hj)
  simp
  omega
theorem RV.len {W : World} {ok : Nat → Prop} {k i : Int} {f : Nat} {s : ByteArray} {l : List Val} {cs : Array Value} (h : RV W ok (.mk k i f s l) cs) : ∃ (A : Option Addr) (c : Nat), cs = #[.int .i64 k, .int .i64 i, .float .f64 f, .string s, .slice A l.length c] ∧ (Lit.int .i64 k).wf = true ∧ (Lit.int .i64 i).wf = true ∧ (Lit.float .f64 f).wf = true ∧ s.size ≤ 140737488351232 ∧ l.length ≤ c ∧ l.length * 64 ≤ 140737488351232 := by
  cases h with
  | mk k i f s l A c g off cs hk hi hf hs hc hb => exact ⟨A, c, rfl, hk, hi, hf, hs, hc, hb⟩
theorem RV.elem {W : World} {ok : Nat → Prop} {k i : Int} {f : Nat} {s : ByteArray} {l : List Val} {x0 x1 x2 x3 : Value} {A : Option Addr} {n c : Nat} (h : RV W ok (.mk k i f s l) #[x0, x1, x2, x3, .slice A n c]) (j : Nat) (hj : j < l.length) :
    ∃ (g off : Nat) (k' i' : Int) (f' : Nat) (s' : ByteArray) (A' : Option Addr) (n' c' : Nat), A = some ⟨g, off, none⟩ ∧ ok g ∧ g < W.heap.size ∧ RV W ok l[j] #[.int .i64 k', .int .i64 i', .float .f64 f', .string s', .slice A' n' c'] ∧
      W.cell? ⟨g, off + j * 5, none⟩ = some (.int .i64 k') ∧ W.cell? ⟨g, off + j * 5 + 1, none⟩ = some (.int .i64 i') ∧ W.cell? ⟨g, off + j * 5 + 2, none⟩ = some (.float .f64 f') ∧ W.cell? ⟨g, off + j * 5 + 3, none⟩ = some (.string s') ∧ W.cell? ⟨g, off + j * 5 + 4, none⟩ = some (.slice A' n' c') := by
  cases h with
  | mk k i f s l A c g off cs hk hi hf hs hc hb hA hcell hsub =>
    have hp : 0 < l.length := Nat.lt_of_le_of_lt (Nat.zero_le _) hj
    obtain ⟨k', i', f', s', A', n', c', e⟩ := (hsub j hj).form
    obtain ⟨p0, p1, p2, p3, p4⟩ := cells5 (hcell j hj) e
    exact ⟨g, off, k', i', f', s', A', n', c', (hA hp).1, (hA hp).2, cell_in p0, by rw [← e]; exact hsub j hj, p0, p1, p2, p3, p4⟩

set_option maxHeartbeats 8000000 in
set_option maxRecDepth 100000 in
/-- Deep. -/
theorem deep27 : ∀ (v : Val) (W : World) (ok : Nat → Prop) (cs : Array Value), RV W ok v cs → ∀ most : Int, Calls Tryz.prog 29 #[.agg cs, .int .i64 most] W fun e w' => (∃ b, e = .returned (.bool b)) ∧ Below W.heap.size W w' := by
  intro v
  induction v using Val.ind with
  | h k i f s l ih =>
    intro W ok cs hR most
    obtain ⟨A, c, rfl, wk, wi, wf, ws, wc, wb⟩ := hR.len
    have HI := Aside0.mk ih
    have HR := Aside0.mk hR
    have HWB := Aside0.mk (show (l.length : Int) * 64 ≤ 140737488351232 ∧ l.length ≤ c by omega)
    have hnn : (0 : Int) ≤ (l.length : Int) := by omega
    have hss : (s.size : Int) ≤ 140737488351232 := by omega
    have hs0 : (0 : Int) ≤ (s.size : Int) := by omega
    clear ih hR wk wi wf ws wc wb
    obtain ⟨n, hn⟩ : ∃ n, l.length = n := ⟨_, rfl⟩
    have HNL := Aside0.mk hn
    rw [hn] at HR HWB hnn ⊢
    clear hn
    by_cases hk4 : k = 4
    · subst hk4
      by_cases hm : most = 0
      · subst hm
        go_enter Tryz.func29, Tryz.ntmps29
        go_wp2_with (first
          | ((with_reducible refine gate_dst (N := 2) rfl ?_); refine box_event ?hg (N := 2) ?hd (cs := #[.int .i64 4, .int .i64 i, .float .f64 f, .string s, .slice A n c]) (t := 25) ?hr ?_; (case hd => rfl); (case hg => rfl); (case hr => first | (go_simp; done) | (go_simp; rfl)); intro gb hg w1 hbox hb; have HB := Aside0.mk hb; have KB := Aside0.mk hbox; have b0 : w1.cell? ⟨gb, 0, none⟩ = some (.int .i64 4) := blk_cell hbox 0; clear hg hbox hb))
        go_ret
        exact ⟨⟨_, rfl⟩, HB.out⟩
      · have hm1 : (most == 0) = false := by rw [beq_eq_false_iff_ne]; exact hm
        clear hm
        go_enter Tryz.func29, Tryz.ntmps29
        go_upto_region 5 with (first
          | ((with_reducible refine gate_dst (N := 2) rfl ?_); refine box_event ?hg (N := 2) ?hd (cs := #[.int .i64 4, .int .i64 i, .float .f64 f, .string s, .slice A n c]) (t := 25) ?hr ?_; (case hd => rfl); (case hg => rfl); (case hr => first | (go_simp; done) | (go_simp; rfl)); intro gb hg w1 hbox hb; have HB := Aside0.mk hb; have KB := Aside0.mk hbox; have b0 : w1.cell? ⟨gb, 0, none⟩ = some (.int .i64 4) := blk_cell hbox 0; clear hg hbox hb))
        clear b0
        go_wp2
        go_loopw [5] (fun ix wr => ∃ j : Nat, j ≤ n ∧ ix = .int .i64 (j : Int) ∧ Aside0 (Below W.heap.size W wr) ∧ Aside0 (wr.heap[gb]? = some (.cells #[.int .i64 4, .int .i64 i, .float .f64 f, .string s, .slice A n c] 25 (0, 0)))) (fun ix _ => n - (intOf ix).toNat)
        case atStart => exact ⟨0, by omega, rfl, HB, KB⟩
        case round =>
          obtain ⟨j, hj, rfl, HB', KB'⟩ := hrel
          have b4 : wr.cell? ⟨gb, 4, none⟩ = some (.slice A n c) := blk_cell KB'.out 4
          by_cases hlt : j < n
          · have hji : (j : Int) < (n : Int) := by omega
            have hj0 : (0 : Int) ≤ (j : Int) := by omega
            have hjl : j < l.length := by rw [HNL.out]; exact hlt
            obtain ⟨g, off, k', i', f', s', A', n', c', rfl, hg1, hg2, hsub, p0, p1, p2, p3, p4⟩ := (HR.out.kept HB'.out).elem j hjl
            have hih := HI.out j hjl
            generalize l[j] = x at hsub hih
            have HSub := Aside0.mk hsub
            have HIx := Aside0.mk hih
            have hwk : IntKind.i64.wrap ((j : Int) + 1) = ((j + 1 : Nat) : Int) := by have := HWB.out; rw [IntKind.wrap_i64]; omega
            clear hsub hih hjl hg1 hg2
            go_wp2_with (go_at_call 29; refine (HIx.out _ _ _ HSub.out _).mono ?_; rintro e w2 ⟨⟨b, rfl⟩, hb⟩; have HB2 := Aside0.mk (below_step HB'.out hb); have KB2 := Aside0.mk (blk_below KB'.out hb); clear hb)
            · go_ret
              exact ⟨⟨_, rfl⟩, HB2.out⟩
            · go_roundw
              case rel => exact ⟨j + 1, by omega, by go_num, HB2, KB2⟩
              case measure => simp [intOf]; omega
          · obtain rfl : j = n := by omega
            go_wp2
            go_ret
            exact ⟨⟨_, rfl⟩, HB'.out⟩
    · have hk5 : (k != 4) = true := by rw [bne_iff_ne]; exact hk4
      clear hk4
      go_enter Tryz.func29, Tryz.ntmps29
      go_wp2_with (first
          | ((with_reducible refine gate_dst (N := 2) rfl ?_); refine box_event ?hg (N := 2) ?hd (cs := #[.int .i64 k, .int .i64 i, .float .f64 f, .string s, .slice A n c]) (t := 25) ?hr ?_; (case hd => rfl); (case hg => rfl); (case hr => first | (go_simp; done) | (go_simp; rfl)); intro gb hg w1 hbox hb; have HB := Aside0.mk hb; have KB := Aside0.mk hbox; have b0 : w1.cell? ⟨gb, 0, none⟩ = some (.int .i64 k) := blk_cell hbox 0; clear hg hbox hb))
      go_ret
      exact ⟨⟨_, rfl⟩, HB.out⟩

set_option maxHeartbeats 8000000 in
set_option maxRecDepth 100000 in
/-- Size. -/
theorem size28 : ∀ (v : Val) (W : World) (ok : Nat → Prop) (cs : Array Value), RV W ok v cs → Calls Tryz.prog 19 #[.agg cs] W fun e w' => (∃ b, e = .returned (.int .i64 b)) ∧ Below W.heap.size W w' := by
  intro v
  induction v using Val.ind with
  | h k i f s l ih =>
    intro W ok cs hR 
    obtain ⟨A, c, rfl, wk, wi, wf, ws, wc, wb⟩ := hR.len
    have HI := Aside0.mk ih
    have HR := Aside0.mk hR
    have HWB := Aside0.mk (show (l.length : Int) * 64 ≤ 140737488351232 ∧ l.length ≤ c by omega)
    have hnn : (0 : Int) ≤ (l.length : Int) := by omega
    have hss : (s.size : Int) ≤ 140737488351232 := by omega
    have hs0 : (0 : Int) ≤ (s.size : Int) := by omega
    clear ih hR wk wi wf ws wc wb
    obtain ⟨n, hn⟩ : ∃ n, l.length = n := ⟨_, rfl⟩
    have HNL := Aside0.mk hn
    rw [hn] at HR HWB hnn ⊢
    clear hn
    by_cases hk4 : k = 4
    · subst hk4
      go_enter Tryz.func19, Tryz.ntmps19
      go_upto_region 8 with (first
        | ((with_reducible refine gate_dst (N := 1) rfl ?_); refine box_event ?hg (N := 1) ?hd (cs := #[.int .i64 4, .int .i64 i, .float .f64 f, .string s, .slice A n c]) (t := 25) ?hr ?_; (case hd => rfl); (case hg => rfl); (case hr => first | (go_simp; done) | (go_simp; rfl)); intro gb hg w1 hbox hb; have HB := Aside0.mk hb; have KB := Aside0.mk hbox; have b0 : w1.cell? ⟨gb, 0, none⟩ = some (.int .i64 4) := blk_cell hbox 0; clear hg hbox hb))
      clear b0
      go_wp2
      go_loopw [3, 4] (fun sx ix wr => ∃ (j : Nat) (z : Int), j ≤ n ∧ sx = .int .i64 z ∧ ix = .int .i64 (j : Int) ∧ Aside0 (Below W.heap.size W wr) ∧ Aside0 (wr.heap[gb]? = some (.cells #[.int .i64 4, .int .i64 i, .float .f64 f, .string s, .slice A n c] 25 (0, 0)))) (fun _ ix _ => n - (intOf ix).toNat)
      case atStart => exact ⟨0, _, by omega, rfl, rfl, HB, KB⟩
      case round =>
          obtain ⟨j, z, hj, rfl, rfl, HB', KB'⟩ := hrel
          have b4 : wr.cell? ⟨gb, 4, none⟩ = some (.slice A n c) := blk_cell KB'.out 4
          by_cases hlt : j < n
          · have hji : (j : Int) < (n : Int) := by omega
            have hj0 : (0 : Int) ≤ (j : Int) := by omega
            have hjl : j < l.length := by rw [HNL.out]; exact hlt
            obtain ⟨g, off, k', i', f', s', A', n', c', rfl, hg1, hg2, hsub, p0, p1, p2, p3, p4⟩ := (HR.out.kept HB'.out).elem j hjl
            have hih := HI.out j hjl
            generalize l[j] = x at hsub hih
            have HSub := Aside0.mk hsub
            have HIx := Aside0.mk hih
            have hwk : IntKind.i64.wrap ((j : Int) + 1) = ((j + 1 : Nat) : Int) := by have := HWB.out; rw [IntKind.wrap_i64]; omega
            clear hsub hih hjl hg1 hg2
            go_wp2_with (go_at_call 19; refine (HIx.out _ _ _ HSub.out).mono ?_; rintro e w2 ⟨⟨b, rfl⟩, hb⟩; have HB2 := Aside0.mk (below_step HB'.out hb); have KB2 := Aside0.mk (blk_below KB'.out hb); clear hb)
            go_roundw
            case rel => exact ⟨j + 1, _, by omega, rfl, by go_num, HB2, KB2⟩
            case measure => simp [intOf]; omega
          · obtain rfl : j = n := by omega
            go_wp2
            go_ret
            exact ⟨⟨_, rfl⟩, HB'.out⟩
    · have hk5 : (k == 4) = false := by rw [beq_eq_false_iff_ne]; exact hk4
      clear hk4
      by_cases h3 : k = 3
      · subst h3
        go_enter Tryz.func19, Tryz.ntmps19
        go_wp2_with (first
          | ((with_reducible refine gate_dst (N := 1) rfl ?_); refine box_event ?hg (N := 1) ?hd (cs := #[.int .i64 3, .int .i64 i, .float .f64 f, .string s, .slice A n c]) (t := 25) ?hr ?_; (case hd => rfl); (case hg => rfl); (case hr => first | (go_simp; done) | (go_simp; rfl)); intro gb hg w1 hbox hb; have HB := Aside0.mk hb; have b0 : w1.cell? ⟨gb, 0, none⟩ = some (.int .i64 3) := blk_cell hbox 0; have b3 : w1.cell? ⟨gb, 3, none⟩ = some (.string s) := blk_cell hbox 3; clear hg hbox hb))
        go_ret
        exact ⟨⟨_, rfl⟩, HB.out⟩
      · have hk3 : (k == 3) = false := by rw [beq_eq_false_iff_ne]; exact h3
        clear h3
        by_cases h1 : k = 1 ∨ k = 2
        · rcases h1 with rfl | rfl
          · go_enter Tryz.func19, Tryz.ntmps19
            go_wp2_with (first
              | ((with_reducible refine gate_dst (N := 1) rfl ?_); refine box_event ?hg (N := 1) ?hd (cs := #[.int .i64 1, .int .i64 i, .float .f64 f, .string s, .slice A n c]) (t := 25) ?hr ?_; (case hd => rfl); (case hg => rfl); (case hr => first | (go_simp; done) | (go_simp; rfl)); intro gb hg w1 hbox hb; have HB := Aside0.mk hb; have KB := Aside0.mk hbox; have b0 : w1.cell? ⟨gb, 0, none⟩ = some (.int .i64 1) := blk_cell hbox 0; clear hg hbox hb))
            go_ret
            exact ⟨⟨_, rfl⟩, HB.out⟩
          · go_enter Tryz.func19, Tryz.ntmps19
            go_wp2_with (first
              | ((with_reducible refine gate_dst (N := 1) rfl ?_); refine box_event ?hg (N := 1) ?hd (cs := #[.int .i64 2, .int .i64 i, .float .f64 f, .string s, .slice A n c]) (t := 25) ?hr ?_; (case hd => rfl); (case hg => rfl); (case hr => first | (go_simp; done) | (go_simp; rfl)); intro gb hg w1 hbox hb; have HB := Aside0.mk hb; have KB := Aside0.mk hbox; have b0 : w1.cell? ⟨gb, 0, none⟩ = some (.int .i64 2) := blk_cell hbox 0; clear hg hbox hb))
            go_ret
            exact ⟨⟨_, rfl⟩, HB.out⟩
        · have hk1 : (k == 1) = false := by rw [beq_eq_false_iff_ne]; omega
          have hk2 : (k == 2) = false := by rw [beq_eq_false_iff_ne]; omega
          clear h1
          go_enter Tryz.func19, Tryz.ntmps19
          go_wp2_with (first
              | ((with_reducible refine gate_dst (N := 1) rfl ?_); refine box_event ?hg (N := 1) ?hd (cs := #[.int .i64 k, .int .i64 i, .float .f64 f, .string s, .slice A n c]) (t := 25) ?hr ?_; (case hd => rfl); (case hg => rfl); (case hr => first | (go_simp; done) | (go_simp; rfl)); intro gb hg w1 hbox hb; have HB := Aside0.mk hb; have KB := Aside0.mk hbox; have b0 : w1.cell? ⟨gb, 0, none⟩ = some (.int .i64 k) := blk_cell hbox 0; clear hg hbox hb))
          go_ret
          exact ⟨⟨_, rfl⟩, HB.out⟩

set_option maxHeartbeats 8000000 in
set_option maxRecDepth 100000 in
/-- Light. -/
theorem light15 (v : Val) (W : World) (ok : Nat → Prop) (cs : Array Value) (hR : RV W ok v cs) : Calls Tryz.prog 10 #[.agg cs] W fun e w' => (∃ b, e = .returned (.bool b)) ∧ Below W.heap.size W w' := by
  obtain ⟨k, i, f, s, A, n, c, rfl⟩ := hR.form
  have HR := Aside0.mk hR
  clear hR
  go_enter Tryz.func10, Tryz.ntmps10
  go_wp2_with (first
    | ((with_reducible refine gate_dst (N := 1) rfl ?_); refine box_event ?hg (N := 1) ?hd (cs := #[.int .i64 k, .int .i64 i, .float .f64 f, .string s, .slice A n c]) (t := 25) ?hr ?_; (case hd => rfl); (case hg => rfl); (case hr => first | (go_simp; done) | (go_simp; rfl)); intro gb hg w1 hbox hb; have HB := Aside0.mk hb; have HR := Aside0.mk (HR.out.kept hb); have KB := Aside0.mk hbox; have b0 : w1.cell? ⟨gb, 0, none⟩ = some (.int .i64 k) := blk_cell hbox 0; have b1 : w1.cell? ⟨gb, 1, none⟩ = some (.int .i64 i) := blk_cell hbox 1; have b2 : w1.cell? ⟨gb, 2, none⟩ = some (.float .f64 f) := blk_cell hbox 2; have b3 : w1.cell? ⟨gb, 3, none⟩ = some (.string s) := blk_cell hbox 3; have b4 : w1.cell? ⟨gb, 4, none⟩ = some (.slice A n c) := blk_cell hbox 4; clear hg hbox hb)
    | (go_at_call 29; refine (deep27 _ _ _ _ HR.out _).mono ?_; rintro e w2 ⟨⟨b, rfl⟩, hb⟩; have HR := Aside0.mk (HR.out.kept hb); have HB := Aside0.mk (below_step HB.out hb); have KB := Aside0.mk (blk_below KB.out hb); clear b0 b1 b2 b3 b4; have b0 : w2.cell? ⟨gb, 0, none⟩ = some (.int .i64 k) := blk_cell KB.out 0; have b1 : w2.cell? ⟨gb, 1, none⟩ = some (.int .i64 i) := blk_cell KB.out 1; have b2 : w2.cell? ⟨gb, 2, none⟩ = some (.float .f64 f) := blk_cell KB.out 2; have b3 : w2.cell? ⟨gb, 3, none⟩ = some (.string s) := blk_cell KB.out 3; have b4 : w2.cell? ⟨gb, 4, none⟩ = some (.slice A n c) := blk_cell KB.out 4; clear hb)
    | (go_at_call 19; refine (size28 _ _ _ _ HR.out).mono ?_; rintro e w3 ⟨⟨z, rfl⟩, hb⟩; have HB := Aside0.mk (below_step HB.out hb); clear hb))
  all_goals
    go_ret
    exact ⟨⟨_, rfl⟩, HB.out⟩

end Go.Proofs.YtejfmghjmhiodaaGreatDoor.Vz
