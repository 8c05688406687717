import Derived.Test.YtpalofbphmjijaaDoorGdEach3
import Derived.LoopTactic
namespace Go.Proofs.YtpalofbphmjijaaDoor.Gd
open Go.RowKit Go.Proofs.YtpalofbphmjijaaDoorW.PrintWords
set_option linter.unusedVariables false
set_option linter.unusedSimpArgs false
attribute [local go_sem] store_float

/-- A value of api.Value: kind, I, F's bits, S, L. -/
inductive Val where
  | mk (k i : Int) (f : Nat) (s : ByteArray) (l : List Val)

theorem cell_in {w : World} {b o : Nat} {v : Value} (h : w.cell? ⟨b, o, none⟩ = some v) : b < w.heap.size := by
  rcases Nat.lt_or_ge b w.heap.size with h1 | h1
  · exact h1
  · have : w.heap[b]? = none := Array.getElem?_eq_none h1
    simp [World.cell?, this] at h
/-- A value as it lies in memory; the blocks of its lists are 'ok'. -/
inductive RV (W : World) (ok : Nat → Prop) : Val → Array Value → Prop
  | mk (k i : Int) (f : Nat) (s : ByteArray) (l : List Val) (A : Option Addr) (c g off : Nat) (cs : Nat → Array Value)
      (hk : (Lit.int .i64 k).wf = true) (hi : (Lit.int .i64 i).wf = true) (hf : (Lit.float .f64 f).wf = true) (hs : s.size ≤ 140737488351232)
      (hc : l.length ≤ c) (hb : l.length * 64 ≤ 140737488351232) (hA : 0 < l.length → A = some ⟨g, off, none⟩ ∧ ok g)
      (hcell : ∀ j, j < l.length → ∀ q, q < 5 → W.cell? ⟨g, off + j * 5 + q, none⟩ = (cs j)[q]?)
      (hsub : ∀ (j : Nat) (h : j < l.length), RV W ok l[j] (cs j)) :
      RV W ok (.mk k i f s l) #[.int .i64 k, .int .i64 i, .float .f64 f, .string s, .slice A l.length c]
theorem RV.form {W : World} {ok : Nat → Prop} {v : Val} {cs : Array Value} (h : RV W ok v cs) : ∃ (k i : Int) (f : Nat) (s : ByteArray) (A : Option Addr) (n c : Nat), cs = #[.int .i64 k, .int .i64 i, .float .f64 f, .string s, .slice A n c] := by
  cases h with
  | mk k i f s l A c g off cs => exact ⟨k, i, f, s, A, _, c, rfl⟩
theorem RV.step {W W' : World} {ok ok' : Nat → Prop} {v : Val} {cs : Array Value} (h : RV W ok v cs) (hm : ∀ g, ok g → g < W.heap.size → W'.heap[g]? = W.heap[g]?) (hok : ∀ g, ok g → g < W.heap.size → ok' g) : RV W' ok' v cs := by
  induction h with
  | mk k i f s l A c g off cs hk hi hf hs hc hb hA hcell hsub ih =>
    have hg : 0 < l.length → g < W.heap.size := fun hp => by
      have h1 := hcell 0 hp 0 (by decide)
      obtain ⟨_, _, _, _, _, _, _, e⟩ := (hsub 0 hp).form
      rw [e] at h1
      exact cell_in h1
    refine .mk k i f s l A c g off cs hk hi hf hs hc hb (fun hp => ⟨(hA hp).1, hok g (hA hp).2 (hg hp)⟩) (fun j hj q hq => ?_) ih
    have hp : 0 < l.length := Nat.lt_of_le_of_lt (Nat.zero_le _) hj
    rw [← hcell j hj q hq]
    exact World.cell?_of_block (hm g (hA hp).2 (hg hp))
theorem RV.kept {W W' : World} {ok : Nat → Prop} {v : Val} {cs : Array Value} (h : RV W ok v cs) (hb : Below W.heap.size W W') : RV W' ok v cs := h.step (fun g _ hg => hb.block g hg) (fun _ h _ => h)
theorem RV.mono {W : World} {ok ok' : Nat → Prop} {v : Val} {cs : Array Value} (h : RV W ok v cs) (hok : ∀ g, ok g → g < W.heap.size → ok' g) : RV W ok' v cs := h.step (fun _ _ _ => rfl) hok
/-- Its elements' cells. -/
theorem cells5 {W : World} {g o : Nat} {cs : Array Value} {x0 x1 x2 x3 x4 : Value} (h : ∀ q, q < 5 → W.cell? ⟨g, o + q, none⟩ = cs[q]?) (e : cs = #[x0, x1, x2, x3, x4]) :
    W.cell? ⟨g, o, none⟩ = some x0 ∧ W.cell? ⟨g, o + 1, none⟩ = some x1 ∧ W.cell? ⟨g, o + 2, none⟩ = some x2 ∧ W.cell? ⟨g, o + 3, none⟩ = some x3 ∧ W.cell? ⟨g, o + 4, none⟩ = some x4 := by
  subst e
  exact ⟨h 0 (by decide), h 1 (by decide), h 2 (by decide), h 3 (by decide), h 4 (by decide)⟩
theorem Val.ind {P : Val → Prop} (h : ∀ k i f s l, (∀ (j : Nat) (hj : j < l.length), P l[j]) → P (.mk k i f s l)) (v : Val) : P v :=
  match v with
  | .mk k i f s l => h k i f s l fun j hj => Val.ind h l[j]
termination_by SizeOf.sizeOf v
decreasing_by
  have := List.sizeOf_lt_of_mem (List.getElem_mem hj)
  simp
  omega
theorem RV.len {W : World} {ok : Nat → Prop} {k i : Int} {f : Nat} {s : ByteArray} {l : List Val} {cs : Array Value} (h : RV W ok (.mk k i f s l) cs) : ∃ (A : Option Addr) (c : Nat), cs = #[.int .i64 k, .int .i64 i, .float .f64 f, .string s, .slice A l.length c] ∧ (Lit.int .i64 k).wf = true ∧ (Lit.int .i64 i).wf = true ∧ (Lit.float .f64 f).wf = true ∧ s.size ≤ 140737488351232 ∧ l.length ≤ c ∧ l.length * 64 ≤ 140737488351232 := by
  cases h with
  | mk k i f s l A c g off cs hk hi hf hs hc hb => exact ⟨A, c, rfl, hk, hi, hf, hs, hc, hb⟩
theorem RV.elem {W : World} {ok : Nat → Prop} {k i : Int} {f : Nat} {s : ByteArray} {l : List Val} {x0 x1 x2 x3 : Value} {A : Option Addr} {n c : Nat} (h : RV W ok (.mk k i f s l) #[x0, x1, x2, x3, .slice A n c]) (j : Nat) (hj : j < l.length) :
    ∃ (g off : Nat) (k' i' : Int) (f' : Nat) (s' : ByteArray) (A' : Option Addr) (n' c' : Nat), A = some ⟨g, off, none⟩ ∧ ok g ∧ g < W.heap.size ∧ RV W ok l[j] #[.int .i64 k', .int .i64 i', .float .f64 f', .string s', .slice A' n' c'] ∧
      W.cell? ⟨g, off + j * 5, none⟩ = some (.int .i64 k') ∧ W.cell? ⟨g, off + j * 5 + 1, none⟩ = some (.int .i64 i') ∧ W.cell? ⟨g, off + j * 5 + 2, none⟩ = some (.float .f64 f') ∧ W.cell? ⟨g, off + j * 5 + 3, none⟩ = some (.string s') ∧ W.cell? ⟨g, off + j * 5 + 4, none⟩ = some (.slice A' n' c') := by
  cases h with
  | mk k i f s l A c g off cs hk hi hf hs hc hb hA hcell hsub =>
    have hp : 0 < l.length := Nat.lt_of_le_of_lt (Nat.zero_le _) hj
    obtain ⟨k', i', f', s', A', n', c', e⟩ := (hsub j hj).form
    obtain ⟨p0, p1, p2, p3, p4⟩ := cells5 (hcell j hj) e
    exact ⟨g, off, k', i', f', s', A', n', c', (hA hp).1, (hA hp).2, cell_in p0, by rw [← e]; exact hsub j hj, p0, p1, p2, p3, p4⟩

set_option maxHeartbeats 8000000 in
set_option maxRecDepth 100000 in
/-- Deep. -/
theorem deep27 : ∀ (v : Val) (W : World) (ok : Nat → Prop) (cs : Array Value), RV W ok v cs → ∀ most : Int, Calls Tryd.prog 27 #[.agg cs, .int .i64 most] W fun e w' => (∃ b, e = .returned (.bool b)) ∧ Below W.heap.size W w' := by
  intro v
  induction v using Val.ind with
  | h k i f s l ih =>
    intro W ok cs hR most
    obtain ⟨A, c, rfl, wk, wi, wf, ws, wc, wb⟩ := hR.len
    have HI := Aside0.mk ih
    have HR := Aside0.mk hR
    have HWB := Aside0.mk (show (l.length : Int) * 64 ≤ 140737488351232 ∧ l.length ≤ c by omega)
    have hnn : (0 : Int) ≤ (l.length : Int) := by omega
    have hss : (s.size : Int) ≤ 140737488351232 := by omega
    have hs0 : (0 : Int) ≤ (s.size : Int) := by omega
    clear ih hR wk wi wf ws wc wb
    obtain ⟨n, hn⟩ : ∃ n, l.length = n := ⟨_, rfl⟩
    have HNL := Aside0.mk hn
    rw [hn] at HR HWB hnn ⊢
    clear hn
    by_cases hk4 : k = 4
    · subst hk4
      by_cases hm : most = 0
      · subst hm
        go_enter Tryd.func27, Tryd.ntmps27
        go_wp2_with (first
          | ((with_reducible refine gate_dst (N := 2) rfl ?_); refine box_event ?hg (N := 2) ?hd (cs := #[.int .i64 4, .int .i64 i, .float .f64 f, .string s, .slice A n c]) (t := 31) ?hr ?_; (case hd => rfl); (case hg => rfl); (case hr => first | (go_simp; done) | (go_simp; rfl)); intro gb hg w1 hbox hb; have HB := Aside0.mk hb; have KB := Aside0.mk hbox; have b0 : w1.cell? ⟨gb, 0, none⟩ = some (.int .i64 4) := blk_cell hbox 0; clear hg hbox hb))
        go_ret
        exact ⟨⟨_, rfl⟩, HB.out⟩
      · have hm1 : (most == 0) = false := by rw [beq_eq_false_iff_ne]; exact hm
        clear hm
        go_enter Tryd.func27, Tryd.ntmps27
        go_upto_region 5 with (first
          | ((with_reducible refine gate_dst (N := 2) rfl ?_); refine box_event ?hg (N := 2) ?hd (cs := #[.int .i64 4, .int .i64 i, .float .f64 f, .string s, .slice A n c]) (t := 31) ?hr ?_; (case hd => rfl); (case hg => rfl); (case hr => first | (go_simp; done) | (go_simp; rfl)); intro gb hg w1 hbox hb; have HB := Aside0.mk hb; have KB := Aside0.mk hbox; have b0 : w1.cell? ⟨gb, 0, none⟩ = some (.int .i64 4) := blk_cell hbox 0; clear hg hbox hb))
        clear b0
        go_wp2
        go_loopw [5] (fun ix wr => ∃ j : Nat, j ≤ n ∧ ix = .int .i64 (j : Int) ∧ Aside0 (Below W.heap.size W wr) ∧ Aside0 (wr.heap[gb]? = some (.cells #[.int .i64 4, .int .i64 i, .float .f64 f, .string s, .slice A n c] 31 (0, 0)))) (fun ix _ => n - (intOf ix).toNat)
        case atStart => exact ⟨0, by omega, rfl, HB, KB⟩
        case round =>
          obtain ⟨j, hj, rfl, HB', KB'⟩ := hrel
          have b4 : wr.cell? ⟨gb, 4, none⟩ = some (.slice A n c) := blk_cell KB'.out 4
          by_cases hlt : j < n
          · have hji : (j : Int) < (n : Int) := by omega
            have hj0 : (0 : Int) ≤ (j : Int) := by omega
            have hjl : j < l.length := by rw [HNL.out]; exact hlt
            obtain ⟨g, off, k', i', f', s', A', n', c', rfl, hg1, hg2, hsub, p0, p1, p2, p3, p4⟩ := (HR.out.kept HB'.out).elem j hjl
            have hih := HI.out j hjl
            generalize l[j] = x at hsub hih
            have HSub := Aside0.mk hsub
            have HIx := Aside0.mk hih
            have hwk : IntKind.i64.wrap ((j : Int) + 1) = ((j + 1 : Nat) : Int) := by have := HWB.out; rw [IntKind.wrap_i64]; omega
            clear hsub hih hjl hg1 hg2
            go_wp2_with (go_at_call 27; refine (HIx.out _ _ _ HSub.out _).mono ?_; rintro e w2 ⟨⟨b, rfl⟩, hb⟩; have HB2 := Aside0.mk (below_step HB'.out hb); have KB2 := Aside0.mk (blk_below KB'.out hb); clear hb)
            · go_ret
              exact ⟨⟨_, rfl⟩, HB2.out⟩
            · go_roundw
              case rel => exact ⟨j + 1, by omega, by go_num, HB2, KB2⟩
              case measure => simp [intOf]; omega
          · obtain rfl : j = n := by omega
            go_wp2
            go_ret
            exact ⟨⟨_, rfl⟩, HB'.out⟩
    · have hk5 : (k != 4) = true := by rw [bne_iff_ne]; exact hk4
      clear hk4
      go_enter Tryd.func27, Tryd.ntmps27
      go_wp2_with (first
          | ((with_reducible refine gate_dst (N := 2) rfl ?_); refine box_event ?hg (N := 2) ?hd (cs := #[.int .i64 k, .int .i64 i, .float .f64 f, .string s, .slice A n c]) (t := 31) ?hr ?_; (case hd => rfl); (case hg => rfl); (case hr => first | (go_simp; done) | (go_simp; rfl)); intro gb hg w1 hbox hb; have HB := Aside0.mk hb; have KB := Aside0.mk hbox; have b0 : w1.cell? ⟨gb, 0, none⟩ = some (.int .i64 k) := blk_cell hbox 0; clear hg hbox hb))
      go_ret
      exact ⟨⟨_, rfl⟩, HB.out⟩

set_option maxHeartbeats 8000000 in
set_option maxRecDepth 100000 in
/-- Size. -/
theorem size28 : ∀ (v : Val) (W : World) (ok : Nat → Prop) (cs : Array Value), RV W ok v cs → Calls Tryd.prog 28 #[.agg cs] W fun e w' => (∃ b, e = .returned (.int .i64 b)) ∧ Below W.heap.size W w' := by
  intro v
  induction v using Val.ind with
  | h k i f s l ih =>
    intro W ok cs hR 
    obtain ⟨A, c, rfl, wk, wi, wf, ws, wc, wb⟩ := hR.len
    have HI := Aside0.mk ih
    have HR := Aside0.mk hR
    have HWB := Aside0.mk (show (l.length : Int) * 64 ≤ 140737488351232 ∧ l.length ≤ c by omega)
    have hnn : (0 : Int) ≤ (l.length : Int) := by omega
    have hss : (s.size : Int) ≤ 140737488351232 := by omega
    have hs0 : (0 : Int) ≤ (s.size : Int) := by omega
    clear ih hR wk wi wf ws wc wb
    obtain ⟨n, hn⟩ : ∃ n, l.length = n := ⟨_, rfl⟩
    have HNL := Aside0.mk hn
    rw [hn] at HR HWB hnn ⊢
    clear hn
    by_cases hk4 : k = 4
    · subst hk4
      go_enter Tryd.func28, Tryd.ntmps28
      go_upto_region 8 with (first
        | ((with_reducible refine gate_dst (N := 1) rfl ?_); refine box_event ?hg (N := 1) ?hd (cs := #[.int .i64 4, .int .i64 i, .float .f64 f, .string s, .slice A n c]) (t := 31) ?hr ?_; (case hd => rfl); (case hg => rfl); (case hr => first | (go_simp; done) | (go_simp; rfl)); intro gb hg w1 hbox hb; have HB := Aside0.mk hb; have KB := Aside0.mk hbox; have b0 : w1.cell? ⟨gb, 0, none⟩ = some (.int .i64 4) := blk_cell hbox 0; clear hg hbox hb))
      clear b0
      go_wp2
      go_loopw [3, 4] (fun sx ix wr => ∃ (j : Nat) (z : Int), j ≤ n ∧ sx = .int .i64 z ∧ ix = .int .i64 (j : Int) ∧ Aside0 (Below W.heap.size W wr) ∧ Aside0 (wr.heap[gb]? = some (.cells #[.int .i64 4, .int .i64 i, .float .f64 f, .string s, .slice A n c] 31 (0, 0)))) (fun _ ix _ => n - (intOf ix).toNat)
      case atStart => exact ⟨0, _, by omega, rfl, rfl, HB, KB⟩
      case round =>
          obtain ⟨j, z, hj, rfl, rfl, HB', KB'⟩ := hrel
          have b4 : wr.cell? ⟨gb, 4, none⟩ = some (.slice A n c) := blk_cell KB'.out 4
          by_cases hlt : j < n
          · have hji : (j : Int) < (n : Int) := by omega
            have hj0 : (0 : Int) ≤ (j : Int) := by omega
            have hjl : j < l.length := by rw [HNL.out]; exact hlt
            obtain ⟨g, off, k', i', f', s', A', n', c', rfl, hg1, hg2, hsub, p0, p1, p2, p3, p4⟩ := (HR.out.kept HB'.out).elem j hjl
            have hih := HI.out j hjl
            generalize l[j] = x at hsub hih
            have HSub := Aside0.mk hsub
            have HIx := Aside0.mk hih
            have hwk : IntKind.i64.wrap ((j : Int) + 1) = ((j + 1 : Nat) : Int) := by have := HWB.out; rw [IntKind.wrap_i64]; omega
            clear hsub hih hjl hg1 hg2
            go_wp2_with (go_at_call 28; refine (HIx.out _ _ _ HSub.out).mono ?_; rintro e w2 ⟨⟨b, rfl⟩, hb⟩; have HB2 := Aside0.mk (below_step HB'.out hb); have KB2 := Aside0.mk (blk_below KB'.out hb); clear hb)
            go_roundw
            case rel => exact ⟨j + 1, _, by omega, rfl, by go_num, HB2, KB2⟩
            case measure => simp [intOf]; omega
          · obtain rfl : j = n := by omega
            go_wp2
            go_ret
            exact ⟨⟨_, rfl⟩, HB'.out⟩
    · have hk5 : (k == 4) = false := by rw [beq_eq_false_iff_ne]; exact hk4
      clear hk4
      by_cases h3 : k = 3
      · subst h3
        go_enter Tryd.func28, Tryd.ntmps28
        go_wp2_with (first
          | ((with_reducible refine gate_dst (N := 1) rfl ?_); refine box_event ?hg (N := 1) ?hd (cs := #[.int .i64 3, .int .i64 i, .float .f64 f, .string s, .slice A n c]) (t := 31) ?hr ?_; (case hd => rfl); (case hg => rfl); (case hr => first | (go_simp; done) | (go_simp; rfl)); intro gb hg w1 hbox hb; have HB := Aside0.mk hb; have b0 : w1.cell? ⟨gb, 0, none⟩ = some (.int .i64 3) := blk_cell hbox 0; have b3 : w1.cell? ⟨gb, 3, none⟩ = some (.string s) := blk_cell hbox 3; clear hg hbox hb))
        go_ret
        exact ⟨⟨_, rfl⟩, HB.out⟩
      · have hk3 : (k == 3) = false := by rw [beq_eq_false_iff_ne]; exact h3
        clear h3
        by_cases h1 : k = 1 ∨ k = 2
        · rcases h1 with rfl | rfl
          · go_enter Tryd.func28, Tryd.ntmps28
            go_wp2_with (first
              | ((with_reducible refine gate_dst (N := 1) rfl ?_); refine box_event ?hg (N := 1) ?hd (cs := #[.int .i64 1, .int .i64 i, .float .f64 f, .string s, .slice A n c]) (t := 31) ?hr ?_; (case hd => rfl); (case hg => rfl); (case hr => first | (go_simp; done) | (go_simp; rfl)); intro gb hg w1 hbox hb; have HB := Aside0.mk hb; have KB := Aside0.mk hbox; have b0 : w1.cell? ⟨gb, 0, none⟩ = some (.int .i64 1) := blk_cell hbox 0; clear hg hbox hb))
            go_ret
            exact ⟨⟨_, rfl⟩, HB.out⟩
          · go_enter Tryd.func28, Tryd.ntmps28
            go_wp2_with (first
              | ((with_reducible refine gate_dst (N := 1) rfl ?_); refine box_event ?hg (N := 1) ?hd (cs := #[.int .i64 2, .int .i64 i, .float .f64 f, .string s, .slice A n c]) (t := 31) ?hr ?_; (case hd => rfl); (case hg => rfl); (case hr => first | (go_simp; done) | (go_simp; rfl)); intro gb hg w1 hbox hb; have HB := Aside0.mk hb; have KB := Aside0.mk hbox; have b0 : w1.cell? ⟨gb, 0, none⟩ = some (.int .i64 2) := blk_cell hbox 0; clear hg hbox hb))
            go_ret
            exact ⟨⟨_, rfl⟩, HB.out⟩
        · have hk1 : (k == 1) = false := by rw [beq_eq_false_iff_ne]; omega
          have hk2 : (k == 2) = false := by rw [beq_eq_false_iff_ne]; omega
          clear h1
          go_enter Tryd.func28, Tryd.ntmps28
          go_wp2_with (first
              | ((with_reducible refine gate_dst (N := 1) rfl ?_); refine box_event ?hg (N := 1) ?hd (cs := #[.int .i64 k, .int .i64 i, .float .f64 f, .string s, .slice A n c]) (t := 31) ?hr ?_; (case hd => rfl); (case hg => rfl); (case hr => first | (go_simp; done) | (go_simp; rfl)); intro gb hg w1 hbox hb; have HB := Aside0.mk hb; have KB := Aside0.mk hbox; have b0 : w1.cell? ⟨gb, 0, none⟩ = some (.int .i64 k) := blk_cell hbox 0; clear hg hbox hb))
          go_ret
          exact ⟨⟨_, rfl⟩, HB.out⟩

set_option maxHeartbeats 8000000 in
set_option maxRecDepth 100000 in
/-- Light. -/
theorem light15 (v : Val) (W : World) (ok : Nat → Prop) (cs : Array Value) (hR : RV W ok v cs) : Calls Tryd.prog 15 #[.agg cs] W fun e w' => (∃ b, e = .returned (.bool b)) ∧ Below W.heap.size W w' := by
  obtain ⟨k, i, f, s, A, n, c, rfl⟩ := hR.form
  have HR := Aside0.mk hR
  clear hR
  go_enter Tryd.func15, Tryd.ntmps15
  go_wp2_with (first
    | ((with_reducible refine gate_dst (N := 1) rfl ?_); refine box_event ?hg (N := 1) ?hd (cs := #[.int .i64 k, .int .i64 i, .float .f64 f, .string s, .slice A n c]) (t := 31) ?hr ?_; (case hd => rfl); (case hg => rfl); (case hr => first | (go_simp; done) | (go_simp; rfl)); intro gb hg w1 hbox hb; have HB := Aside0.mk hb; have HR := Aside0.mk (HR.out.kept hb); have KB := Aside0.mk hbox; have b0 : w1.cell? ⟨gb, 0, none⟩ = some (.int .i64 k) := blk_cell hbox 0; have b1 : w1.cell? ⟨gb, 1, none⟩ = some (.int .i64 i) := blk_cell hbox 1; have b2 : w1.cell? ⟨gb, 2, none⟩ = some (.float .f64 f) := blk_cell hbox 2; have b3 : w1.cell? ⟨gb, 3, none⟩ = some (.string s) := blk_cell hbox 3; have b4 : w1.cell? ⟨gb, 4, none⟩ = some (.slice A n c) := blk_cell hbox 4; clear hg hbox hb)
    | (go_at_call 27; refine (deep27 _ _ _ _ HR.out _).mono ?_; rintro e w2 ⟨⟨b, rfl⟩, hb⟩; have HR := Aside0.mk (HR.out.kept hb); have HB := Aside0.mk (below_step HB.out hb); have KB := Aside0.mk (blk_below KB.out hb); clear b0 b1 b2 b3 b4; have b0 : w2.cell? ⟨gb, 0, none⟩ = some (.int .i64 k) := blk_cell KB.out 0; have b1 : w2.cell? ⟨gb, 1, none⟩ = some (.int .i64 i) := blk_cell KB.out 1; have b2 : w2.cell? ⟨gb, 2, none⟩ = some (.float .f64 f) := blk_cell KB.out 2; have b3 : w2.cell? ⟨gb, 3, none⟩ = some (.string s) := blk_cell KB.out 3; have b4 : w2.cell? ⟨gb, 4, none⟩ = some (.slice A n c) := blk_cell KB.out 4; clear hb)
    | (go_at_call 28; refine (size28 _ _ _ _ HR.out).mono ?_; rintro e w3 ⟨⟨z, rfl⟩, hb⟩; have HB := Aside0.mk (below_step HB.out hb); clear hb))
  all_goals
    go_ret
    exact ⟨⟨_, rfl⟩, HB.out⟩
end Go.Proofs.YtpalofbphmjijaaDoor.Gd
