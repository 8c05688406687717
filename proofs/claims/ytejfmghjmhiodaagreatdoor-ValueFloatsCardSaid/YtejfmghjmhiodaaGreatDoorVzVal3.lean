import Derived.Test.YtejfmghjmhiodaaGreatDoorVzVal2
namespace Go.Proofs.YtejfmghjmhiodaaGreatDoor.Vz
open Go.RowKit Go.Proofs.YtejfmghjmhiodaaGreatDoorW.PrintWords
set_option linter.unusedVariables false
set_option linter.unusedSimpArgs false
attribute [local go_sem] store_float

def rows : List (Array Value) → List Value
  | [] => []
  | c :: r => c.toList ++ rows r
theorem rows_snoc (l : List (Array Value)) (c : Array Value) : rows (l ++ [c]) = rows l ++ c.toList := by
  induction l with
  | nil => simp [rows]
  | cons x r ih => simp [rows, ih, List.append_assoc]
theorem rows_get {l : List (Array Value)} (h : ∀ c ∈ l, c.size = 5) (j : Nat) (hj : j < l.length) (q : Nat) (hq : q < 5) : (rows l)[j * 5 + q]? = l[j][q]? := by
  induction l generalizing j with
  | nil => cases hj
  | cons x r ih =>
    have hx : x.toList.length = 5 := by rw [Array.length_toList]; exact h x (by simp)
    cases j with
    | zero =>
      rw [rows, List.getElem?_append_left (by rw [hx]; omega)]
      simp
    | succ j =>
      rw [rows, List.getElem?_append_right (by rw [hx]; omega), hx, show (j + 1) * 5 + q - 5 = j * 5 + q by omega]
      simpa using ih (fun c hc => h c (by simp [hc])) j (by simpa using hj)
theorem RV.size {W : World} {ok : Nat → Prop} {v : Val} {cs : Array Value} (h : RV W ok v cs) : cs.size = 5 := by
  obtain ⟨_, _, _, _, _, _, _, rfl⟩ := h.form; rfl
/-- The loop of Cleans, at its head. -/
structure Cl (W : World) (l : List Val) (j : Nat) (v : Value) (css : List (Array Value)) (wr : World) : Prop where
  b : Below W.heap.size W wr
  n : css.length = j
  o : wr.ownsRow W.heap.size 25 5 v j (rows css)
  e : ∀ (i : Nat) (h : i < css.length) (h' : i < l.length), RV wr (fun g => W.heap.size ≤ g ∧ v.ownBlock ≠ some g) (clean l[i]) css[i]
theorem Cl.snoc {W w1 w2 : World} {l : List Val} {j : Nat} {v v2 : Value} {css : List (Array Value)} {x : Val} {cs : Array Value} (hj : j < l.length) (hx : l[j] = x) (hb : Below W.heap.size W w1) (hn : css.length = j) (ho : w1.ownsRow W.heap.size 25 5 v j (rows css))
    (he : ∀ (i : Nat) (h : i < css.length) (h' : i < l.length), RV w1 (fun g => W.heap.size ≤ g ∧ v.ownBlock ≠ some g) (clean l[i]) css[i])
    (hc : RV w1 (fun g => W.heap.size ≤ g ∧ v.ownBlock ≠ some g) (clean x) cs) (hown : w2.ownsRow W.heap.size 25 5 v2 (j + 1) (rows css ++ cs.toList)) (hg : w1.grownBy w2 v.ownBlock) (hat : v2.ownBlock = v.ownBlock ∨ ∃ b, v2.ownBlock = some b ∧ w1.heap.size ≤ b) : Cl W l (j + 1) v2 (css ++ [cs]) w2 := by
  have hm : ∀ {y : Val} {c : Array Value}, RV w1 (fun g => W.heap.size ≤ g ∧ v.ownBlock ≠ some g) y c → RV w2 (fun g => W.heap.size ≤ g ∧ v2.ownBlock ≠ some g) y c := fun h =>
    h.step (fun g hok hlt => hg.block g hlt (fun e => hok.2 e.symm)) (fun g hok hlt => ⟨hok.1, by
      rcases hat with e | ⟨b, e, hbb⟩
      · rw [e]; exact hok.2
      · rw [e]; intro hh; injection hh with hh; omega⟩)
  refine ⟨pw_below_grown hb v.ownBlock hb.size hg (fun q hq => (own_under ho q hq).1), by simp [hn], by rw [rows_snoc]; exact hown, fun i h h' => ?_⟩
  by_cases hi : i < css.length
  · rw [List.getElem_append_left hi]; exact hm (he i hi h')
  · have e : i = css.length := by simp at h; omega
    subst e
    rw [List.getElem_append_right (Nat.le_refl _)]
    simp only [Nat.sub_self, List.getElem_cons_zero]
    have e2 : l[css.length] = x := by rw [← hx]; congr 1
    rw [e2]; exact hm hc
theorem Cl.done {W w1 : World} {l : List Val} {v : Value} {css : List (Array Value)} (h : Cl W l l.length v css w1) (hb : l.length * 64 ≤ 140737488351232) : ∃ A c, v = .slice A l.length c ∧ RV w1 (fun g => W.heap.size ≤ g) (.mk 4 0 0 ⟨#[]⟩ (cleans l)) #[.int .i64 4, .int .i64 0, .float .f64 0, .string ⟨#[]⟩, .slice A l.length c] := by
  have hl : (cleans l).length = l.length := by rw [cleans_map]; simp
  have hk : (Lit.int .i64 4).wf = true := by decide
  have hi : (Lit.int .i64 0).wf = true := by decide
  have hf : (Lit.float .f64 0).wf = true := by decide
  rcases h.o.2 with ⟨hv, h0⟩ | ⟨g, cap, cur, hv, hg, hh, hc, _, hcs, htk⟩
  · refine ⟨none, 0, by rw [hv, h0], ?_⟩
    have e : cleans l = [] := List.length_eq_zero_iff.1 (by rw [hl]; exact h0)
    rw [e, h0]
    exact RV.flat hk hi hf (by decide)
  · refine ⟨_, cap, hv, ?_⟩
    have hx := RV.mk (W := w1) (ok := fun g => W.heap.size ≤ g) 4 0 0 ⟨#[]⟩ (cleans l) (some ⟨g, 0, none⟩) cap g 0 (fun j => css.getD j #[]) hk hi hf (by decide) (by rw [hl]; exact hc) (by rw [hl]; exact hb) (fun _ => ⟨rfl, hg⟩) (fun j hj q hq => ?_) (fun j hj => ?_)
    · rw [hl] at hx; exact hx
    · have hj' : j < css.length := by rw [h.n, ← hl]; exact hj
      rw [show 0 + j * 5 + q = j * 5 + q by omega]
      have ho := h.o
      rw [hv] at ho
      rw [World.ownsRow.cellAt ho _ (by rw [hl] at hj; omega), rows_get (fun c hc => ?_) j hj' q hq]
      · simp [List.getD_eq_getElem?_getD, hj']
      · obtain ⟨i, hi', rfl⟩ := List.getElem_of_mem hc
        exact (h.e i hi' (by rw [← h.n]; exact hi')).size
    · have hj' : j < css.length := by rw [h.n, ← hl]; exact hj
      have e1 : css.getD j #[] = css[j] := by simp [List.getD_eq_getElem?_getD, hj']
      have e2 : (cleans l)[j] = clean (l[j]'(by rw [← hl]; exact hj)) := by simp [cleans_map]
      rw [e1, e2]
      exact (h.e j hj' (by rw [← hl]; exact hj)).mono (fun g hg _ => hg.1)
/-- What Clean tells. -/
def CleanC (v : Val) : Prop := ∀ (W : World) (ok : Nat → Prop) (cs : Array Value), RV W ok v cs → Calls Tryz.prog 25 #[.agg cs] W fun e w' => ∃ cs', e = .returned (.agg cs') ∧ RV w' (fun g => W.heap.size ≤ g) (clean v) cs' ∧ Below W.heap.size W w'

set_option maxHeartbeats 8000000 in
set_option maxRecDepth 100000 in
/-- Cleans. -/
theorem cleans33 (k i : Int) (f : Nat) (s : ByteArray) (l : List Val) (hE : ∀ (j : Nat) (hj : j < l.length), CleanC l[j]) (W : World) (ok : Nat → Prop) (x0 x1 x2 x3 : Value) (A : Option Addr) (c : Nat) (hR : RV W ok (.mk k i f s l) #[x0, x1, x2, x3, .slice A l.length c]) :
    Calls Tryz.prog 49 #[.slice A l.length c] W fun e w' => (∃ A' c', e = .returned (.slice A' l.length c') ∧ RV w' (fun g => W.heap.size ≤ g) (.mk 4 0 0 ⟨#[]⟩ (cleans l)) #[.int .i64 4, .int .i64 0, .float .f64 0, .string ⟨#[]⟩, .slice A' l.length c']) ∧ Below W.heap.size W w' := by
  obtain ⟨A0, c0, e0, wk, wi, wf, ws, wc, wb⟩ := hR.len
  have HI := Aside0.mk hE
  have HR := Aside0.mk hR
  have HWB := Aside0.mk (show (l.length : Int) * 64 ≤ 140737488351232 ∧ l.length * 64 ≤ 140737488351232 by omega)
  have hnn : (0 : Int) ≤ (l.length : Int) := by omega
  clear hE hR wk wi wf ws wc wb e0
  obtain ⟨n, hn⟩ : ∃ n, l.length = n := ⟨_, rfl⟩
  have HNL := Aside0.mk hn
  rw [hn] at HR HWB hnn ⊢
  clear hn
  go_enter Tryz.func49, Tryz.ntmps49
  go_wp2
  go_loopw [3, 4] (fun v ix wr => ∃ j : Nat, j ≤ n ∧ ix = .int .i64 (j : Int) ∧ Aside0 (∃ css, Cl W l j v css wr)) (fun _ ix _ => n - (intOf ix).toNat)
  case atStart => exact ⟨0, by omega, rfl, Aside0.mk ⟨[], Below.refl _ _, rfl, ⟨rfl, .inl ⟨rfl, rfl⟩⟩, fun i h => absurd h (Nat.not_lt_zero i)⟩⟩
  case round =>
    obtain ⟨j, hj, rfl, HH⟩ := hrel
    obtain ⟨css, hcl⟩ := HH.out
    have HB' := Aside0.mk hcl.b
    have HCn := Aside0.mk hcl.n
    have HO := Aside0.mk hcl.o
    have HEe := Aside0.mk hcl.e
    have HCL := Aside0.mk hcl
    clear hcl HH
    by_cases hlt : j < n
    · have hji : (j : Int) < (n : Int) := by omega
      have hj0 : (0 : Int) ≤ (j : Int) := by omega
      have hjl : j < l.length := by rw [HNL.out]; exact hlt
      obtain ⟨g, off, k', i', f', s', A', n', c', rfl, hg1, hg2, hsub, p0, p1, p2, p3, p4⟩ := (HR.out.kept HB'.out).elem j hjl
      have hih := HI.out j hjl
      obtain ⟨x, hx⟩ : ∃ x, l[j] = x := ⟨_, rfl⟩
      have HX := Aside0.mk (show ∃ h : j < l.length, l[j] = x from ⟨hjl, hx⟩)
      rw [hx] at hsub hih
      have HSub := Aside0.mk hsub
      have HIx := Aside0.mk hih
      have hwk : IntKind.i64.wrap ((j : Int) + 1) = ((j + 1 : Nat) : Int) := by have := HWB.out; rw [IntKind.wrap_i64]; omega
      clear hx hsub hih hjl hg1 hg2
      go_upto_region 4 with (first
        | (go_at_call 25; refine (HIx.out _ _ _ HSub.out).mono ?_; rintro e w1 ⟨cs', rfl, hcs, hb⟩; obtain ⟨y0, y1, y2, y3, y4, y5, y6, rfl⟩ := hcs.form; have HCs := Aside0.mk (hcs.mono (ok' := fun q => W.heap.size ≤ q ∧ u3.ownBlock ≠ some q) (fun q hq _ => ⟨Nat.le_trans HB'.out.size hq, fun e => by have := (own_under HO.out q e).2; omega⟩)); have HE1 := Aside0.mk (fun (i : Nat) (h : i < css.length) (h' : i < l.length) => (HEe.out i h h').kept hb); have HO1 := Aside0.mk (own_save HO.out (Save.of (S := fun _ => False) hb) (fun _ _ x => x.elim)); have HB1 := Aside0.mk (below_step HB'.out hb); clear hcs hb)
        | (at_builtin; refine print_append_cells (w0 := w1) W.heap.size rfl (.tmp 11) (.tmp 17) 23 25 (.agg #[.int .i64 0, .int .i64 0, .float .f64 0, .string ⟨#[]⟩, .slice none 0 0]) 5 64 rfl Tryz.underlying23 info25 rfl (by decide) (by decide) u3 j (rows css) [.int .i64 y0, .int .i64 y1, .float .f64 y2, .string y3, .slice y4 y5 y6] rfl rfl rfl ?a1 ?aO ?aB ?aS ?aL ?_; (case a1 => simp [Value.oneCell']); (case aO => exact HO1.out); (case aB => exact Below.refl _ _); (case aS => exact HB1.out.size); (case aL => (have := HWB.out; omega)); intro v1 w2 hown hb hg hat; have HN1 := Aside0.mk (Cl.snoc HX.out.1 HX.out.2 HB1.out HCn.out HO1.out HE1.out HCs.out hown hg hat); clear hown hb hg hat))
      go_wp2
      go_roundw
      case rel => exact ⟨j + 1, by omega, by go_num, Aside0.mk ⟨_, HN1.out⟩⟩
      case measure => simp [intOf]; omega
    · obtain rfl : j = n := by omega
      obtain ⟨A', c', e, hd⟩ := Cl.done (HNL.out.symm ▸ HCL.out : Cl W l l.length u3 css wr) (by rw [HNL.out]; exact HWB.out.2)
      rw [HNL.out] at e hd
      subst e
      have HD := Aside0.mk hd
      clear hd
      go_wp2
      go_ret
      exact ⟨⟨_, _, rfl, HD.out⟩, HB'.out⟩

set_option maxHeartbeats 8000000 in
set_option maxRecDepth 100000 in
theorem clean18_1 (k i : Int) (f : Nat) (s : ByteArray) (A : Option Addr) (n c : Nat) (W : World) : Calls Tryz.prog 25 #[.agg #[.int .i64 1, .int .i64 i, .float .f64 f, .string s, .slice A n c]] W fun e w' => e = .returned (.agg #[.int .i64 1, .int .i64 i, .float .f64 0, .string ⟨#[]⟩, .slice none 0 0]) ∧ Below W.heap.size W w' := by
  go_enter Tryz.func25, Tryz.ntmps25
  go_wp2_with (first
    | ((with_reducible refine gate_dst (N := 1) rfl ?_); refine box_event ?hg (N := 1) ?hd (cs := #[.int .i64 1, .int .i64 i, .float .f64 f, .string s, .slice A n c]) (t := 25) ?hr ?_; (case hd => rfl); (case hg => rfl); (case hr => first | (go_simp; done) | (go_simp; rfl)); intro gb hg w1 hbox hb; have HB := Aside0.mk hb; have KB := Aside0.mk hbox; clear hg hbox hb)
    | ((with_reducible refine gate_dst (N := 2) rfl ?_); refine box_event ?hg (N := 2) ?hd (cs := #[.int .i64 0, .int .i64 0, .float .f64 0, .string ⟨#[]⟩, .slice none 0 0]) (t := 25) ?hr ?_; (case hd => rfl); (case hg => rfl); (case hr => first | (go_simp; done) | (go_simp; rfl)); intro gr hg w2 hbox hb; have HG := Aside0.mk (show W.heap.size ≤ gr from by (have := HB.out.size; omega)); have HB := Aside0.mk (below_step HB.out hb); have KB := Aside0.mk (blk_below KB.out hb); have K := Aside0.mk hbox; have b0 : w2.cell? ⟨gb, 0, none⟩ = some (.int .i64 1) := blk_cell KB.out 0; have b1 : w2.cell? ⟨gb, 1, none⟩ = some (.int .i64 i) := blk_cell KB.out 1; have b2 : w2.cell? ⟨gb, 2, none⟩ = some (.float .f64 f) := blk_cell KB.out 2; have b3 : w2.cell? ⟨gb, 3, none⟩ = some (.string s) := blk_cell KB.out 3; have b4 : w2.cell? ⟨gb, 4, none⟩ = some (.slice A n c) := blk_cell KB.out 4; clear hg hbox hb)
    | (go_at_call 23; refine (int14 i _).mono ?_; rintro e w3 ⟨rfl, hb⟩; have HB := Aside0.mk (below_step HB.out hb); have K := Aside0.mk (blk_below K.out hb); clear hb)
    | ((with_reducible refine gate_store (t := 25) (p := 2) rfl ?_); refine put_eventU ?hg (t := 25) (p := 2) (v := .tmp 9) ?ho ?hN (g := gr) (u := .agg #[.int .i64 1, .int .i64 i, .float .f64 0, .string ⟨#[]⟩, .slice none 0 0]) (cs := #[.int .i64 1, .int .i64 i, .float .f64 0, .string ⟨#[]⟩, .slice none 0 0]) ?hp ?hv K.out ?hs ?hi ?h1 ?hc ?_; (case hs => rfl); (case hi => kernel_rfl); (case h1 => simp [Value.oneCell']); (case hc => simp [Value.cells]); (case hg => rfl); (case ho => rfl); (case hN => rfl); (case hp => rfl); (case hv => rfl); intro w4 hk hs; have HB := Aside0.mk (below_keep HB.out HG.out hs); have K := Aside0.mk hk; clear hk hs))
  have q0 := blk_cell K.out 0
  have q1 := blk_cell K.out 1
  have q2 := blk_cell K.out 2
  have q3 := blk_cell K.out 3
  have q4 := blk_cell K.out 4
  simp at q0 q1 q2 q3 q4
  refine bodyPost_ret (v := .agg #[.int .i64 1, .int .i64 i, .float .f64 0, .string ⟨#[]⟩, .slice none 0 0]) ?_ rfl ⟨rfl, HB.out⟩
  simp [results, Tryz.results25, go_sem, q0, q1, q2, q3, q4]

set_option maxHeartbeats 8000000 in
set_option maxRecDepth 100000 in
theorem clean18_2 (k i : Int) (f : Nat) (s : ByteArray) (A : Option Addr) (n c : Nat) (W : World) : Calls Tryz.prog 25 #[.agg #[.int .i64 2, .int .i64 i, .float .f64 f, .string s, .slice A n c]] W fun e w' => e = .returned (.agg #[.int .i64 2, .int .i64 0, .float .f64 (canon f), .string ⟨#[]⟩, .slice none 0 0]) ∧ Below W.heap.size W w' := by
  go_enter Tryz.func25, Tryz.ntmps25
  go_wp2_with (first
    | ((with_reducible refine gate_dst (N := 1) rfl ?_); refine box_event ?hg (N := 1) ?hd (cs := #[.int .i64 2, .int .i64 i, .float .f64 f, .string s, .slice A n c]) (t := 25) ?hr ?_; (case hd => rfl); (case hg => rfl); (case hr => first | (go_simp; done) | (go_simp; rfl)); intro gb hg w1 hbox hb; have HB := Aside0.mk hb; have KB := Aside0.mk hbox; clear hg hbox hb)
    | ((with_reducible refine gate_dst (N := 2) rfl ?_); refine box_event ?hg (N := 2) ?hd (cs := #[.int .i64 0, .int .i64 0, .float .f64 0, .string ⟨#[]⟩, .slice none 0 0]) (t := 25) ?hr ?_; (case hd => rfl); (case hg => rfl); (case hr => first | (go_simp; done) | (go_simp; rfl)); intro gr hg w2 hbox hb; have HG := Aside0.mk (show W.heap.size ≤ gr from by (have := HB.out.size; omega)); have HB := Aside0.mk (below_step HB.out hb); have KB := Aside0.mk (blk_below KB.out hb); have K := Aside0.mk hbox; have b0 : w2.cell? ⟨gb, 0, none⟩ = some (.int .i64 2) := blk_cell KB.out 0; have b1 : w2.cell? ⟨gb, 1, none⟩ = some (.int .i64 i) := blk_cell KB.out 1; have b2 : w2.cell? ⟨gb, 2, none⟩ = some (.float .f64 f) := blk_cell KB.out 2; have b3 : w2.cell? ⟨gb, 3, none⟩ = some (.string s) := blk_cell KB.out 3; have b4 : w2.cell? ⟨gb, 4, none⟩ = some (.slice A n c) := blk_cell KB.out 4; clear hg hbox hb)
    | (go_at_call 12; refine (float31 f _).mono ?_; rintro e w3 ⟨rfl, hb⟩; have HB := Aside0.mk (below_step HB.out hb); have K := Aside0.mk (blk_below K.out hb); clear hb)
    | ((with_reducible refine gate_store (t := 25) (p := 2) rfl ?_); refine put_eventU ?hg (t := 25) (p := 2) (v := .tmp 14) ?ho ?hN (g := gr) (u := .agg #[.int .i64 2, .int .i64 0, .float .f64 (canon f), .string ⟨#[]⟩, .slice none 0 0]) (cs := #[.int .i64 2, .int .i64 0, .float .f64 (canon f), .string ⟨#[]⟩, .slice none 0 0]) ?hp ?hv K.out ?hs ?hi ?h1 ?hc ?_; (case hs => rfl); (case hi => kernel_rfl); (case h1 => simp [Value.oneCell']); (case hc => simp [Value.cells]); (case hg => rfl); (case ho => rfl); (case hN => rfl); (case hp => rfl); (case hv => rfl); intro w4 hk hs; have HB := Aside0.mk (below_keep HB.out HG.out hs); have K := Aside0.mk hk; clear hk hs))
  have q0 := blk_cell K.out 0
  have q1 := blk_cell K.out 1
  have q2 := blk_cell K.out 2
  have q3 := blk_cell K.out 3
  have q4 := blk_cell K.out 4
  simp at q0 q1 q2 q3 q4
  refine bodyPost_ret (v := .agg #[.int .i64 2, .int .i64 0, .float .f64 (canon f), .string ⟨#[]⟩, .slice none 0 0]) ?_ rfl ⟨rfl, HB.out⟩
  simp [results, Tryz.results25, go_sem, q0, q1, q2, q3, q4]

set_option maxHeartbeats 8000000 in
set_option maxRecDepth 100000 in
theorem clean18_3 (k i : Int) (f : Nat) (s : ByteArray) (A : Option Addr) (n c : Nat) (W : World) : Calls Tryz.prog 25 #[.agg #[.int .i64 3, .int .i64 i, .float .f64 f, .string s, .slice A n c]] W fun e w' => e = .returned (.agg #[.int .i64 3, .int .i64 0, .float .f64 0, .string s, .slice none 0 0]) ∧ Below W.heap.size W w' := by
  go_enter Tryz.func25, Tryz.ntmps25
  go_wp2_with (first
    | ((with_reducible refine gate_dst (N := 1) rfl ?_); refine box_event ?hg (N := 1) ?hd (cs := #[.int .i64 3, .int .i64 i, .float .f64 f, .string s, .slice A n c]) (t := 25) ?hr ?_; (case hd => rfl); (case hg => rfl); (case hr => first | (go_simp; done) | (go_simp; rfl)); intro gb hg w1 hbox hb; have HB := Aside0.mk hb; have KB := Aside0.mk hbox; clear hg hbox hb)
    | ((with_reducible refine gate_dst (N := 2) rfl ?_); refine box_event ?hg (N := 2) ?hd (cs := #[.int .i64 0, .int .i64 0, .float .f64 0, .string ⟨#[]⟩, .slice none 0 0]) (t := 25) ?hr ?_; (case hd => rfl); (case hg => rfl); (case hr => first | (go_simp; done) | (go_simp; rfl)); intro gr hg w2 hbox hb; have HG := Aside0.mk (show W.heap.size ≤ gr from by (have := HB.out.size; omega)); have HB := Aside0.mk (below_step HB.out hb); have KB := Aside0.mk (blk_below KB.out hb); have K := Aside0.mk hbox; have b0 : w2.cell? ⟨gb, 0, none⟩ = some (.int .i64 3) := blk_cell KB.out 0; have b1 : w2.cell? ⟨gb, 1, none⟩ = some (.int .i64 i) := blk_cell KB.out 1; have b2 : w2.cell? ⟨gb, 2, none⟩ = some (.float .f64 f) := blk_cell KB.out 2; have b3 : w2.cell? ⟨gb, 3, none⟩ = some (.string s) := blk_cell KB.out 3; have b4 : w2.cell? ⟨gb, 4, none⟩ = some (.slice A n c) := blk_cell KB.out 4; clear hg hbox hb)
    | (go_at_call 15; refine (text32 s _).mono ?_; rintro e w3 ⟨rfl, hb⟩; have HB := Aside0.mk (below_step HB.out hb); have K := Aside0.mk (blk_below K.out hb); clear hb)
    | ((with_reducible refine gate_store (t := 25) (p := 2) rfl ?_); refine put_eventU ?hg (t := 25) (p := 2) (v := .tmp 19) ?ho ?hN (g := gr) (u := .agg #[.int .i64 3, .int .i64 0, .float .f64 0, .string s, .slice none 0 0]) (cs := #[.int .i64 3, .int .i64 0, .float .f64 0, .string s, .slice none 0 0]) ?hp ?hv K.out ?hs ?hi ?h1 ?hc ?_; (case hs => rfl); (case hi => kernel_rfl); (case h1 => simp [Value.oneCell']); (case hc => simp [Value.cells]); (case hg => rfl); (case ho => rfl); (case hN => rfl); (case hp => rfl); (case hv => rfl); intro w4 hk hs; have HB := Aside0.mk (below_keep HB.out HG.out hs); have K := Aside0.mk hk; clear hk hs))
  have q0 := blk_cell K.out 0
  have q1 := blk_cell K.out 1
  have q2 := blk_cell K.out 2
  have q3 := blk_cell K.out 3
  have q4 := blk_cell K.out 4
  simp at q0 q1 q2 q3 q4
  refine bodyPost_ret (v := .agg #[.int .i64 3, .int .i64 0, .float .f64 0, .string s, .slice none 0 0]) ?_ rfl ⟨rfl, HB.out⟩
  simp [results, Tryz.results25, go_sem, q0, q1, q2, q3, q4]

set_option maxHeartbeats 8000000 in
set_option maxRecDepth 100000 in
theorem clean18_0 (k i : Int) (f : Nat) (s : ByteArray) (A : Option Addr) (n c : Nat) (W : World) (h1 : (k == 1) = false) (h2 : (k == 2) = false) (h3 : (k == 3) = false) (h4 : (k == 4) = false) : Calls Tryz.prog 25 #[.agg #[.int .i64 k, .int .i64 i, .float .f64 f, .string s, .slice A n c]] W fun e w' => e = .returned (.agg #[.int .i64 0, .int .i64 0, .float .f64 0, .string ⟨#[]⟩, .slice none 0 0]) ∧ Below W.heap.size W w' := by
  go_enter Tryz.func25, Tryz.ntmps25
  go_wp2_with (first
    | ((with_reducible refine gate_dst (N := 1) rfl ?_); refine box_event ?hg (N := 1) ?hd (cs := #[.int .i64 k, .int .i64 i, .float .f64 f, .string s, .slice A n c]) (t := 25) ?hr ?_; (case hd => rfl); (case hg => rfl); (case hr => first | (go_simp; done) | (go_simp; rfl)); intro gb hg w1 hbox hb; have HB := Aside0.mk hb; have KB := Aside0.mk hbox; clear hg hbox hb)
    | ((with_reducible refine gate_dst (N := 2) rfl ?_); refine box_event ?hg (N := 2) ?hd (cs := #[.int .i64 0, .int .i64 0, .float .f64 0, .string ⟨#[]⟩, .slice none 0 0]) (t := 25) ?hr ?_; (case hd => rfl); (case hg => rfl); (case hr => first | (go_simp; done) | (go_simp; rfl)); intro gr hg w2 hbox hb; have HG := Aside0.mk (show W.heap.size ≤ gr from by (have := HB.out.size; omega)); have HB := Aside0.mk (below_step HB.out hb); have KB := Aside0.mk (blk_below KB.out hb); have K := Aside0.mk hbox; have b0 : w2.cell? ⟨gb, 0, none⟩ = some (.int .i64 k) := blk_cell KB.out 0; have b1 : w2.cell? ⟨gb, 1, none⟩ = some (.int .i64 i) := blk_cell KB.out 1; have b2 : w2.cell? ⟨gb, 2, none⟩ = some (.float .f64 f) := blk_cell KB.out 2; have b3 : w2.cell? ⟨gb, 3, none⟩ = some (.string s) := blk_cell KB.out 3; have b4 : w2.cell? ⟨gb, 4, none⟩ = some (.slice A n c) := blk_cell KB.out 4; clear hg hbox hb)
    | ((with_reducible refine gate_store (t := 25) (p := 2) rfl ?_); refine put_eventU ?hg (t := 25) (p := 2) (v := .tmp 26) ?ho ?hN (g := gr) (u := .agg #[.int .i64 0, .int .i64 0, .float .f64 0, .string ⟨#[]⟩, .slice none 0 0]) (cs := #[.int .i64 0, .int .i64 0, .float .f64 0, .string ⟨#[]⟩, .slice none 0 0]) ?hp ?hv K.out ?hs ?hi ?h1 ?hc ?_; (case hs => rfl); (case hi => kernel_rfl); (case h1 => simp [Value.oneCell']); (case hc => simp [Value.cells]); (case hg => rfl); (case ho => rfl); (case hN => rfl); (case hp => rfl); (case hv => rfl); intro w4 hk hs; have HB := Aside0.mk (below_keep HB.out HG.out hs); have K := Aside0.mk hk; clear hk hs))
  have q0 := blk_cell K.out 0
  have q1 := blk_cell K.out 1
  have q2 := blk_cell K.out 2
  have q3 := blk_cell K.out 3
  have q4 := blk_cell K.out 4
  simp at q0 q1 q2 q3 q4
  refine bodyPost_ret (v := .agg #[.int .i64 0, .int .i64 0, .float .f64 0, .string ⟨#[]⟩, .slice none 0 0]) ?_ rfl ⟨rfl, HB.out⟩
  simp [results, Tryz.results25, go_sem, q0, q1, q2, q3, q4]

set_option maxHeartbeats 8000000 in
set_option maxRecDepth 100000 in
theorem clean18_4 (i : Int) (f : Nat) (s : ByteArray) (l : List Val) (hE : ∀ (j : Nat) (hj : j < l.length), CleanC l[j]) (W : World) (ok : Nat → Prop) (A : Option Addr) (c : Nat) (hR : RV W ok (.mk 4 i f s l) #[.int .i64 4, .int .i64 i, .float .f64 f, .string s, .slice A l.length c]) :
    Calls Tryz.prog 25 #[.agg #[.int .i64 4, .int .i64 i, .float .f64 f, .string s, .slice A l.length c]] W fun e w' => ∃ cs', e = .returned (.agg cs') ∧ RV w' (fun g => W.heap.size ≤ g) (.mk 4 0 0 ⟨#[]⟩ (cleans l)) cs' ∧ Below W.heap.size W w' := by
  have HR := Aside0.mk hR
  have HI := Aside0.mk hE
  clear hR hE
  go_enter Tryz.func25, Tryz.ntmps25
  go_wp2_with (first
    | ((with_reducible refine gate_dst (N := 1) rfl ?_); refine box_event ?hg (N := 1) ?hd (cs := #[.int .i64 4, .int .i64 i, .float .f64 f, .string s, .slice A l.length c]) (t := 25) ?hr ?_; (case hd => rfl); (case hg => rfl); (case hr => first | (go_simp; done) | (go_simp; rfl)); intro gb hg w1 hbox hb; have HB := Aside0.mk hb; have KB := Aside0.mk hbox; clear hg hbox hb)
    | ((with_reducible refine gate_dst (N := 2) rfl ?_); refine box_event ?hg (N := 2) ?hd (cs := #[.int .i64 0, .int .i64 0, .float .f64 0, .string ⟨#[]⟩, .slice none 0 0]) (t := 25) ?hr ?_; (case hd => rfl); (case hg => rfl); (case hr => first | (go_simp; done) | (go_simp; rfl)); intro gr hg w2 hbox hb; have HG := Aside0.mk (show W.heap.size ≤ gr from by (have := HB.out.size; omega)); have HB := Aside0.mk (below_step HB.out hb); have KB := Aside0.mk (blk_below KB.out hb); have K := Aside0.mk hbox; have b0 : w2.cell? ⟨gb, 0, none⟩ = some (.int .i64 4) := blk_cell KB.out 0; have b1 : w2.cell? ⟨gb, 1, none⟩ = some (.int .i64 i) := blk_cell KB.out 1; have b2 : w2.cell? ⟨gb, 2, none⟩ = some (.float .f64 f) := blk_cell KB.out 2; have b3 : w2.cell? ⟨gb, 3, none⟩ = some (.string s) := blk_cell KB.out 3; have b4 : w2.cell? ⟨gb, 4, none⟩ = some (.slice A l.length c) := blk_cell KB.out 4; clear hg hbox hb)
    | (go_at_call 49; refine (cleans33 4 i f s l HI.out _ ok _ _ _ _ A c (HR.out.kept HB.out)).mono ?_; rintro e w3 ⟨⟨A', c', rfl, hcl⟩, hb⟩; have hsz := HB.out.size; have hgr := blk_lt K.out; have HV := Aside0.mk (hcl.mono (ok' := fun q => W.heap.size ≤ q ∧ gr ≠ q) (fun q hq _ => by omega)); have HB := Aside0.mk (below_step HB.out hb); have K := Aside0.mk (blk_below K.out hb); clear hb hcl hsz hgr)
    | ((with_reducible refine gate_store (t := 25) (p := 2) rfl ?_); refine put_eventU ?hg (t := 25) (p := 2) (v := .tmp 25) ?ho ?hN (g := gr) (u := .agg #[.int .i64 4, .int .i64 0, .float .f64 0, .string ⟨#[]⟩, .slice A' l.length c']) (cs := #[.int .i64 4, .int .i64 0, .float .f64 0, .string ⟨#[]⟩, .slice A' l.length c']) ?hp ?hv K.out ?hs ?hi ?h1 ?hc ?_; (case hs => rfl); (case hi => kernel_rfl); (case h1 => simp [Value.oneCell']); (case hc => simp [Value.cells]); (case hg => rfl); (case ho => rfl); (case hN => rfl); (case hp => rfl); (case hv => rfl); intro w4 hk hs; have HB := Aside0.mk (below_keep HB.out HG.out hs); have HV := Aside0.mk (HV.out.step (ok' := fun q => W.heap.size ≤ q) (fun q hq hlt => hs.block q hlt (fun e => hq.2 e.symm)) (fun q hq _ => hq.1)); have K := Aside0.mk hk; clear hk hs))
  have q0 := blk_cell K.out 0
  have q1 := blk_cell K.out 1
  have q2 := blk_cell K.out 2
  have q3 := blk_cell K.out 3
  have q4 := blk_cell K.out 4
  simp at q0 q1 q2 q3 q4
  refine bodyPost_ret (v := .agg #[.int .i64 4, .int .i64 0, .float .f64 0, .string ⟨#[]⟩, .slice A' l.length c']) ?_ rfl ⟨_, rfl, HV.out, HB.out⟩
  simp [results, Tryz.results25, go_sem, q0, q1, q2, q3, q4]
/-- Clean. -/
theorem clean18 (v : Val) : CleanC v := by
  induction v using Val.ind with
  | h k i f s l ih =>
    intro W ok cs hR
    obtain ⟨A, c, rfl, wk, wi, wf, ws, wc, wb⟩ := hR.len
    have hk1 : (Lit.int .i64 1).wf = true := by decide
    have hk2 : (Lit.int .i64 2).wf = true := by decide
    have hk3 : (Lit.int .i64 3).wf = true := by decide
    have hi0 : (Lit.int .i64 0).wf = true := by decide
    have hf0 : (Lit.float .f64 0).wf = true := by decide
    have hs0 : (⟨#[]⟩ : ByteArray).size ≤ 140737488351232 := by decide
    unfold clean
    by_cases h1 : k = 1
    · subst h1
      exact (clean18_1 1 i f s A l.length c W).mono fun e w' ⟨he, hb⟩ => ⟨_, he, by simp only [if_true]; exact RV.flat hk1 wi hf0 hs0, hb⟩
    · rw [if_neg h1]
      by_cases h2 : k = 2
      · subst h2
        exact (clean18_2 2 i f s A l.length c W).mono fun e w' ⟨he, hb⟩ => ⟨_, he, by simp only [if_true]; exact RV.flat hk2 hi0 (canon_wf wf) hs0, hb⟩
      · rw [if_neg h2]
        by_cases h3 : k = 3
        · subst h3
          exact (clean18_3 3 i f s A l.length c W).mono fun e w' ⟨he, hb⟩ => ⟨_, he, by simp only [if_true]; exact RV.flat hk3 hi0 hf0 ws, hb⟩
        · rw [if_neg h3]
          by_cases h4 : k = 4
          · subst h4
            refine (clean18_4 i f s l ih W ok A c hR).mono fun e w' ⟨cs', he, hv, hb⟩ => ⟨_, he, by simp only [if_true]; exact hv, hb⟩
          · rw [if_neg h4]
            exact (clean18_0 k i f s A l.length c W (beq_eq_false_iff_ne.2 h1) (beq_eq_false_iff_ne.2 h2) (beq_eq_false_iff_ne.2 h3) (beq_eq_false_iff_ne.2 h4)).mono fun e w' ⟨he, hb⟩ => ⟨_, he, RV.flat hi0 hi0 hf0 hs0, hb⟩
end Go.Proofs.YtejfmghjmhiodaaGreatDoor.Vz
