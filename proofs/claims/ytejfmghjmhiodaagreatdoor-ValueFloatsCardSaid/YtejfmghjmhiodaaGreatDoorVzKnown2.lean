import Derived.Deep.RegionHeld3
import Derived.Test.YtejfmghjmhiodaaGreatDoorVzKnown1
namespace Go.Proofs.YtejfmghjmhiodaaGreatDoor.Vz
open Go.RowKit Go.Proofs.YtejfmghjmhiodaaGreatDoorW.PrintWords
set_option linter.unusedVariables false
set_option linter.unusedSimpArgs false
attribute [local go_sem] store_float

theorem vL_RV {W : World} {gl : Nat} (K : W.heap[gl]? = some (.cells #[.int .i64 1, .int .i64 1, .float .f64 0, .string ⟨#[]⟩, .slice none 0 0, .int .i64 2, .int .i64 0, .float .f64 4602678819172646912, .string ⟨#[]⟩, .slice none 0 0, .int .i64 3, .int .i64 0, .float .f64 0, .string ⟨#[97]⟩, .slice none 0 0] 25 (0, 0))) : RV W (fun _ => True) vL #[.int .i64 4, .int .i64 0, .float .f64 0, .string ⟨#[]⟩, .slice (some ⟨gl, 0, none⟩) 3 3] := by
  refine .mk 4 0 0 ⟨#[]⟩ [vInt1, vHalf, vA] (some ⟨gl, 0, none⟩) 3 gl 0 (fun j => if j = 0 then #[.int .i64 1, .int .i64 1, .float .f64 0, .string ⟨#[]⟩, .slice none 0 0] else if j = 1 then #[.int .i64 2, .int .i64 0, .float .f64 4602678819172646912, .string ⟨#[]⟩, .slice none 0 0] else #[.int .i64 3, .int .i64 0, .float .f64 0, .string ⟨#[97]⟩, .slice none 0 0]) (by decide) (by decide) (by decide) (by decide) (by decide) (by decide) (fun _ => ⟨rfl, trivial⟩) ?_ ?_
  · intro j hj q hq
    have hj3 : j < 3 := hj
    rw [Nat.zero_add, blk_cell K]
    match j, hj3 with
    | 0, _ => match q, hq with
      | 0, _ => rfl
      | 1, _ => rfl
      | 2, _ => rfl
      | 3, _ => rfl
      | 4, _ => rfl
    | 1, _ => match q, hq with
      | 0, _ => rfl
      | 1, _ => rfl
      | 2, _ => rfl
      | 3, _ => rfl
      | 4, _ => rfl
    | 2, _ => match q, hq with
      | 0, _ => rfl
      | 1, _ => rfl
      | 2, _ => rfl
      | 3, _ => rfl
      | 4, _ => rfl
  · intro j hj
    match j, hj with
    | 0, _ => exact RV.flat (by decide) (by decide) (by decide) (by decide)
    | 1, _ => exact RV.flat (by decide) (by decide) (by decide +kernel) (by decide)
    | 2, _ => exact RV.flat (by decide) (by decide) (by decide) (by decide)
theorem flatRV (W : World) (k : Int) (f : Nat) (hk : (Lit.int .i64 k).wf = true) (hf : (Lit.float .f64 f).wf = true) : RV W (fun _ => True) (.mk k 0 f ⟨#[]⟩ []) #[.int .i64 k, .int .i64 0, .float .f64 f, .string ⟨#[]⟩, .slice none 0 0] := RV.flat hk (by decide) hf (by decide)
theorem tenK {W w : World} {g2 g1 gl : Nat} (K2 : W.heap[g2]? = some (.cells #[.int .i64 4, .int .i64 0, .float .f64 0, .string ⟨#[]⟩, .slice (some ⟨gl, 0, none⟩) 3 3] 25 (0, 0))) (K1 : W.heap[g1]? = some (.cells #[.int .i64 2, .int .i64 0, .float .f64 0, .string ⟨#[]⟩, .slice none 0 0] 25 (0, 0))) (h : Below W.heap.size W w) : w.cell? ⟨g2, 0, none⟩ = some (.int .i64 4) ∧ w.cell? ⟨g2, 1, none⟩ = some (.int .i64 0) ∧ w.cell? ⟨g2, 2, none⟩ = some (.float .f64 0) ∧ w.cell? ⟨g2, 3, none⟩ = some (.string ⟨#[]⟩) ∧ w.cell? ⟨g2, 4, none⟩ = some (.slice (some ⟨gl, 0, none⟩) 3 3) ∧ w.cell? ⟨g1, 0, none⟩ = some (.int .i64 2) ∧ w.cell? ⟨g1, 1, none⟩ = some (.int .i64 0) ∧ w.cell? ⟨g1, 2, none⟩ = some (.float .f64 0) ∧ w.cell? ⟨g1, 3, none⟩ = some (.string ⟨#[]⟩) ∧ w.cell? ⟨g1, 4, none⟩ = some (.slice none 0 0) :=
  ⟨blk_cell (blk_below K2 h) 0, blk_cell (blk_below K2 h) 1, blk_cell (blk_below K2 h) 2, blk_cell (blk_below K2 h) 3, blk_cell (blk_below K2 h) 4, blk_cell (blk_below K1 h) 0, blk_cell (blk_below K1 h) 1, blk_cell (blk_below K1 h) 2, blk_cell (blk_below K1 h) 3, blk_cell (blk_below K1 h) 4⟩

set_option maxHeartbeats 8000000 in
set_option maxRecDepth 100000 in
theorem known9 (hS : CompareC) (W : World) (T : Tabs3 W) : Calls Tryz.prog 9 #[] W fun e w' => e = .returned (.bool true) ∧ Below W.heap.size W w' := by
  have HT := Aside0.mk T
  have HS := Aside0.mk hS
  clear T hS
  go_enter Tryz.func9, Tryz.ntmps9
  go_upto_region 3 with (first
    | (go_at_call 28; refine (canon_zero _).mono ?_; rintro e w1 ⟨rfl, hw⟩; rw [hw]; clear hw w1)
    | (go_at_call 12; with_reducible refine (mk_zero _).mono ?_; rintro e w2 ⟨rfl, hb⟩; have HB := Aside0.mk hb; clear hb)
    | ((with_reducible refine gate_dst (N := 1) rfl ?_); refine box_event ?hg (N := 1) ?hd (cs := #[.int .i64 0, .int .i64 0, .float .f64 0, .string ⟨#[]⟩, .slice none 0 0]) (t := 25) ?hr ?_; (case hd => rfl); (case hg => rfl); (case hr => first | (go_simp; done) | (go_simp; rfl)); intro g1 hg w3 hbox hb; have HG := Aside0.mk (show W.heap.size ≤ g1 by (have := HB.out.size; omega)); have HB := Aside0.mk (below_step HB.out hb); have K1 := Aside0.mk hbox; clear hg hbox hb)
    | ((with_reducible refine gate_store (t := 25) (p := 1) rfl ?_); refine put_eventU ?hg (t := 25) (p := 1) (v := .tmp 4) ?ho ?hN (g := g1) (u := .agg #[.int .i64 2, .int .i64 0, .float .f64 0, .string ⟨#[]⟩, .slice none 0 0]) (cs := #[.int .i64 2, .int .i64 0, .float .f64 0, .string ⟨#[]⟩, .slice none 0 0]) ?hp ?hv K1.out ?hs ?hi ?h1 ?hc ?_; (case hs => rfl); (case hi => kernel_rfl); (case h1 => simp [Value.oneCell']); (case hc => simp [Value.cells]); (case hg => rfl); (case ho => rfl); (case hN => rfl); (case hp => rfl); (case hv => rfl); intro w4 hk hs; have HB := Aside0.mk (below_keep HB.out HG.out hs); have K1 := Aside0.mk hk; clear hk hs)
    | (go_at_call 23; refine (int14 1 _).mono ?_; rintro e w5 ⟨rfl, hb⟩; have K1 := Aside0.mk (blk_below K1.out hb); have HB := Aside0.mk (below_step HB.out hb); clear hb)
    | (go_at_call 12; with_reducible refine (mk_half _).mono ?_; rintro e w6 ⟨rfl, hb⟩; have K1 := Aside0.mk (blk_below K1.out hb); have HB := Aside0.mk (below_step HB.out hb); clear hb)
    | (go_at_call 15; refine (text32 ⟨#[97]⟩ _).mono ?_; rintro e w7 ⟨rfl, hb⟩; have K1 := Aside0.mk (blk_below K1.out hb); have HB := Aside0.mk (below_step HB.out hb); clear hb)
    | (go_at_call 16; refine (list16 _ _ _ _).mono ?_; rintro e w8 ⟨rfl, hb⟩; have hb2 := below_step (below_alloc (Below.refl _ w7) (.cells #[.int .i64 1, .int .i64 1, .float .f64 0, .string ⟨#[]⟩, .slice none 0 0, .int .i64 2, .int .i64 0, .float .f64 4602678819172646912, .string ⟨#[]⟩, .slice none 0 0, .int .i64 3, .int .i64 0, .float .f64 0, .string ⟨#[97]⟩, .slice none 0 0] 25)) hb; have hn := blk_below (blk_new w7 (.cells #[.int .i64 1, .int .i64 1, .float .f64 0, .string ⟨#[]⟩, .slice none 0 0, .int .i64 2, .int .i64 0, .float .f64 4602678819172646912, .string ⟨#[]⟩, .slice none 0 0, .int .i64 3, .int .i64 0, .float .f64 0, .string ⟨#[97]⟩, .slice none 0 0] 25)) hb; have K1 := Aside0.mk (blk_below K1.out hb2); have HB := Aside0.mk (below_step HB.out hb2); have GL := Aside0.mk hn; clear hb hb2 hn; generalize w7.heap.size = gl at GL ⊢)
    | ((with_reducible refine gate_dst (N := 2) rfl ?_); refine box_event ?hg (N := 2) ?hd (cs := #[.int .i64 0, .int .i64 0, .float .f64 0, .string ⟨#[]⟩, .slice none 0 0]) (t := 25) ?hr ?_; (case hd => rfl); (case hg => rfl); (case hr => first | (go_simp; done) | (go_simp; rfl)); intro g2 hg w9 hbox hb; have HG2 := Aside0.mk (show W.heap.size ≤ g2 ∧ g1 ≠ g2 ∧ gl ≠ g2 by (have h1_ := HB.out.size; have h2_ := blk_lt K1.out; have h3_ := blk_lt GL.out; omega)); have HB := Aside0.mk (below_step HB.out hb); have K1 := Aside0.mk (blk_below K1.out hb); have GL := Aside0.mk (blk_below GL.out hb); have K2 := Aside0.mk hbox; clear hg hbox hb)
    | ((with_reducible refine gate_store (t := 25) (p := 2) rfl ?_); refine put_eventU ?hg (t := 25) (p := 2) (v := .tmp 9) ?ho ?hN (g := g2) (u := .agg #[.int .i64 4, .int .i64 0, .float .f64 0, .string ⟨#[]⟩, .slice (some ⟨gl, 0, none⟩) 3 3]) (cs := #[.int .i64 4, .int .i64 0, .float .f64 0, .string ⟨#[]⟩, .slice (some ⟨gl, 0, none⟩) 3 3]) ?hp ?hv K2.out ?hs ?hi ?h1 ?hc ?_; (case hs => rfl); (case hi => kernel_rfl); (case h1 => simp [Value.oneCell']); (case hc => simp [Value.cells]); (case hg => rfl); (case ho => rfl); (case hN => rfl); (case hp => rfl); (case hv => rfl); intro w10 hk hs; have HB := Aside0.mk (below_keep HB.out HG2.out.1 hs); have K1 := Aside0.mk (hs.blk K1.out HG2.out.2.1); have GL := Aside0.mk (hs.blk GL.out HG2.out.2.2); have K2 := Aside0.mk hk; clear hk hs))
  have a0 : w10.cell? ⟨g2, 0, none⟩ = some (.int .i64 4) := blk_cell K2.out 0
  have a1 : w10.cell? ⟨g2, 1, none⟩ = some (.int .i64 0) := blk_cell K2.out 1
  have a2 : w10.cell? ⟨g2, 2, none⟩ = some (.float .f64 0) := blk_cell K2.out 2
  have a3 : w10.cell? ⟨g2, 3, none⟩ = some (.string ⟨#[]⟩) := blk_cell K2.out 3
  have a4 : w10.cell? ⟨g2, 4, none⟩ = some (.slice (some ⟨gl, 0, none⟩) 3 3) := blk_cell K2.out 4
  have b0 : w10.cell? ⟨g1, 0, none⟩ = some (.int .i64 2) := blk_cell K1.out 0
  have b1 : w10.cell? ⟨g1, 1, none⟩ = some (.int .i64 0) := blk_cell K1.out 1
  have b2 : w10.cell? ⟨g1, 2, none⟩ = some (.float .f64 0) := blk_cell K1.out 2
  have b3 : w10.cell? ⟨g1, 3, none⟩ = some (.string ⟨#[]⟩) := blk_cell K1.out 3
  have b4 : w10.cell? ⟨g1, 4, none⟩ = some (.slice none 0 0) := blk_cell K1.out 4
  have C0 := Aside0.mk (Below.refl w10.drew.heap.size w10.drew)
  have HW := Aside0.mk (HB.out.drew)
  have R := Aside0.mk (fun (w' : World) (h : Below w10.drew.heap.size w10.drew w') => (vL_RV (W := w10.drew) GL.out).kept h)
  have HTT := Aside0.mk (fun (w' : World) (h : Below w10.drew.heap.size w10.drew w') => HT.out.below (below_step HW.out h))
  have ceq : ∀ w', Below w10.drew.heap.size w10.drew w' → Calls Tryz.prog 13 #[.agg #[.int .i64 4, .int .i64 0, .float .f64 0, .string ⟨#[]⟩, .slice (some ⟨gl, 0, none⟩) 3 3], .agg #[.int .i64 4, .int .i64 0, .float .f64 0, .string ⟨#[]⟩, .slice (some ⟨gl, 0, none⟩) 3 3]] w' (fun e w'' => e = .returned (.bool true) ∧ Below w'.heap.size w' w'') := fun w' h => by
    have h1 := equal13 vL w' _ _ (R.out w' h) vL _ _ (R.out w' h)
    rwa [vL_equal] at h1
  have cor : ∀ w' : World, Calls Tryz.prog 11 #[.agg #[.int .i64 2, .int .i64 0, .float .f64 0, .string ⟨#[]⟩, .slice none 0 0], .agg #[.int .i64 2, .int .i64 0, .float .f64 4607182418800017408, .string ⟨#[]⟩, .slice none 0 0]] w' (fun e w'' => e = .returned (.int .i64 (-1)) ∧ Below w'.heap.size w' w'') := fun w' => by
    have h1 := order11 HS.out (.mk 2 0 0 ⟨#[]⟩ []) w' (fun _ => True) _ (flatRV _ 2 0 (by decide) (by decide)) (.mk 2 0 4607182418800017408 ⟨#[]⟩ []) (fun _ => True) _ (flatRV _ 2 4607182418800017408 (by decide) (by decide +kernel))
    rwa [v_order] at h1
  have cch : ∀ w', Below w10.drew.heap.size w10.drew w' → Calls Tryz.prog 17 #[.agg #[.int .i64 4, .int .i64 0, .float .f64 0, .string ⟨#[]⟩, .slice (some ⟨gl, 0, none⟩) 3 3]] w' (fun e w'' => e = .returned (.int .i64 0) ∧ Below w'.heap.size w' w'') := fun w' h => by
    have h1 := check17 vL w' _ _ (R.out w' h)
    rwa [vL_check] at h1
  have cc9 : ∀ w' : World, Calls Tryz.prog 17 #[.agg #[.int .i64 9, .int .i64 0, .float .f64 0, .string ⟨#[]⟩, .slice none 0 0]] w' (fun e w'' => e = .returned (.int .i64 31) ∧ Below w'.heap.size w' w'') := fun w' => by
    have h1 := check17 (.mk 9 0 0 ⟨#[]⟩ []) w' (fun _ => True) _ (flatRV _ 9 0 (by decide) (by decide))
    rwa [v9_check] at h1
  have csz : ∀ w', Below w10.drew.heap.size w10.drew w' → Calls Tryz.prog 18 #[.agg #[.int .i64 4, .int .i64 0, .float .f64 0, .string ⟨#[]⟩, .slice (some ⟨gl, 0, none⟩) 3 3]] w' (fun e w'' => e = .returned (.int .i64 24) ∧ Below w'.heap.size w' w'') := fun w' h => by
    have h1 := size18 vL w' _ _ (R.out w' h)
    rwa [vL_size] at h1
  have CE := Aside0.mk (And.intro ceq (And.intro cor (And.intro cch (And.intro cc9 csz))))
  clear ceq cor cch cc9 csz
  refine wp_region_held_drew (S := fun w' => w'.cell? ⟨g2, 0, none⟩ = some (.int .i64 4) ∧ w'.cell? ⟨g2, 1, none⟩ = some (.int .i64 0) ∧ w'.cell? ⟨g2, 2, none⟩ = some (.float .f64 0) ∧ w'.cell? ⟨g2, 3, none⟩ = some (.string ⟨#[]⟩) ∧ w'.cell? ⟨g2, 4, none⟩ = some (.slice (some ⟨gl, 0, none⟩) 3 3) ∧ w'.cell? ⟨g1, 0, none⟩ = some (.int .i64 2) ∧ w'.cell? ⟨g1, 1, none⟩ = some (.int .i64 0) ∧ w'.cell? ⟨g1, 2, none⟩ = some (.float .f64 0) ∧ w'.cell? ⟨g1, 3, none⟩ = some (.string ⟨#[]⟩) ∧ w'.cell? ⟨g1, 4, none⟩ = some (.slice none 0 0)) (by kernel_rfl) ?_ (fun hHeld => ?_)
  · exact ⟨a0, a1, a2, a3, a4, b0, b1, b2, b3, b4⟩
  refine wpAnyH_take (i := 0) (oi := { dst := some 10, op := Go.Op.load 25 (Go.Operand.tmp 2), type := 25, pos := "law.go:15", after := #[], guard := none }) (v := ?_) rfl (by kernel_rfl) (by kernel_rfl) (by kernel_rfl) (fun _ _ _ h => h) (Or.inl ⟨by rfl, ?_⟩) (by assumption) ?_
  rotate_left
  · first | (intro w hSw; (try dsimp only at hSw); go_simp; done) | (intro w hSw; (try dsimp only at hSw); go_simp; with_reducible rfl)
  try simp only [Act.put, List.setIfInBounds_toArray, List.set_cons_zero, List.set_cons_succ]
  refine wpAnyH_ready (rs := [1]) (by kernel_rfl) (by simp) ?_
  refine AllReadyH.cons (o := { dst := some 11, op := Go.Op.call { callee := Go.Callee.value (Go.Operand.func 22), args := #[Go.Operand.tmp 10], argTypes := #[25] }, type := 9, pos := "law.go:15", after := #[{ on := 0, ground := Go.Ground.data }], guard := none }) rfl (fun K hK => ?_) AllReadyH.nil
  go_simp
  refine (vL_text _ _ _ (HTT.out _ C0.out) (R.out _ C0.out)).mono ?_
  rintro e v1 ⟨rfl, hb⟩
  have C1 := Aside0.mk (below_step C0.out hb)
  refine hK.out _ _ ?_ (fun hHeld => ?_)
  · exact tenK (gl := gl) (W := w10.drew) K2.out K1.out C1.out
  clear hK K hb
  try simp only [Act.put, List.setIfInBounds_toArray, List.set_cons_zero, List.set_cons_succ]
  refine wpAnyH_take (i := 2) (oi := { dst := some 12, op := Go.Op.binOp Go.BinOp.eql 9 (Go.Operand.tmp 11) (Go.Operand.const (Go.Value.string { data := #[91, 49, 44, 32, 48, 46, 53, 44, 32, 34, 97, 34, 93] })) 9, type := 4, pos := "law.go:15", after := #[{ on := 1, ground := Go.Ground.data }], guard := none }) (v := ?_) rfl (by kernel_rfl) (by kernel_rfl) (by kernel_rfl) (fun _ _ _ h => h) (Or.inl ⟨by rfl, ?_⟩) (by assumption) ?_
  rotate_left
  · first | (intro w hSw; (try dsimp only at hSw); go_simp; done) | (intro w hSw; (try dsimp only at hSw); go_simp; with_reducible rfl)
  try simp only [Act.put, List.setIfInBounds_toArray, List.set_cons_zero, List.set_cons_succ]
  refine wpAnyH_take (i := 3) (oi := { dst := some 13, op := Go.Op.move (Go.Operand.tmp 12), type := 4, pos := "law.go:15", after := #[{ on := 2, ground := Go.Ground.data }, { on := 1, ground := Go.Ground.chain }], guard := none }) (v := ?_) rfl (by kernel_rfl) (by kernel_rfl) (by kernel_rfl) (fun _ _ _ h => h) (Or.inl ⟨by rfl, ?_⟩) (by assumption) ?_
  rotate_left
  · first | (intro w hSw; (try dsimp only at hSw); go_simp; done) | (intro w hSw; (try dsimp only at hSw); go_simp; with_reducible rfl)
  try simp only [Act.put, List.setIfInBounds_toArray, List.set_cons_zero, List.set_cons_succ]
  refine wpAnyH_ready (rs := [4]) (by kernel_rfl) (by simp) ?_
  refine AllReadyH.cons (o := { dst := some 14, op := Go.Op.call { callee := Go.Callee.value (Go.Operand.func 12), args := #[Go.Operand.const (Go.Value.float Go.FloatKind.f64 4611686018427387904)], argTypes := #[22] }, type := 25, pos := "law.go:15", after := #[{ on := 3, ground := Go.Ground.chain }, { on := 3, ground := Go.Ground.guard }], guard := some (3, true) }) rfl (fun K hK => ?_) AllReadyH.nil
  go_simp
  refine (mk_two _).mono ?_
  rintro e v2 ⟨rfl, hb⟩
  have C2 := Aside0.mk (below_step C1.out hb)
  refine hK.out _ _ ?_ (fun hHeld => ?_)
  · exact tenK (gl := gl) (W := w10.drew) K2.out K1.out C2.out
  clear hK K hb
  try simp only [Act.put, List.setIfInBounds_toArray, List.set_cons_zero, List.set_cons_succ]
  refine wpAnyH_ready (rs := [5]) (by kernel_rfl) (by simp) ?_
  refine AllReadyH.cons (o := { dst := some 15, op := Go.Op.call { callee := Go.Callee.value (Go.Operand.func 22), args := #[Go.Operand.tmp 14], argTypes := #[25] }, type := 9, pos := "law.go:15", after := #[{ on := 4, ground := Go.Ground.data }, { on := 4, ground := Go.Ground.chain }, { on := 3, ground := Go.Ground.guard }], guard := some (3, true) }) rfl (fun K hK => ?_) AllReadyH.nil
  go_simp
  refine (txt_two 0 ⟨#[]⟩ [] _ (fun _ => True) _ (HTT.out _ C2.out) (flatRV _ 2 4611686018427387904 (by decide) (by decide +kernel))).mono ?_
  rintro e v3 ⟨rfl, hb⟩
  have C3 := Aside0.mk (below_step C2.out hb)
  refine hK.out _ _ ?_ (fun hHeld => ?_)
  · exact tenK (gl := gl) (W := w10.drew) K2.out K1.out C3.out
  clear hK K hb
  try simp only [Act.put, List.setIfInBounds_toArray, List.set_cons_zero, List.set_cons_succ]
  refine wpAnyH_take (i := 6) (oi := { dst := some 16, op := Go.Op.binOp Go.BinOp.eql 9 (Go.Operand.tmp 15) (Go.Operand.const (Go.Value.string { data := #[50, 46, 48] })) 9, type := 4, pos := "law.go:15", after := #[{ on := 5, ground := Go.Ground.data }, { on := 3, ground := Go.Ground.guard }], guard := some (3, true) }) (v := ?_) rfl (by kernel_rfl) (by kernel_rfl) (by kernel_rfl) (fun _ _ _ h => h) (Or.inl ⟨by rfl, ?_⟩) (by assumption) ?_
  rotate_left
  · first | (intro w hSw; (try dsimp only at hSw); go_simp; done) | (intro w hSw; (try dsimp only at hSw); go_simp; with_reducible rfl)
  try simp only [Act.put, List.setIfInBounds_toArray, List.set_cons_zero, List.set_cons_succ]
  refine wpAnyH_take (i := 7) (oi := { dst := some 17, op := Go.Op.pick (Go.Operand.tmp 13) (Go.Operand.tmp 16) (Go.Operand.const (Go.Value.bool false)), type := 4, pos := "law.go:15", after := #[{ on := 3, ground := Go.Ground.data }, { on := 6, ground := Go.Ground.data }], guard := none }) (v := ?_) rfl (by kernel_rfl) (by kernel_rfl) (by kernel_rfl) (fun _ _ _ h => h) (Or.inl ⟨by rfl, ?_⟩) (by assumption) ?_
  rotate_left
  · first | (intro w hSw; (try dsimp only at hSw); go_simp; done) | (intro w hSw; (try dsimp only at hSw); go_simp; with_reducible rfl)
  try simp only [Act.put, List.setIfInBounds_toArray, List.set_cons_zero, List.set_cons_succ]
  refine wpAnyH_take (i := 8) (oi := { dst := some 18, op := Go.Op.move (Go.Operand.tmp 17), type := 4, pos := "law.go:15", after := #[{ on := 7, ground := Go.Ground.data }, { on := 5, ground := Go.Ground.chain }], guard := none }) (v := ?_) rfl (by kernel_rfl) (by kernel_rfl) (by kernel_rfl) (fun _ _ _ h => h) (Or.inl ⟨by rfl, ?_⟩) (by assumption) ?_
  rotate_left
  · first | (intro w hSw; (try dsimp only at hSw); go_simp; done) | (intro w hSw; (try dsimp only at hSw); go_simp; with_reducible rfl)
  try simp only [Act.put, List.setIfInBounds_toArray, List.set_cons_zero, List.set_cons_succ]
  refine wpAnyH_take (i := 9) (oi := { dst := some 19, op := Go.Op.load 25 (Go.Operand.tmp 2), type := 25, pos := "law.go:15", after := #[{ on := 8, ground := Go.Ground.guard }], guard := some (8, true) }) (v := ?_) rfl (by kernel_rfl) (by kernel_rfl) (by kernel_rfl) (fun _ _ _ h => h) (Or.inl ⟨by rfl, ?_⟩) (by assumption) ?_
  rotate_left
  · first | (intro w hSw; (try dsimp only at hSw); go_simp; done) | (intro w hSw; (try dsimp only at hSw); go_simp; with_reducible rfl)
  try simp only [Act.put, List.setIfInBounds_toArray, List.set_cons_zero, List.set_cons_succ]
  refine wpAnyH_take (i := 10) (oi := { dst := some 20, op := Go.Op.load 25 (Go.Operand.tmp 2), type := 25, pos := "law.go:15", after := #[{ on := 8, ground := Go.Ground.guard }], guard := some (8, true) }) (v := ?_) rfl (by kernel_rfl) (by kernel_rfl) (by kernel_rfl) (fun _ _ _ h => h) (Or.inl ⟨by rfl, ?_⟩) (by assumption) ?_
  rotate_left
  · first | (intro w hSw; (try dsimp only at hSw); go_simp; done) | (intro w hSw; (try dsimp only at hSw); go_simp; with_reducible rfl)
  try simp only [Act.put, List.setIfInBounds_toArray, List.set_cons_zero, List.set_cons_succ]
  refine wpAnyH_ready (rs := [11]) (by kernel_rfl) (by simp) ?_
  refine AllReadyH.cons (o := { dst := some 21, op := Go.Op.call { callee := Go.Callee.value (Go.Operand.func 13), args := #[Go.Operand.tmp 19, Go.Operand.tmp 20], argTypes := #[25, 25] }, type := 4, pos := "law.go:15", after := #[{ on := 9, ground := Go.Ground.data }, { on := 10, ground := Go.Ground.data }, { on := 8, ground := Go.Ground.chain }, { on := 8, ground := Go.Ground.guard }], guard := some (8, true) }) rfl (fun K hK => ?_) AllReadyH.nil
  go_simp
  refine (CE.out.1 _ C3.out).mono ?_
  rintro e v4 ⟨rfl, hb⟩
  have C4 := Aside0.mk (below_step C3.out hb)
  refine hK.out _ _ ?_ (fun hHeld => ?_)
  · exact tenK (gl := gl) (W := w10.drew) K2.out K1.out C4.out
  clear hK K hb
  try simp only [Act.put, List.setIfInBounds_toArray, List.set_cons_zero, List.set_cons_succ]
  refine wpAnyH_take (i := 12) (oi := { dst := some 22, op := Go.Op.pick (Go.Operand.tmp 18) (Go.Operand.tmp 21) (Go.Operand.const (Go.Value.bool false)), type := 4, pos := "law.go:15", after := #[{ on := 8, ground := Go.Ground.data }, { on := 11, ground := Go.Ground.data }], guard := none }) (v := ?_) rfl (by kernel_rfl) (by kernel_rfl) (by kernel_rfl) (fun _ _ _ h => h) (Or.inl ⟨by rfl, ?_⟩) (by assumption) ?_
  rotate_left
  · first | (intro w hSw; (try dsimp only at hSw); go_simp; done) | (intro w hSw; (try dsimp only at hSw); go_simp; with_reducible rfl)
  try simp only [Act.put, List.setIfInBounds_toArray, List.set_cons_zero, List.set_cons_succ]
  refine wpAnyH_take (i := 13) (oi := { dst := some 23, op := Go.Op.move (Go.Operand.tmp 22), type := 4, pos := "law.go:15", after := #[{ on := 12, ground := Go.Ground.data }, { on := 11, ground := Go.Ground.chain }], guard := none }) (v := ?_) rfl (by kernel_rfl) (by kernel_rfl) (by kernel_rfl) (fun _ _ _ h => h) (Or.inl ⟨by rfl, ?_⟩) (by assumption) ?_
  rotate_left
  · first | (intro w hSw; (try dsimp only at hSw); go_simp; done) | (intro w hSw; (try dsimp only at hSw); go_simp; with_reducible rfl)
  try simp only [Act.put, List.setIfInBounds_toArray, List.set_cons_zero, List.set_cons_succ]
  refine wpAnyH_take (i := 14) (oi := { dst := some 24, op := Go.Op.load 25 (Go.Operand.tmp 1), type := 25, pos := "law.go:15", after := #[{ on := 13, ground := Go.Ground.guard }], guard := some (13, true) }) (v := ?_) rfl (by kernel_rfl) (by kernel_rfl) (by kernel_rfl) (fun _ _ _ h => h) (Or.inl ⟨by rfl, ?_⟩) (by assumption) ?_
  rotate_left
  · first | (intro w hSw; (try dsimp only at hSw); go_simp; done) | (intro w hSw; (try dsimp only at hSw); go_simp; with_reducible rfl)
  try simp only [Act.put, List.setIfInBounds_toArray, List.set_cons_zero, List.set_cons_succ]
  refine wpAnyH_ready (rs := [15]) (by kernel_rfl) (by simp) ?_
  refine AllReadyH.cons (o := { dst := some 25, op := Go.Op.call { callee := Go.Callee.value (Go.Operand.func 12), args := #[Go.Operand.const (Go.Value.float Go.FloatKind.f64 4607182418800017408)], argTypes := #[22] }, type := 25, pos := "law.go:15", after := #[{ on := 13, ground := Go.Ground.chain }, { on := 13, ground := Go.Ground.guard }], guard := some (13, true) }) rfl (fun K hK => ?_) AllReadyH.nil
  go_simp
  refine (mk_one _).mono ?_
  rintro e v5 ⟨rfl, hb⟩
  have C5 := Aside0.mk (below_step C4.out hb)
  refine hK.out _ _ ?_ (fun hHeld => ?_)
  · exact tenK (gl := gl) (W := w10.drew) K2.out K1.out C5.out
  clear hK K hb
  try simp only [Act.put, List.setIfInBounds_toArray, List.set_cons_zero, List.set_cons_succ]
  refine wpAnyH_ready (rs := [16]) (by kernel_rfl) (by simp) ?_
  refine AllReadyH.cons (o := { dst := some 26, op := Go.Op.call { callee := Go.Callee.value (Go.Operand.func 11), args := #[Go.Operand.tmp 24, Go.Operand.tmp 25], argTypes := #[25, 25] }, type := 3, pos := "law.go:15", after := #[{ on := 14, ground := Go.Ground.data }, { on := 15, ground := Go.Ground.data }, { on := 15, ground := Go.Ground.chain }, { on := 13, ground := Go.Ground.guard }], guard := some (13, true) }) rfl (fun K hK => ?_) AllReadyH.nil
  go_simp
  refine (CE.out.2.1 _).mono ?_
  rintro e v6 ⟨rfl, hb⟩
  have C6 := Aside0.mk (below_step C5.out hb)
  refine hK.out _ _ ?_ (fun hHeld => ?_)
  · exact tenK (gl := gl) (W := w10.drew) K2.out K1.out C6.out
  clear hK K hb
  try simp only [Act.put, List.setIfInBounds_toArray, List.set_cons_zero, List.set_cons_succ]
  refine wpAnyH_take (i := 17) (oi := { dst := some 27, op := Go.Op.binOp Go.BinOp.eql 3 (Go.Operand.tmp 26) (Go.Operand.const (Go.Value.int Go.IntKind.i64 (-1))) 3, type := 4, pos := "law.go:15", after := #[{ on := 16, ground := Go.Ground.data }, { on := 13, ground := Go.Ground.guard }], guard := some (13, true) }) (v := ?_) rfl (by kernel_rfl) (by kernel_rfl) (by kernel_rfl) (fun _ _ _ h => h) (Or.inl ⟨by rfl, ?_⟩) (by assumption) ?_
  rotate_left
  · first | (intro w hSw; (try dsimp only at hSw); go_simp; done) | (intro w hSw; (try dsimp only at hSw); go_simp; with_reducible rfl)
  try simp only [Act.put, List.setIfInBounds_toArray, List.set_cons_zero, List.set_cons_succ]
  refine wpAnyH_take (i := 18) (oi := { dst := some 28, op := Go.Op.pick (Go.Operand.tmp 23) (Go.Operand.tmp 27) (Go.Operand.const (Go.Value.bool false)), type := 4, pos := "law.go:15", after := #[{ on := 13, ground := Go.Ground.data }, { on := 17, ground := Go.Ground.data }], guard := none }) (v := ?_) rfl (by kernel_rfl) (by kernel_rfl) (by kernel_rfl) (fun _ _ _ h => h) (Or.inl ⟨by rfl, ?_⟩) (by assumption) ?_
  rotate_left
  · first | (intro w hSw; (try dsimp only at hSw); go_simp; done) | (intro w hSw; (try dsimp only at hSw); go_simp; with_reducible rfl)
  try simp only [Act.put, List.setIfInBounds_toArray, List.set_cons_zero, List.set_cons_succ]
  refine wpAnyH_take (i := 19) (oi := { dst := some 29, op := Go.Op.move (Go.Operand.tmp 28), type := 4, pos := "law.go:15", after := #[{ on := 18, ground := Go.Ground.data }, { on := 16, ground := Go.Ground.chain }], guard := none }) (v := ?_) rfl (by kernel_rfl) (by kernel_rfl) (by kernel_rfl) (fun _ _ _ h => h) (Or.inl ⟨by rfl, ?_⟩) (by assumption) ?_
  rotate_left
  · first | (intro w hSw; (try dsimp only at hSw); go_simp; done) | (intro w hSw; (try dsimp only at hSw); go_simp; with_reducible rfl)
  try simp only [Act.put, List.setIfInBounds_toArray, List.set_cons_zero, List.set_cons_succ]
  refine wpAnyH_take (i := 20) (oi := { dst := some 30, op := Go.Op.load 25 (Go.Operand.tmp 2), type := 25, pos := "law.go:15", after := #[{ on := 19, ground := Go.Ground.guard }], guard := some (19, true) }) (v := ?_) rfl (by kernel_rfl) (by kernel_rfl) (by kernel_rfl) (fun _ _ _ h => h) (Or.inl ⟨by rfl, ?_⟩) (by assumption) ?_
  rotate_left
  · first | (intro w hSw; (try dsimp only at hSw); go_simp; done) | (intro w hSw; (try dsimp only at hSw); go_simp; with_reducible rfl)
  try simp only [Act.put, List.setIfInBounds_toArray, List.set_cons_zero, List.set_cons_succ]
  refine wpAnyH_ready (rs := [21]) (by kernel_rfl) (by simp) ?_
  refine AllReadyH.cons (o := { dst := some 31, op := Go.Op.call { callee := Go.Callee.value (Go.Operand.func 17), args := #[Go.Operand.tmp 30], argTypes := #[25] }, type := 38, pos := "law.go:15", after := #[{ on := 20, ground := Go.Ground.data }, { on := 19, ground := Go.Ground.chain }, { on := 19, ground := Go.Ground.guard }], guard := some (19, true) }) rfl (fun K hK => ?_) AllReadyH.nil
  go_simp
  refine (CE.out.2.2.1 _ C6.out).mono ?_
  rintro e v7 ⟨rfl, hb⟩
  have C7 := Aside0.mk (below_step C6.out hb)
  refine hK.out _ _ ?_ (fun hHeld => ?_)
  · exact tenK (gl := gl) (W := w10.drew) K2.out K1.out C7.out
  clear hK K hb
  try simp only [Act.put, List.setIfInBounds_toArray, List.set_cons_zero, List.set_cons_succ]
  refine wpAnyH_take (i := 22) (oi := { dst := some 32, op := Go.Op.binOp Go.BinOp.eql 3 (Go.Operand.tmp 31) (Go.Operand.const (Go.Value.int Go.IntKind.i64 0)) 3, type := 4, pos := "law.go:15", after := #[{ on := 21, ground := Go.Ground.data }, { on := 19, ground := Go.Ground.guard }], guard := some (19, true) }) (v := ?_) rfl (by kernel_rfl) (by kernel_rfl) (by kernel_rfl) (fun _ _ _ h => h) (Or.inl ⟨by rfl, ?_⟩) (by assumption) ?_
  rotate_left
  · first | (intro w hSw; (try dsimp only at hSw); go_simp; done) | (intro w hSw; (try dsimp only at hSw); go_simp; with_reducible rfl)
  try simp only [Act.put, List.setIfInBounds_toArray, List.set_cons_zero, List.set_cons_succ]
  refine wpAnyH_take (i := 23) (oi := { dst := some 33, op := Go.Op.pick (Go.Operand.tmp 29) (Go.Operand.tmp 32) (Go.Operand.const (Go.Value.bool false)), type := 4, pos := "law.go:15", after := #[{ on := 19, ground := Go.Ground.data }, { on := 22, ground := Go.Ground.data }], guard := none }) (v := ?_) rfl (by kernel_rfl) (by kernel_rfl) (by kernel_rfl) (fun _ _ _ h => h) (Or.inl ⟨by rfl, ?_⟩) (by assumption) ?_
  rotate_left
  · first | (intro w hSw; (try dsimp only at hSw); go_simp; done) | (intro w hSw; (try dsimp only at hSw); go_simp; with_reducible rfl)
  try simp only [Act.put, List.setIfInBounds_toArray, List.set_cons_zero, List.set_cons_succ]
  refine wpAnyH_take (i := 24) (oi := { dst := some 34, op := Go.Op.move (Go.Operand.tmp 33), type := 4, pos := "law.go:15", after := #[{ on := 23, ground := Go.Ground.data }, { on := 21, ground := Go.Ground.chain }], guard := none }) (v := ?_) rfl (by kernel_rfl) (by kernel_rfl) (by kernel_rfl) (fun _ _ _ h => h) (Or.inl ⟨by rfl, ?_⟩) (by assumption) ?_
  rotate_left
  · first | (intro w hSw; (try dsimp only at hSw); go_simp; done) | (intro w hSw; (try dsimp only at hSw); go_simp; with_reducible rfl)
  try simp only [Act.put, List.setIfInBounds_toArray, List.set_cons_zero, List.set_cons_succ]
  refine wpAnyH_take (i := 25) (oi := { dst := some 35, op := Go.Op.build 25 #[(0, Go.Operand.const (Go.Value.int Go.IntKind.i64 9))], type := 25, pos := "law.go:15", after := #[{ on := 24, ground := Go.Ground.guard }], guard := some (24, true) }) (v := ?_) rfl (by kernel_rfl) (by kernel_rfl) (by kernel_rfl) (fun _ _ _ h => h) (Or.inl ⟨by rfl, ?_⟩) (by assumption) ?_
  rotate_left
  · first | (intro w hSw; (try dsimp only at hSw); go_simp; done) | (intro w hSw; (try dsimp only at hSw); go_simp; with_reducible rfl)
  try simp only [Act.put, List.setIfInBounds_toArray, List.set_cons_zero, List.set_cons_succ]
  refine wpAnyH_ready (rs := [26]) (by kernel_rfl) (by simp) ?_
  refine AllReadyH.cons (o := { dst := some 36, op := Go.Op.call { callee := Go.Callee.value (Go.Operand.func 17), args := #[Go.Operand.tmp 35], argTypes := #[25] }, type := 38, pos := "law.go:15", after := #[{ on := 25, ground := Go.Ground.data }, { on := 24, ground := Go.Ground.chain }, { on := 24, ground := Go.Ground.guard }], guard := some (24, true) }) rfl (fun K hK => ?_) AllReadyH.nil
  go_simp
  refine (CE.out.2.2.2.1 _).mono ?_
  rintro e v8 ⟨rfl, hb⟩
  have C8 := Aside0.mk (below_step C7.out hb)
  refine hK.out _ _ ?_ (fun hHeld => ?_)
  · exact tenK (gl := gl) (W := w10.drew) K2.out K1.out C8.out
  clear hK K hb
  try simp only [Act.put, List.setIfInBounds_toArray, List.set_cons_zero, List.set_cons_succ]
  refine wpAnyH_take (i := 27) (oi := { dst := some 37, op := Go.Op.binOp Go.BinOp.eql 3 (Go.Operand.tmp 36) (Go.Operand.const (Go.Value.int Go.IntKind.i64 31)) 3, type := 4, pos := "law.go:15", after := #[{ on := 26, ground := Go.Ground.data }, { on := 24, ground := Go.Ground.guard }], guard := some (24, true) }) (v := ?_) rfl (by kernel_rfl) (by kernel_rfl) (by kernel_rfl) (fun _ _ _ h => h) (Or.inl ⟨by rfl, ?_⟩) (by assumption) ?_
  rotate_left
  · first | (intro w hSw; (try dsimp only at hSw); go_simp; done) | (intro w hSw; (try dsimp only at hSw); go_simp; with_reducible rfl)
  try simp only [Act.put, List.setIfInBounds_toArray, List.set_cons_zero, List.set_cons_succ]
  refine wpAnyH_take (i := 28) (oi := { dst := some 38, op := Go.Op.pick (Go.Operand.tmp 34) (Go.Operand.tmp 37) (Go.Operand.const (Go.Value.bool false)), type := 4, pos := "law.go:15", after := #[{ on := 24, ground := Go.Ground.data }, { on := 27, ground := Go.Ground.data }], guard := none }) (v := ?_) rfl (by kernel_rfl) (by kernel_rfl) (by kernel_rfl) (fun _ _ _ h => h) (Or.inl ⟨by rfl, ?_⟩) (by assumption) ?_
  rotate_left
  · first | (intro w hSw; (try dsimp only at hSw); go_simp; done) | (intro w hSw; (try dsimp only at hSw); go_simp; with_reducible rfl)
  try simp only [Act.put, List.setIfInBounds_toArray, List.set_cons_zero, List.set_cons_succ]
  refine wpAnyH_take (i := 29) (oi := { dst := some 39, op := Go.Op.move (Go.Operand.tmp 38), type := 4, pos := "law.go:15", after := #[{ on := 28, ground := Go.Ground.data }, { on := 26, ground := Go.Ground.chain }], guard := none }) (v := ?_) rfl (by kernel_rfl) (by kernel_rfl) (by kernel_rfl) (fun _ _ _ h => h) (Or.inl ⟨by rfl, ?_⟩) (by assumption) ?_
  rotate_left
  · first | (intro w hSw; (try dsimp only at hSw); go_simp; done) | (intro w hSw; (try dsimp only at hSw); go_simp; with_reducible rfl)
  try simp only [Act.put, List.setIfInBounds_toArray, List.set_cons_zero, List.set_cons_succ]
  refine wpAnyH_take (i := 30) (oi := { dst := some 40, op := Go.Op.load 25 (Go.Operand.tmp 2), type := 25, pos := "law.go:15", after := #[{ on := 29, ground := Go.Ground.guard }], guard := some (29, true) }) (v := ?_) rfl (by kernel_rfl) (by kernel_rfl) (by kernel_rfl) (fun _ _ _ h => h) (Or.inl ⟨by rfl, ?_⟩) (by assumption) ?_
  rotate_left
  · first | (intro w hSw; (try dsimp only at hSw); go_simp; done) | (intro w hSw; (try dsimp only at hSw); go_simp; with_reducible rfl)
  try simp only [Act.put, List.setIfInBounds_toArray, List.set_cons_zero, List.set_cons_succ]
  refine wpAnyH_ready (rs := [31]) (by kernel_rfl) (by simp) ?_
  refine AllReadyH.cons (o := { dst := some 41, op := Go.Op.call { callee := Go.Callee.value (Go.Operand.func 18), args := #[Go.Operand.tmp 40], argTypes := #[25] }, type := 3, pos := "law.go:15", after := #[{ on := 30, ground := Go.Ground.data }, { on := 29, ground := Go.Ground.chain }, { on := 29, ground := Go.Ground.guard }], guard := some (29, true) }) rfl (fun K hK => ?_) AllReadyH.nil
  go_simp
  refine (CE.out.2.2.2.2 _ C8.out).mono ?_
  rintro e v9 ⟨rfl, hb⟩
  have C9 := Aside0.mk (below_step C8.out hb)
  refine hK.out _ _ ?_ (fun hHeld => ?_)
  · exact tenK (gl := gl) (W := w10.drew) K2.out K1.out C9.out
  clear hK K hb
  try simp only [Act.put, List.setIfInBounds_toArray, List.set_cons_zero, List.set_cons_succ]
  refine wpAnyH_take (i := 32) (oi := { dst := some 42, op := Go.Op.binOp Go.BinOp.eql 3 (Go.Operand.tmp 41) (Go.Operand.const (Go.Value.int Go.IntKind.i64 24)) 3, type := 4, pos := "law.go:15", after := #[{ on := 31, ground := Go.Ground.data }, { on := 29, ground := Go.Ground.guard }], guard := some (29, true) }) (v := ?_) rfl (by kernel_rfl) (by kernel_rfl) (by kernel_rfl) (fun _ _ _ h => h) (Or.inl ⟨by rfl, ?_⟩) (by assumption) ?_
  rotate_left
  · first | (intro w hSw; (try dsimp only at hSw); go_simp; done) | (intro w hSw; (try dsimp only at hSw); go_simp; with_reducible rfl)
  try simp only [Act.put, List.setIfInBounds_toArray, List.set_cons_zero, List.set_cons_succ]
  refine wpAnyH_take (i := 33) (oi := { dst := some 43, op := Go.Op.pick (Go.Operand.tmp 39) (Go.Operand.tmp 42) (Go.Operand.const (Go.Value.bool false)), type := 4, pos := "law.go:15", after := #[{ on := 29, ground := Go.Ground.data }, { on := 32, ground := Go.Ground.data }], guard := none }) (v := ?_) rfl (by kernel_rfl) (by kernel_rfl) (by kernel_rfl) (fun _ _ _ h => h) (Or.inl ⟨by rfl, ?_⟩) (by assumption) ?_
  rotate_left
  · first | (intro w hSw; (try dsimp only at hSw); go_simp; done) | (intro w hSw; (try dsimp only at hSw); go_simp; with_reducible rfl)
  try simp only [Act.put, List.setIfInBounds_toArray, List.set_cons_zero, List.set_cons_succ]
  refine wpAnyH_take (i := 34) (oi := { dst := some 0, op := Go.Op.assign (Go.Operand.tmp 43), type := 4, pos := "law.go:15", after := #[{ on := 33, ground := Go.Ground.data }, { on := 31, ground := Go.Ground.chain }, { on := 0, ground := Go.Ground.phase }, { on := 1, ground := Go.Ground.phase }, { on := 2, ground := Go.Ground.phase }, { on := 3, ground := Go.Ground.phase }, { on := 4, ground := Go.Ground.phase }, { on := 5, ground := Go.Ground.phase }, { on := 6, ground := Go.Ground.phase }, { on := 7, ground := Go.Ground.phase }, { on := 8, ground := Go.Ground.phase }, { on := 9, ground := Go.Ground.phase }, { on := 10, ground := Go.Ground.phase }, { on := 11, ground := Go.Ground.phase }, { on := 12, ground := Go.Ground.phase }, { on := 13, ground := Go.Ground.phase }, { on := 14, ground := Go.Ground.phase }, { on := 15, ground := Go.Ground.phase }, { on := 16, ground := Go.Ground.phase }, { on := 17, ground := Go.Ground.phase }, { on := 18, ground := Go.Ground.phase }, { on := 19, ground := Go.Ground.phase }, { on := 20, ground := Go.Ground.phase }, { on := 21, ground := Go.Ground.phase }, { on := 22, ground := Go.Ground.phase }, { on := 23, ground := Go.Ground.phase }, { on := 24, ground := Go.Ground.phase }, { on := 25, ground := Go.Ground.phase }, { on := 26, ground := Go.Ground.phase }, { on := 27, ground := Go.Ground.phase }, { on := 28, ground := Go.Ground.phase }, { on := 29, ground := Go.Ground.phase }, { on := 30, ground := Go.Ground.phase }, { on := 31, ground := Go.Ground.phase }, { on := 32, ground := Go.Ground.phase }, { on := 33, ground := Go.Ground.phase }], guard := none }) (v := ?_) rfl (by kernel_rfl) (by kernel_rfl) (by kernel_rfl) (fun _ _ _ h => h) (Or.inl ⟨by rfl, ?_⟩) (by assumption) ?_
  rotate_left
  · first | (intro w hSw; (try dsimp only at hSw); go_simp; done) | (intro w hSw; (try dsimp only at hSw); go_simp; with_reducible rfl)
  try simp only [Act.put, List.setIfInBounds_toArray, List.set_cons_zero, List.set_cons_succ]
  refine wpAnyH_done (by kernel_rfl) ?_ _
  have HF := Aside0.mk (below_step HW.out C9.out)
  clear hHeld a0 a1 a2 a3 a4 b0 b1 b2 b3 b4
  go_wp2
  go_ret
  exact ⟨rfl, HF.out⟩
end Go.Proofs.YtejfmghjmhiodaaGreatDoor.Vz
