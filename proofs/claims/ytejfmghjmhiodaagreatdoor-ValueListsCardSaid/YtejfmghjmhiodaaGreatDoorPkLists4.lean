/- Lemmas of the proof, part 4 of 4. -/
import Derived.Deep.RegionHeld3
import Derived.Deep.CutBlock
import Derived.Deep.DeepCutAuto
import Derived.StillTailTactics
import Derived.Deep.Upon
import Derived.OpenShut
import Derived.Test.YtejfmghjmhiodaaGreatDoorRows
import Derived.Laws.Cover2
import Derived.WalkKit
import Derived.ProofKit
import Derived.ShutString
import Derived.ChangeOld
import Derived.Below
import Derived.SizedLaws
import Derived.Test.YtejfmghjmhiodaaGreatDoorPkLists2
import Derived.Test.YtejfmghjmhiodaaGreatDoorPkLists3
namespace Go.Proofs.YtejfmghjmhiodaaGreatDoor.Vz
open Go.RowKit Go.Proofs.YtejfmghjmhiodaaGreatDoorW.PrintWords
set_option linter.unusedVariables false
set_option linter.unusedSimpArgs false
attribute [local go_sem] store_float

theorem lights20b (l : List Val) (W : World) (ok : Nat → Prop) (A : Option Addr) (n c : Nat) (hn : l.length = n) (hR : RV W ok (.mk 4 0 0 ⟨#[]⟩ l) #[.int .i64 4, .int .i64 0, .float .f64 0, .string ⟨#[]⟩, .slice A n c]) :
    Calls Tryz.prog 20 #[.slice A n c] W fun e w' => (∃ b, e = .returned (.bool b)) ∧ Below W.heap.size W w' := by
  subst hn
  refine (lights20 _ _ _ _ l W ok _ _ _ _ A c hR).mono ?_
  rintro e w ⟨(⟨rfl, _⟩ | rfl), hb⟩
  · exact ⟨⟨_, rfl⟩, hb⟩
  · exact ⟨⟨_, rfl⟩, hb⟩

section
variable {P : Program} {ops : Array Oper} {o : Oper} {a : Act} {Q : Exit → Act → World → Prop} {K : Act → World → Prop}
theorem stepH_alloc {W : World} (hw : Region.wanted o (yielded ops a.tmps) = true) {cs : Array Value} {t : TypeId}
    (hrun : (execOp a.eval o).run P W = .ok (.value (.pointer (some ⟨W.heap.size, 0, none⟩))) (W.alloc (.cells cs t (0, 0))))
    (h : ∀ g, g = W.heap.size → ∀ w1, w1.heap[g]? = some (.cells cs t (0, 0)) → Below W.heap.size W w1 → K (a.put o.dst (.pointer (some ⟨g, 0, none⟩))) w1) :
    if Region.wanted o (yielded ops a.tmps) = true then Oper.wp P o a W K Q else K (a.put o.dst undef) W := by
  rw [if_pos hw]
  unfold Oper.wp
  rw [hrun]
  exact h _ rfl _ (blk_new W _) (below_alloc (Below.refl _ _) _)
theorem stepH_store {W : World} (hw : Region.wanted o (yielded ops a.tmps) = true) {t : TypeId} {p : Tmp} {v : Operand} (ho : o.op = .store t (.tmp p) v) (hN : o.dst = none) {g : Nat} {u : Value} {cur cs : Array Value} {e : TypeId}
    (hp : a.eval (.tmp p) = .pointer (some ⟨g, 0, none⟩)) (hv : a.eval v = u) (hb : W.heap[g]? = some (.cells cur e (0, 0))) (hs : cur.size = cs.size) (hi : (P.info? t).map (·.size) = some cs.size) (h1 : ∀ q ∈ cs.toList, q.oneCell' = true) (hc : u.cells = cs)
    (h : ∀ w1, w1.heap[g]? = some (.cells cs e (0, 0)) → Save (fun k => k = g) W w1 → K a w1) :
    if Region.wanted o (yielded ops a.tmps) = true then Oper.wp P o a W K Q else K (a.put o.dst undef) W := by
  have hr := run_store_run (P := P) (o := 0) t u cs.toList hb (by rw [hc]) (by rw [hi]; simp) (by simp [hs]) h1
  have hx : (execOp a.eval o).run P W = .ok .skip (W.setCells g 0 cs.toList) := by
    simp [execOp, ho, hp, hv, hr]
  rw [if_pos hw]
  unfold Oper.wp
  rw [hx]
  show K (a.put o.dst undef) _
  rw [hN]
  obtain ⟨k1, k2⟩ := cells_put hb hs
  exact h _ k1 k2
end

/-- What lies behind the two lists' making. -/
def Two8 (W : World) (g5 gl ol n c kk : Nat) (xv : Array Value) (pa pb : Value) (wx : World) : Prop := ∃ ga gb, pa = .pointer (some ⟨ga, 0, none⟩) ∧ pb = .pointer (some ⟨gb, 0, none⟩) ∧ W.heap.size ≤ ga ∧ W.heap.size ≤ gb ∧ ga ≠ gb ∧ wx.heap[ga]? = some (.cells #[.int .i64 4, .int .i64 0, .float .f64 0, .string ⟨#[]⟩, .slice (some ⟨gl, ol, none⟩) n c] 25 (0, 0)) ∧ wx.heap[gb]? = some (.cells #[.int .i64 4, .int .i64 0, .float .f64 0, .string ⟨#[]⟩, .slice (some ⟨gl, ol, none⟩) kk c] 25 (0, 0)) ∧ wx.heap[g5]? = some (.cells xv 25 (0, 0)) ∧ Below W.heap.size W wx

set_option maxHeartbeats 8000000 in
set_option maxRecDepth 100000 in
theorem lists6_s (hS : CompareC) (W : World) (T : Tabs3 W) (l : List Val) (A : Option Addr) (n c : Nat) (hn : l.length = n) (u : Int) (hu : 0 ≤ u) (hu2 : u < 256) (v : Val) (xv : Array Value) (hl : RV W (fun _ => True) (.mk 4 0 0 ⟨#[]⟩ l) #[.int .i64 4, .int .i64 0, .float .f64 0, .string ⟨#[]⟩, .slice A n c]) (hv : RV W (fun _ => True) v xv) (hn0 : 0 < n) :
    Calls Tryz.prog 6 #[.slice A n c, .int .u8 u, .agg xv] W fun e w' => e = .returned (.bool true) ∧ Below W.heap.size W w' := by
  obtain ⟨kk, hkk, hkn⟩ : ∃ kk : Nat, u % (n : Int) = (kk : Int) ∧ kk < n := by
    have h0 := Int.emod_nonneg u (show (n : Int) ≠ 0 by omega)
    have h1 := Int.emod_lt_of_pos u (show (0 : Int) < (n : Int) by omega)
    exact ⟨(u % (n : Int)).toNat, by omega, by omega⟩
  obtain ⟨A0, c0, e0, _, _, _, _, wc, wb⟩ := hl.len
  have e1 : A = A0 ∧ n = l.length ∧ c = c0 := by simpa using e0
  have HWB := Aside0.mk (show (n : Int) * 64 ≤ 140737488351232 ∧ (n : Int) ≤ c by omega)
  have HNL := Aside0.mk hn
  have HL := Aside0.mk hl
  have HV := Aside0.mk hv
  have HT := Aside0.mk T
  have HS := Aside0.mk hS
  obtain ⟨kv, iv, fv, sv, Av, nv, cv, rfl⟩ := hv.form
  obtain ⟨gl, ol, css, rfl, hcl, hrl, hone, hcell, hsubs⟩ := hl.row (by omega)
  have HCR := Aside0.mk (And.intro hcl (And.intro hrl (And.intro hone (And.intro hcell hsubs))))
  clear hcl hrl hone hcell hsubs
  have hn1 : 1 ≤ (n : Int) := by omega
  have hnn : (0 : Int) < (n : Int) := by omega
  have hb64 : (n : Int) ≤ 9223372036854775807 := by omega
  have HKN := Aside0.mk hkn
  clear hn hl hv T hS wc wb hn0 hkn e0 e1
  go_enter Tryz.func6, Tryz.ntmps6
  go_upto_region 5 with (first
    | ((with_reducible refine gate_dst (N := 5) rfl ?_); refine box_event ?hg (N := 5) ?hd (cs := #[.int .i64 kv, .int .i64 iv, .float .f64 fv, .string sv, .slice Av nv cv]) (t := 25) ?hr ?_; (case hd => rfl); (case hg => rfl); (case hr => first | (go_simp; done) | (go_simp; rfl)); intro g5 hg w1 hbox hb; have HB := Aside0.mk hb; have K5 := Aside0.mk hbox; have H5 := Aside0.mk (show W.heap.size ≤ g5 by omega); clear hg hbox hb)
    | (go_at_call 9; refine (known9 HS.out _ (HT.out.below HB.out)).mono ?_; rintro e w2 ⟨rfl, hb⟩; have HB := Aside0.mk (below_step HB.out hb); have K5 := Aside0.mk (blk_below K5.out hb); clear hb)
    | (go_at_call 20; (with_reducible refine (lights20b l _ _ _ _ _ HNL.out (HL.out.kept HB.out)).mono ?_); rintro e w3 ⟨⟨b20, rfl⟩, hb⟩; have HB := Aside0.mk (below_step HB.out hb); have K5 := Aside0.mk (blk_below K5.out hb); clear hb; have p0 : w3.cell? ⟨g5, 0, none⟩ = some (.int .i64 kv) := blk_cell K5.out 0; have p1 : w3.cell? ⟨g5, 1, none⟩ = some (.int .i64 iv) := blk_cell K5.out 1; have p2 : w3.cell? ⟨g5, 2, none⟩ = some (.float .f64 fv) := blk_cell K5.out 2; have p3 : w3.cell? ⟨g5, 3, none⟩ = some (.string sv) := blk_cell K5.out 3; have p4 : w3.cell? ⟨g5, 4, none⟩ = some (.slice Av nv cv) := blk_cell K5.out 4; cases b20)
    | (go_at_call 10; (with_reducible refine (light15 v _ _ _ (HV.out.kept HB.out)).mono ?_); rintro e w4 ⟨⟨b10, rfl⟩, hb⟩; have HB := Aside0.mk (below_step HB.out hb); have K5 := Aside0.mk (blk_below K5.out hb); clear hb p0 p1 p2 p3 p4; cases b10))
  all_goals (try (go_ret; exact ⟨rfl, HB.out⟩))
  go_upto_region 8 with (fail)
  rw [hkk]
  go_cut [8, 9] (fun pa pb wx => Two8 W g5 gl ol n c kk #[.int .i64 kv, .int .i64 iv, .float .f64 fv, .string sv, .slice Av nv cv] pa pb wx)
  case first =>
    have hkc : (kk : Int) ≤ (c : Int) := by (have := HWB.out; have := HKN.out; omega)
    have hk0 : (0 : Int) ≤ (kk : Int) := by omega
    refine wp_region_held_drew (S := fun _ => True) (by kernel_rfl) trivial (fun _ => ?_)
    have HB := Aside0.mk HB.out.drew
    have K5 := Aside0.mk (show w4.drew.heap[g5]? = _ from K5.out)
    generalize w4.drew = w4' at HB K5 ⊢
    refine wpAnyH_take (i := 0) (oi := { dst := some 31, op := Go.Op.move (Go.Operand.tmp 0), type := 23, pos := "more.go:22", after := #[], guard := none }) (v := ?_) rfl (by kernel_rfl) (by kernel_rfl) (by kernel_rfl) (fun _ _ _ h => h) (Or.inl ⟨by rfl, ?_⟩) trivial ?_
    rotate_left
    · first | (intro w hSw; (try dsimp only at hSw); go_simp; done) | (intro w hSw; (try dsimp only at hSw); go_simp; with_reducible rfl)
    try simp only [Act.put, List.setIfInBounds_toArray, List.set_cons_zero, List.set_cons_succ]
    refine wpAnyH_take (i := 2) (oi := { dst := some 33, op := Go.Op.move (Go.Operand.tmp 0), type := 23, pos := "more.go:22", after := #[], guard := none }) (v := ?_) rfl (by kernel_rfl) (by kernel_rfl) (by kernel_rfl) (fun _ _ _ h => h) (Or.inl ⟨by rfl, ?_⟩) trivial ?_
    rotate_left
    · first | (intro w hSw; (try dsimp only at hSw); go_simp; done) | (intro w hSw; (try dsimp only at hSw); go_simp; with_reducible rfl)
    try simp only [Act.put, List.setIfInBounds_toArray, List.set_cons_zero, List.set_cons_succ]
    refine wpAnyH_take (i := 3) (oi := { dst := some 34, op := Go.Op.move (Go.Operand.tmp 7), type := 3, pos := "more.go:22", after := #[], guard := none }) (v := ?_) rfl (by kernel_rfl) (by kernel_rfl) (by kernel_rfl) (fun _ _ _ h => h) (Or.inl ⟨by rfl, ?_⟩) trivial ?_
    rotate_left
    · first | (intro w hSw; (try dsimp only at hSw); go_simp; done) | (intro w hSw; (try dsimp only at hSw); go_simp; with_reducible rfl)
    try simp only [Act.put, List.setIfInBounds_toArray, List.set_cons_zero, List.set_cons_succ]
    refine wpAnyH_take (i := 4) (oi := { dst := some 35, op := Go.Op.slice 23 (Go.Operand.tmp 33) none (some (Go.Operand.tmp 34)) none, type := 23, pos := "more.go:22", after := #[{ on := 2, ground := Go.Ground.data }, { on := 3, ground := Go.Ground.data }], guard := none }) (v := ?_) rfl (by kernel_rfl) (by kernel_rfl) (by kernel_rfl) (fun _ _ _ h => h) (Or.inl ⟨by rfl, ?_⟩) trivial ?_
    rotate_left
    · first | (intro w hSw; (try dsimp only at hSw); go_simp; done) | (intro w hSw; (try dsimp only at hSw); go_simp; with_reducible rfl)
    try simp only [Act.put, List.setIfInBounds_toArray, List.set_cons_zero, List.set_cons_succ]
    refine wpAnyH_ready (rs := [1, 6, 7]) (by kernel_rfl) (by simp) ?_
    refine AllReadyH.cons (o := { dst := some 32, op := Go.Op.call { callee := Go.Callee.value (Go.Operand.func 16), args := #[Go.Operand.tmp 31], argTypes := #[23] }, type := 25, pos := "more.go:22", after := #[{ on := 0, ground := Go.Ground.data }], guard := none }) rfl (fun K hK => ?_) ?_
    · go_simp
      (with_reducible refine (list16 _ _ _ _).mono ?_)
      rintro e w105 ⟨rfl, hb⟩
      have HB := Aside0.mk (below_step HB.out hb)
      have K5 := Aside0.mk (blk_below K5.out hb)
      (try have KA := Aside0.mk (blk_below KA.out hb))
      (try have KB := Aside0.mk (blk_below KB.out hb))
      clear hb
      refine hK.out _ _ trivial (fun _ => ?_)
      clear hK K
      try simp only [Act.put, List.setIfInBounds_toArray, List.set_cons_zero, List.set_cons_succ]
      refine wpAnyH_ready (rs := [5, 6, 7]) (by kernel_rfl) (by simp) ?_
      refine AllReadyH.cons (o := { dst := some 36, op := Go.Op.call { callee := Go.Callee.value (Go.Operand.func 16), args := #[Go.Operand.tmp 35], argTypes := #[23] }, type := 25, pos := "more.go:22", after := #[{ on := 4, ground := Go.Ground.data }, { on := 1, ground := Go.Ground.chain }], guard := none }) rfl (fun K hK => ?_) ?_
      · go_simp
        (with_reducible refine (list16 _ _ _ _).mono ?_)
        rintro e w106 ⟨rfl, hb⟩
        have HB := Aside0.mk (below_step HB.out hb)
        have K5 := Aside0.mk (blk_below K5.out hb)
        (try have KA := Aside0.mk (blk_below KA.out hb))
        (try have KB := Aside0.mk (blk_below KB.out hb))
        clear hb
        refine hK.out _ _ trivial (fun _ => ?_)
        clear hK K
        try simp only [Act.put, List.setIfInBounds_toArray, List.set_cons_zero, List.set_cons_succ]
        refine wpAnyH_ready (rs := [6, 7]) (by kernel_rfl) (by simp) ?_
        refine AllReadyH.cons (o := { dst := some 8, op := Go.Op.alloc 25, type := 0, pos := "more.go:22", after := #[], guard := none }) rfl (fun K hK => ?_) ?_
        · refine stepH_alloc (by rfl) (cs := #[.int .i64 0, .int .i64 0, .float .f64 0, .string ⟨#[]⟩, .slice none 0 0]) (t := 25) (by first | (go_simp; done) | (go_simp; rfl)) ?_
          intro ga hg w107 hbox hb
          have GA := Aside0.mk (show W.heap.size ≤ ga ∧ g5 ≠ ga by (have := HB.out.size; have h5_ := blk_lt K5.out; omega))
          (try have NE := Aside0.mk (show ga ≠ gb by (have := blk_lt KB.out; omega)))
          (try have KB := Aside0.mk (blk_below KB.out hb))
          have HB := Aside0.mk (below_step HB.out hb)
          have K5 := Aside0.mk (blk_below K5.out hb)
          have KA := Aside0.mk hbox
          clear hg hbox hb
          refine hK.out _ _ trivial (fun _ => ?_)
          clear hK K
          try simp only [Act.put, List.setIfInBounds_toArray, List.set_cons_zero, List.set_cons_succ]
          refine wpAnyH_ready (rs := [7]) (by kernel_rfl) (by simp) ?_
          refine AllReadyH.cons (o := { dst := some 9, op := Go.Op.alloc 25, type := 0, pos := "more.go:22", after := #[], guard := none }) rfl (fun K hK => ?_) AllReadyH.nil
          refine stepH_alloc (by rfl) (cs := #[.int .i64 0, .int .i64 0, .float .f64 0, .string ⟨#[]⟩, .slice none 0 0]) (t := 25) (by first | (go_simp; done) | (go_simp; rfl)) ?_
          intro gb hg w108 hbox hb
          have GB := Aside0.mk (show W.heap.size ≤ gb ∧ g5 ≠ gb by (have := HB.out.size; have h5_ := blk_lt K5.out; omega))
          (try have NE := Aside0.mk (show gb ≠ ga by (have := blk_lt KA.out; omega)))
          (try have KA := Aside0.mk (blk_below KA.out hb))
          have HB := Aside0.mk (below_step HB.out hb)
          have K5 := Aside0.mk (blk_below K5.out hb)
          have KB := Aside0.mk hbox
          clear hg hbox hb
          refine hK.out _ _ trivial (fun _ => ?_)
          clear hK K
          try simp only [Act.put, List.setIfInBounds_toArray, List.set_cons_zero, List.set_cons_succ]
          refine wpAnyH_ready (rs := [8]) (by kernel_rfl) (by simp) ?_
          refine AllReadyH.cons (o := { dst := none, op := Go.Op.store 25 (Go.Operand.tmp 8) (Go.Operand.tmp 32), type := 0, pos := "more.go:22", after := #[{ on := 6, ground := Go.Ground.data }, { on := 1, ground := Go.Ground.data }, { on := 5, ground := Go.Ground.chain }, { on := 0, ground := Go.Ground.phase }, { on := 1, ground := Go.Ground.phase }, { on := 2, ground := Go.Ground.textOnly Go.Departure.lateStores }, { on := 3, ground := Go.Ground.textOnly Go.Departure.lateStores }, { on := 4, ground := Go.Ground.textOnly Go.Departure.lateStoresUnsure }, { on := 5, ground := Go.Ground.textOnly Go.Departure.lateStoresUnsure }, { on := 6, ground := Go.Ground.phase }, { on := 7, ground := Go.Ground.phase }], guard := none }) rfl (fun K hK => ?_) AllReadyH.nil
          refine stepH_store (by rfl) (t := 25) (p := 8) (v := .tmp 32) rfl rfl (g := ga) (u := .agg #[.int .i64 4, .int .i64 0, .float .f64 0, .string ⟨#[]⟩, .slice (some ⟨gl, ol, none⟩) n c]) (cs := #[.int .i64 4, .int .i64 0, .float .f64 0, .string ⟨#[]⟩, .slice (some ⟨gl, ol, none⟩) n c]) rfl rfl KA.out rfl (by kernel_rfl) (by simp [Value.oneCell']) (by simp [Value.cells]) ?_
          intro w109 hk hs
          have HB := Aside0.mk (below_keep HB.out GA.out.1 hs)
          have K5 := Aside0.mk (hs.blk K5.out GA.out.2)
          have KA := Aside0.mk hk
          have KB := Aside0.mk (hs.blk KB.out (by (have := NE.out; omega)))
          clear hk hs
          refine hK.out _ _ trivial (fun _ => ?_)
          clear hK K
          try simp only [Act.put, List.setIfInBounds_toArray, List.set_cons_zero, List.set_cons_succ]
          refine wpAnyH_ready (rs := [9]) (by kernel_rfl) (by simp) ?_
          refine AllReadyH.cons (o := { dst := none, op := Go.Op.store 25 (Go.Operand.tmp 9) (Go.Operand.tmp 36), type := 0, pos := "more.go:22", after := #[{ on := 7, ground := Go.Ground.data }, { on := 5, ground := Go.Ground.data }, { on := 8, ground := Go.Ground.chain }, { on := 0, ground := Go.Ground.phase }, { on := 1, ground := Go.Ground.phase }, { on := 2, ground := Go.Ground.phase }, { on := 3, ground := Go.Ground.phase }, { on := 4, ground := Go.Ground.phase }, { on := 5, ground := Go.Ground.phase }, { on := 6, ground := Go.Ground.phase }, { on := 7, ground := Go.Ground.phase }, { on := 8, ground := Go.Ground.phase }], guard := none }) rfl (fun K hK => ?_) AllReadyH.nil
          refine stepH_store (by rfl) (t := 25) (p := 9) (v := .tmp 36) rfl rfl (g := gb) (u := .agg #[.int .i64 4, .int .i64 0, .float .f64 0, .string ⟨#[]⟩, .slice (some ⟨gl, ol, none⟩) kk c]) (cs := #[.int .i64 4, .int .i64 0, .float .f64 0, .string ⟨#[]⟩, .slice (some ⟨gl, ol, none⟩) kk c]) rfl rfl KB.out rfl (by kernel_rfl) (by simp [Value.oneCell']) (by simp [Value.cells]) ?_
          intro w110 hk hs
          have HB := Aside0.mk (below_keep HB.out GB.out.1 hs)
          have K5 := Aside0.mk (hs.blk K5.out GB.out.2)
          have KB := Aside0.mk hk
          have KA := Aside0.mk (hs.blk KA.out (by (have := NE.out; omega)))
          clear hk hs
          refine hK.out _ _ trivial (fun _ => ?_)
          clear hK K
          try simp only [Act.put, List.setIfInBounds_toArray, List.set_cons_zero, List.set_cons_succ]
          refine wpAnyH_done (by kernel_rfl) ?_ _
          go_wp2_with (fail)
          go_meet
          case rel => exact ⟨ga, gb, rfl, rfl, GA.out.1, GB.out.1, by (have := NE.out; omega), KA.out, KB.out, K5.out, HB.out⟩
        refine AllReadyH.cons (o := { dst := some 9, op := Go.Op.alloc 25, type := 0, pos := "more.go:22", after := #[], guard := none }) rfl (fun K hK => ?_) ?_
        · refine stepH_alloc (by rfl) (cs := #[.int .i64 0, .int .i64 0, .float .f64 0, .string ⟨#[]⟩, .slice none 0 0]) (t := 25) (by first | (go_simp; done) | (go_simp; rfl)) ?_
          intro gb hg w107 hbox hb
          have GB := Aside0.mk (show W.heap.size ≤ gb ∧ g5 ≠ gb by (have := HB.out.size; have h5_ := blk_lt K5.out; omega))
          (try have NE := Aside0.mk (show gb ≠ ga by (have := blk_lt KA.out; omega)))
          (try have KA := Aside0.mk (blk_below KA.out hb))
          have HB := Aside0.mk (below_step HB.out hb)
          have K5 := Aside0.mk (blk_below K5.out hb)
          have KB := Aside0.mk hbox
          clear hg hbox hb
          refine hK.out _ _ trivial (fun _ => ?_)
          clear hK K
          try simp only [Act.put, List.setIfInBounds_toArray, List.set_cons_zero, List.set_cons_succ]
          refine wpAnyH_ready (rs := [6]) (by kernel_rfl) (by simp) ?_
          refine AllReadyH.cons (o := { dst := some 8, op := Go.Op.alloc 25, type := 0, pos := "more.go:22", after := #[], guard := none }) rfl (fun K hK => ?_) AllReadyH.nil
          refine stepH_alloc (by rfl) (cs := #[.int .i64 0, .int .i64 0, .float .f64 0, .string ⟨#[]⟩, .slice none 0 0]) (t := 25) (by first | (go_simp; done) | (go_simp; rfl)) ?_
          intro ga hg w108 hbox hb
          have GA := Aside0.mk (show W.heap.size ≤ ga ∧ g5 ≠ ga by (have := HB.out.size; have h5_ := blk_lt K5.out; omega))
          (try have NE := Aside0.mk (show ga ≠ gb by (have := blk_lt KB.out; omega)))
          (try have KB := Aside0.mk (blk_below KB.out hb))
          have HB := Aside0.mk (below_step HB.out hb)
          have K5 := Aside0.mk (blk_below K5.out hb)
          have KA := Aside0.mk hbox
          clear hg hbox hb
          refine hK.out _ _ trivial (fun _ => ?_)
          clear hK K
          try simp only [Act.put, List.setIfInBounds_toArray, List.set_cons_zero, List.set_cons_succ]
          refine wpAnyH_ready (rs := [8]) (by kernel_rfl) (by simp) ?_
          refine AllReadyH.cons (o := { dst := none, op := Go.Op.store 25 (Go.Operand.tmp 8) (Go.Operand.tmp 32), type := 0, pos := "more.go:22", after := #[{ on := 6, ground := Go.Ground.data }, { on := 1, ground := Go.Ground.data }, { on := 5, ground := Go.Ground.chain }, { on := 0, ground := Go.Ground.phase }, { on := 1, ground := Go.Ground.phase }, { on := 2, ground := Go.Ground.textOnly Go.Departure.lateStores }, { on := 3, ground := Go.Ground.textOnly Go.Departure.lateStores }, { on := 4, ground := Go.Ground.textOnly Go.Departure.lateStoresUnsure }, { on := 5, ground := Go.Ground.textOnly Go.Departure.lateStoresUnsure }, { on := 6, ground := Go.Ground.phase }, { on := 7, ground := Go.Ground.phase }], guard := none }) rfl (fun K hK => ?_) AllReadyH.nil
          refine stepH_store (by rfl) (t := 25) (p := 8) (v := .tmp 32) rfl rfl (g := ga) (u := .agg #[.int .i64 4, .int .i64 0, .float .f64 0, .string ⟨#[]⟩, .slice (some ⟨gl, ol, none⟩) n c]) (cs := #[.int .i64 4, .int .i64 0, .float .f64 0, .string ⟨#[]⟩, .slice (some ⟨gl, ol, none⟩) n c]) rfl rfl KA.out rfl (by kernel_rfl) (by simp [Value.oneCell']) (by simp [Value.cells]) ?_
          intro w109 hk hs
          have HB := Aside0.mk (below_keep HB.out GA.out.1 hs)
          have K5 := Aside0.mk (hs.blk K5.out GA.out.2)
          have KA := Aside0.mk hk
          have KB := Aside0.mk (hs.blk KB.out (by (have := NE.out; omega)))
          clear hk hs
          refine hK.out _ _ trivial (fun _ => ?_)
          clear hK K
          try simp only [Act.put, List.setIfInBounds_toArray, List.set_cons_zero, List.set_cons_succ]
          refine wpAnyH_ready (rs := [9]) (by kernel_rfl) (by simp) ?_
          refine AllReadyH.cons (o := { dst := none, op := Go.Op.store 25 (Go.Operand.tmp 9) (Go.Operand.tmp 36), type := 0, pos := "more.go:22", after := #[{ on := 7, ground := Go.Ground.data }, { on := 5, ground := Go.Ground.data }, { on := 8, ground := Go.Ground.chain }, { on := 0, ground := Go.Ground.phase }, { on := 1, ground := Go.Ground.phase }, { on := 2, ground := Go.Ground.phase }, { on := 3, ground := Go.Ground.phase }, { on := 4, ground := Go.Ground.phase }, { on := 5, ground := Go.Ground.phase }, { on := 6, ground := Go.Ground.phase }, { on := 7, ground := Go.Ground.phase }, { on := 8, ground := Go.Ground.phase }], guard := none }) rfl (fun K hK => ?_) AllReadyH.nil
          refine stepH_store (by rfl) (t := 25) (p := 9) (v := .tmp 36) rfl rfl (g := gb) (u := .agg #[.int .i64 4, .int .i64 0, .float .f64 0, .string ⟨#[]⟩, .slice (some ⟨gl, ol, none⟩) kk c]) (cs := #[.int .i64 4, .int .i64 0, .float .f64 0, .string ⟨#[]⟩, .slice (some ⟨gl, ol, none⟩) kk c]) rfl rfl KB.out rfl (by kernel_rfl) (by simp [Value.oneCell']) (by simp [Value.cells]) ?_
          intro w110 hk hs
          have HB := Aside0.mk (below_keep HB.out GB.out.1 hs)
          have K5 := Aside0.mk (hs.blk K5.out GB.out.2)
          have KB := Aside0.mk hk
          have KA := Aside0.mk (hs.blk KA.out (by (have := NE.out; omega)))
          clear hk hs
          refine hK.out _ _ trivial (fun _ => ?_)
          clear hK K
          try simp only [Act.put, List.setIfInBounds_toArray, List.set_cons_zero, List.set_cons_succ]
          refine wpAnyH_done (by kernel_rfl) ?_ _
          go_wp2_with (fail)
          go_meet
          case rel => exact ⟨ga, gb, rfl, rfl, GA.out.1, GB.out.1, by (have := NE.out; omega), KA.out, KB.out, K5.out, HB.out⟩
        exact AllReadyH.nil
      refine AllReadyH.cons (o := { dst := some 8, op := Go.Op.alloc 25, type := 0, pos := "more.go:22", after := #[], guard := none }) rfl (fun K hK => ?_) ?_
      · refine stepH_alloc (by rfl) (cs := #[.int .i64 0, .int .i64 0, .float .f64 0, .string ⟨#[]⟩, .slice none 0 0]) (t := 25) (by first | (go_simp; done) | (go_simp; rfl)) ?_
        intro ga hg w106 hbox hb
        have GA := Aside0.mk (show W.heap.size ≤ ga ∧ g5 ≠ ga by (have := HB.out.size; have h5_ := blk_lt K5.out; omega))
        (try have NE := Aside0.mk (show ga ≠ gb by (have := blk_lt KB.out; omega)))
        (try have KB := Aside0.mk (blk_below KB.out hb))
        have HB := Aside0.mk (below_step HB.out hb)
        have K5 := Aside0.mk (blk_below K5.out hb)
        have KA := Aside0.mk hbox
        clear hg hbox hb
        refine hK.out _ _ trivial (fun _ => ?_)
        clear hK K
        try simp only [Act.put, List.setIfInBounds_toArray, List.set_cons_zero, List.set_cons_succ]
        refine wpAnyH_ready (rs := [5, 7]) (by kernel_rfl) (by simp) ?_
        refine AllReadyH.cons (o := { dst := some 36, op := Go.Op.call { callee := Go.Callee.value (Go.Operand.func 16), args := #[Go.Operand.tmp 35], argTypes := #[23] }, type := 25, pos := "more.go:22", after := #[{ on := 4, ground := Go.Ground.data }, { on := 1, ground := Go.Ground.chain }], guard := none }) rfl (fun K hK => ?_) ?_
        · go_simp
          (with_reducible refine (list16 _ _ _ _).mono ?_)
          rintro e w107 ⟨rfl, hb⟩
          have HB := Aside0.mk (below_step HB.out hb)
          have K5 := Aside0.mk (blk_below K5.out hb)
          (try have KA := Aside0.mk (blk_below KA.out hb))
          (try have KB := Aside0.mk (blk_below KB.out hb))
          clear hb
          refine hK.out _ _ trivial (fun _ => ?_)
          clear hK K
          try simp only [Act.put, List.setIfInBounds_toArray, List.set_cons_zero, List.set_cons_succ]
          refine wpAnyH_ready (rs := [7]) (by kernel_rfl) (by simp) ?_
          refine AllReadyH.cons (o := { dst := some 9, op := Go.Op.alloc 25, type := 0, pos := "more.go:22", after := #[], guard := none }) rfl (fun K hK => ?_) AllReadyH.nil
          refine stepH_alloc (by rfl) (cs := #[.int .i64 0, .int .i64 0, .float .f64 0, .string ⟨#[]⟩, .slice none 0 0]) (t := 25) (by first | (go_simp; done) | (go_simp; rfl)) ?_
          intro gb hg w108 hbox hb
          have GB := Aside0.mk (show W.heap.size ≤ gb ∧ g5 ≠ gb by (have := HB.out.size; have h5_ := blk_lt K5.out; omega))
          (try have NE := Aside0.mk (show gb ≠ ga by (have := blk_lt KA.out; omega)))
          (try have KA := Aside0.mk (blk_below KA.out hb))
          have HB := Aside0.mk (below_step HB.out hb)
          have K5 := Aside0.mk (blk_below K5.out hb)
          have KB := Aside0.mk hbox
          clear hg hbox hb
          refine hK.out _ _ trivial (fun _ => ?_)
          clear hK K
          try simp only [Act.put, List.setIfInBounds_toArray, List.set_cons_zero, List.set_cons_succ]
          refine wpAnyH_ready (rs := [8]) (by kernel_rfl) (by simp) ?_
          refine AllReadyH.cons (o := { dst := none, op := Go.Op.store 25 (Go.Operand.tmp 8) (Go.Operand.tmp 32), type := 0, pos := "more.go:22", after := #[{ on := 6, ground := Go.Ground.data }, { on := 1, ground := Go.Ground.data }, { on := 5, ground := Go.Ground.chain }, { on := 0, ground := Go.Ground.phase }, { on := 1, ground := Go.Ground.phase }, { on := 2, ground := Go.Ground.textOnly Go.Departure.lateStores }, { on := 3, ground := Go.Ground.textOnly Go.Departure.lateStores }, { on := 4, ground := Go.Ground.textOnly Go.Departure.lateStoresUnsure }, { on := 5, ground := Go.Ground.textOnly Go.Departure.lateStoresUnsure }, { on := 6, ground := Go.Ground.phase }, { on := 7, ground := Go.Ground.phase }], guard := none }) rfl (fun K hK => ?_) AllReadyH.nil
          refine stepH_store (by rfl) (t := 25) (p := 8) (v := .tmp 32) rfl rfl (g := ga) (u := .agg #[.int .i64 4, .int .i64 0, .float .f64 0, .string ⟨#[]⟩, .slice (some ⟨gl, ol, none⟩) n c]) (cs := #[.int .i64 4, .int .i64 0, .float .f64 0, .string ⟨#[]⟩, .slice (some ⟨gl, ol, none⟩) n c]) rfl rfl KA.out rfl (by kernel_rfl) (by simp [Value.oneCell']) (by simp [Value.cells]) ?_
          intro w109 hk hs
          have HB := Aside0.mk (below_keep HB.out GA.out.1 hs)
          have K5 := Aside0.mk (hs.blk K5.out GA.out.2)
          have KA := Aside0.mk hk
          have KB := Aside0.mk (hs.blk KB.out (by (have := NE.out; omega)))
          clear hk hs
          refine hK.out _ _ trivial (fun _ => ?_)
          clear hK K
          try simp only [Act.put, List.setIfInBounds_toArray, List.set_cons_zero, List.set_cons_succ]
          refine wpAnyH_ready (rs := [9]) (by kernel_rfl) (by simp) ?_
          refine AllReadyH.cons (o := { dst := none, op := Go.Op.store 25 (Go.Operand.tmp 9) (Go.Operand.tmp 36), type := 0, pos := "more.go:22", after := #[{ on := 7, ground := Go.Ground.data }, { on := 5, ground := Go.Ground.data }, { on := 8, ground := Go.Ground.chain }, { on := 0, ground := Go.Ground.phase }, { on := 1, ground := Go.Ground.phase }, { on := 2, ground := Go.Ground.phase }, { on := 3, ground := Go.Ground.phase }, { on := 4, ground := Go.Ground.phase }, { on := 5, ground := Go.Ground.phase }, { on := 6, ground := Go.Ground.phase }, { on := 7, ground := Go.Ground.phase }, { on := 8, ground := Go.Ground.phase }], guard := none }) rfl (fun K hK => ?_) AllReadyH.nil
          refine stepH_store (by rfl) (t := 25) (p := 9) (v := .tmp 36) rfl rfl (g := gb) (u := .agg #[.int .i64 4, .int .i64 0, .float .f64 0, .string ⟨#[]⟩, .slice (some ⟨gl, ol, none⟩) kk c]) (cs := #[.int .i64 4, .int .i64 0, .float .f64 0, .string ⟨#[]⟩, .slice (some ⟨gl, ol, none⟩) kk c]) rfl rfl KB.out rfl (by kernel_rfl) (by simp [Value.oneCell']) (by simp [Value.cells]) ?_
          intro w110 hk hs
          have HB := Aside0.mk (below_keep HB.out GB.out.1 hs)
          have K5 := Aside0.mk (hs.blk K5.out GB.out.2)
          have KB := Aside0.mk hk
          have KA := Aside0.mk (hs.blk KA.out (by (have := NE.out; omega)))
          clear hk hs
          refine hK.out _ _ trivial (fun _ => ?_)
          clear hK K
          try simp only [Act.put, List.setIfInBounds_toArray, List.set_cons_zero, List.set_cons_succ]
          refine wpAnyH_done (by kernel_rfl) ?_ _
          go_wp2_with (fail)
          go_meet
          case rel => exact ⟨ga, gb, rfl, rfl, GA.out.1, GB.out.1, by (have := NE.out; omega), KA.out, KB.out, K5.out, HB.out⟩
        refine AllReadyH.cons (o := { dst := some 9, op := Go.Op.alloc 25, type := 0, pos := "more.go:22", after := #[], guard := none }) rfl (fun K hK => ?_) ?_
        · refine stepH_alloc (by rfl) (cs := #[.int .i64 0, .int .i64 0, .float .f64 0, .string ⟨#[]⟩, .slice none 0 0]) (t := 25) (by first | (go_simp; done) | (go_simp; rfl)) ?_
          intro gb hg w107 hbox hb
          have GB := Aside0.mk (show W.heap.size ≤ gb ∧ g5 ≠ gb by (have := HB.out.size; have h5_ := blk_lt K5.out; omega))
          (try have NE := Aside0.mk (show gb ≠ ga by (have := blk_lt KA.out; omega)))
          (try have KA := Aside0.mk (blk_below KA.out hb))
          have HB := Aside0.mk (below_step HB.out hb)
          have K5 := Aside0.mk (blk_below K5.out hb)
          have KB := Aside0.mk hbox
          clear hg hbox hb
          refine hK.out _ _ trivial (fun _ => ?_)
          clear hK K
          try simp only [Act.put, List.setIfInBounds_toArray, List.set_cons_zero, List.set_cons_succ]
          refine wpAnyH_ready (rs := [5]) (by kernel_rfl) (by simp) ?_
          refine AllReadyH.cons (o := { dst := some 36, op := Go.Op.call { callee := Go.Callee.value (Go.Operand.func 16), args := #[Go.Operand.tmp 35], argTypes := #[23] }, type := 25, pos := "more.go:22", after := #[{ on := 4, ground := Go.Ground.data }, { on := 1, ground := Go.Ground.chain }], guard := none }) rfl (fun K hK => ?_) AllReadyH.nil
          go_simp
          (with_reducible refine (list16 _ _ _ _).mono ?_)
          rintro e w108 ⟨rfl, hb⟩
          have HB := Aside0.mk (below_step HB.out hb)
          have K5 := Aside0.mk (blk_below K5.out hb)
          (try have KA := Aside0.mk (blk_below KA.out hb))
          (try have KB := Aside0.mk (blk_below KB.out hb))
          clear hb
          refine hK.out _ _ trivial (fun _ => ?_)
          clear hK K
          try simp only [Act.put, List.setIfInBounds_toArray, List.set_cons_zero, List.set_cons_succ]
          refine wpAnyH_ready (rs := [8]) (by kernel_rfl) (by simp) ?_
          refine AllReadyH.cons (o := { dst := none, op := Go.Op.store 25 (Go.Operand.tmp 8) (Go.Operand.tmp 32), type := 0, pos := "more.go:22", after := #[{ on := 6, ground := Go.Ground.data }, { on := 1, ground := Go.Ground.data }, { on := 5, ground := Go.Ground.chain }, { on := 0, ground := Go.Ground.phase }, { on := 1, ground := Go.Ground.phase }, { on := 2, ground := Go.Ground.textOnly Go.Departure.lateStores }, { on := 3, ground := Go.Ground.textOnly Go.Departure.lateStores }, { on := 4, ground := Go.Ground.textOnly Go.Departure.lateStoresUnsure }, { on := 5, ground := Go.Ground.textOnly Go.Departure.lateStoresUnsure }, { on := 6, ground := Go.Ground.phase }, { on := 7, ground := Go.Ground.phase }], guard := none }) rfl (fun K hK => ?_) AllReadyH.nil
          refine stepH_store (by rfl) (t := 25) (p := 8) (v := .tmp 32) rfl rfl (g := ga) (u := .agg #[.int .i64 4, .int .i64 0, .float .f64 0, .string ⟨#[]⟩, .slice (some ⟨gl, ol, none⟩) n c]) (cs := #[.int .i64 4, .int .i64 0, .float .f64 0, .string ⟨#[]⟩, .slice (some ⟨gl, ol, none⟩) n c]) rfl rfl KA.out rfl (by kernel_rfl) (by simp [Value.oneCell']) (by simp [Value.cells]) ?_
          intro w109 hk hs
          have HB := Aside0.mk (below_keep HB.out GA.out.1 hs)
          have K5 := Aside0.mk (hs.blk K5.out GA.out.2)
          have KA := Aside0.mk hk
          have KB := Aside0.mk (hs.blk KB.out (by (have := NE.out; omega)))
          clear hk hs
          refine hK.out _ _ trivial (fun _ => ?_)
          clear hK K
          try simp only [Act.put, List.setIfInBounds_toArray, List.set_cons_zero, List.set_cons_succ]
          refine wpAnyH_ready (rs := [9]) (by kernel_rfl) (by simp) ?_
          refine AllReadyH.cons (o := { dst := none, op := Go.Op.store 25 (Go.Operand.tmp 9) (Go.Operand.tmp 36), type := 0, pos := "more.go:22", after := #[{ on := 7, ground := Go.Ground.data }, { on := 5, ground := Go.Ground.data }, { on := 8, ground := Go.Ground.chain }, { on := 0, ground := Go.Ground.phase }, { on := 1, ground := Go.Ground.phase }, { on := 2, ground := Go.Ground.phase }, { on := 3, ground := Go.Ground.phase }, { on := 4, ground := Go.Ground.phase }, { on := 5, ground := Go.Ground.phase }, { on := 6, ground := Go.Ground.phase }, { on := 7, ground := Go.Ground.phase }, { on := 8, ground := Go.Ground.phase }], guard := none }) rfl (fun K hK => ?_) AllReadyH.nil
          refine stepH_store (by rfl) (t := 25) (p := 9) (v := .tmp 36) rfl rfl (g := gb) (u := .agg #[.int .i64 4, .int .i64 0, .float .f64 0, .string ⟨#[]⟩, .slice (some ⟨gl, ol, none⟩) kk c]) (cs := #[.int .i64 4, .int .i64 0, .float .f64 0, .string ⟨#[]⟩, .slice (some ⟨gl, ol, none⟩) kk c]) rfl rfl KB.out rfl (by kernel_rfl) (by simp [Value.oneCell']) (by simp [Value.cells]) ?_
          intro w110 hk hs
          have HB := Aside0.mk (below_keep HB.out GB.out.1 hs)
          have K5 := Aside0.mk (hs.blk K5.out GB.out.2)
          have KB := Aside0.mk hk
          have KA := Aside0.mk (hs.blk KA.out (by (have := NE.out; omega)))
          clear hk hs
          refine hK.out _ _ trivial (fun _ => ?_)
          clear hK K
          try simp only [Act.put, List.setIfInBounds_toArray, List.set_cons_zero, List.set_cons_succ]
          refine wpAnyH_done (by kernel_rfl) ?_ _
          go_wp2_with (fail)
          go_meet
          case rel => exact ⟨ga, gb, rfl, rfl, GA.out.1, GB.out.1, by (have := NE.out; omega), KA.out, KB.out, K5.out, HB.out⟩
        exact AllReadyH.nil
      refine AllReadyH.cons (o := { dst := some 9, op := Go.Op.alloc 25, type := 0, pos := "more.go:22", after := #[], guard := none }) rfl (fun K hK => ?_) ?_
      · refine stepH_alloc (by rfl) (cs := #[.int .i64 0, .int .i64 0, .float .f64 0, .string ⟨#[]⟩, .slice none 0 0]) (t := 25) (by first | (go_simp; done) | (go_simp; rfl)) ?_
        intro gb hg w106 hbox hb
        have GB := Aside0.mk (show W.heap.size ≤ gb ∧ g5 ≠ gb by (have := HB.out.size; have h5_ := blk_lt K5.out; omega))
        (try have NE := Aside0.mk (show gb ≠ ga by (have := blk_lt KA.out; omega)))
        (try have KA := Aside0.mk (blk_below KA.out hb))
        have HB := Aside0.mk (below_step HB.out hb)
        have K5 := Aside0.mk (blk_below K5.out hb)
        have KB := Aside0.mk hbox
        clear hg hbox hb
        refine hK.out _ _ trivial (fun _ => ?_)
        clear hK K
        try simp only [Act.put, List.setIfInBounds_toArray, List.set_cons_zero, List.set_cons_succ]
        refine wpAnyH_ready (rs := [5, 6]) (by kernel_rfl) (by simp) ?_
        refine AllReadyH.cons (o := { dst := some 36, op := Go.Op.call { callee := Go.Callee.value (Go.Operand.func 16), args := #[Go.Operand.tmp 35], argTypes := #[23] }, type := 25, pos := "more.go:22", after := #[{ on := 4, ground := Go.Ground.data }, { on := 1, ground := Go.Ground.chain }], guard := none }) rfl (fun K hK => ?_) ?_
        · go_simp
          (with_reducible refine (list16 _ _ _ _).mono ?_)
          rintro e w107 ⟨rfl, hb⟩
          have HB := Aside0.mk (below_step HB.out hb)
          have K5 := Aside0.mk (blk_below K5.out hb)
          (try have KA := Aside0.mk (blk_below KA.out hb))
          (try have KB := Aside0.mk (blk_below KB.out hb))
          clear hb
          refine hK.out _ _ trivial (fun _ => ?_)
          clear hK K
          try simp only [Act.put, List.setIfInBounds_toArray, List.set_cons_zero, List.set_cons_succ]
          refine wpAnyH_ready (rs := [6]) (by kernel_rfl) (by simp) ?_
          refine AllReadyH.cons (o := { dst := some 8, op := Go.Op.alloc 25, type := 0, pos := "more.go:22", after := #[], guard := none }) rfl (fun K hK => ?_) AllReadyH.nil
          refine stepH_alloc (by rfl) (cs := #[.int .i64 0, .int .i64 0, .float .f64 0, .string ⟨#[]⟩, .slice none 0 0]) (t := 25) (by first | (go_simp; done) | (go_simp; rfl)) ?_
          intro ga hg w108 hbox hb
          have GA := Aside0.mk (show W.heap.size ≤ ga ∧ g5 ≠ ga by (have := HB.out.size; have h5_ := blk_lt K5.out; omega))
          (try have NE := Aside0.mk (show ga ≠ gb by (have := blk_lt KB.out; omega)))
          (try have KB := Aside0.mk (blk_below KB.out hb))
          have HB := Aside0.mk (below_step HB.out hb)
          have K5 := Aside0.mk (blk_below K5.out hb)
          have KA := Aside0.mk hbox
          clear hg hbox hb
          refine hK.out _ _ trivial (fun _ => ?_)
          clear hK K
          try simp only [Act.put, List.setIfInBounds_toArray, List.set_cons_zero, List.set_cons_succ]
          refine wpAnyH_ready (rs := [8]) (by kernel_rfl) (by simp) ?_
          refine AllReadyH.cons (o := { dst := none, op := Go.Op.store 25 (Go.Operand.tmp 8) (Go.Operand.tmp 32), type := 0, pos := "more.go:22", after := #[{ on := 6, ground := Go.Ground.data }, { on := 1, ground := Go.Ground.data }, { on := 5, ground := Go.Ground.chain }, { on := 0, ground := Go.Ground.phase }, { on := 1, ground := Go.Ground.phase }, { on := 2, ground := Go.Ground.textOnly Go.Departure.lateStores }, { on := 3, ground := Go.Ground.textOnly Go.Departure.lateStores }, { on := 4, ground := Go.Ground.textOnly Go.Departure.lateStoresUnsure }, { on := 5, ground := Go.Ground.textOnly Go.Departure.lateStoresUnsure }, { on := 6, ground := Go.Ground.phase }, { on := 7, ground := Go.Ground.phase }], guard := none }) rfl (fun K hK => ?_) AllReadyH.nil
          refine stepH_store (by rfl) (t := 25) (p := 8) (v := .tmp 32) rfl rfl (g := ga) (u := .agg #[.int .i64 4, .int .i64 0, .float .f64 0, .string ⟨#[]⟩, .slice (some ⟨gl, ol, none⟩) n c]) (cs := #[.int .i64 4, .int .i64 0, .float .f64 0, .string ⟨#[]⟩, .slice (some ⟨gl, ol, none⟩) n c]) rfl rfl KA.out rfl (by kernel_rfl) (by simp [Value.oneCell']) (by simp [Value.cells]) ?_
          intro w109 hk hs
          have HB := Aside0.mk (below_keep HB.out GA.out.1 hs)
          have K5 := Aside0.mk (hs.blk K5.out GA.out.2)
          have KA := Aside0.mk hk
          have KB := Aside0.mk (hs.blk KB.out (by (have := NE.out; omega)))
          clear hk hs
          refine hK.out _ _ trivial (fun _ => ?_)
          clear hK K
          try simp only [Act.put, List.setIfInBounds_toArray, List.set_cons_zero, List.set_cons_succ]
          refine wpAnyH_ready (rs := [9]) (by kernel_rfl) (by simp) ?_
          refine AllReadyH.cons (o := { dst := none, op := Go.Op.store 25 (Go.Operand.tmp 9) (Go.Operand.tmp 36), type := 0, pos := "more.go:22", after := #[{ on := 7, ground := Go.Ground.data }, { on := 5, ground := Go.Ground.data }, { on := 8, ground := Go.Ground.chain }, { on := 0, ground := Go.Ground.phase }, { on := 1, ground := Go.Ground.phase }, { on := 2, ground := Go.Ground.phase }, { on := 3, ground := Go.Ground.phase }, { on := 4, ground := Go.Ground.phase }, { on := 5, ground := Go.Ground.phase }, { on := 6, ground := Go.Ground.phase }, { on := 7, ground := Go.Ground.phase }, { on := 8, ground := Go.Ground.phase }], guard := none }) rfl (fun K hK => ?_) AllReadyH.nil
          refine stepH_store (by rfl) (t := 25) (p := 9) (v := .tmp 36) rfl rfl (g := gb) (u := .agg #[.int .i64 4, .int .i64 0, .float .f64 0, .string ⟨#[]⟩, .slice (some ⟨gl, ol, none⟩) kk c]) (cs := #[.int .i64 4, .int .i64 0, .float .f64 0, .string ⟨#[]⟩, .slice (some ⟨gl, ol, none⟩) kk c]) rfl rfl KB.out rfl (by kernel_rfl) (by simp [Value.oneCell']) (by simp [Value.cells]) ?_
          intro w110 hk hs
          have HB := Aside0.mk (below_keep HB.out GB.out.1 hs)
          have K5 := Aside0.mk (hs.blk K5.out GB.out.2)
          have KB := Aside0.mk hk
          have KA := Aside0.mk (hs.blk KA.out (by (have := NE.out; omega)))
          clear hk hs
          refine hK.out _ _ trivial (fun _ => ?_)
          clear hK K
          try simp only [Act.put, List.setIfInBounds_toArray, List.set_cons_zero, List.set_cons_succ]
          refine wpAnyH_done (by kernel_rfl) ?_ _
          go_wp2_with (fail)
          go_meet
          case rel => exact ⟨ga, gb, rfl, rfl, GA.out.1, GB.out.1, by (have := NE.out; omega), KA.out, KB.out, K5.out, HB.out⟩
        refine AllReadyH.cons (o := { dst := some 8, op := Go.Op.alloc 25, type := 0, pos := "more.go:22", after := #[], guard := none }) rfl (fun K hK => ?_) ?_
        · refine stepH_alloc (by rfl) (cs := #[.int .i64 0, .int .i64 0, .float .f64 0, .string ⟨#[]⟩, .slice none 0 0]) (t := 25) (by first | (go_simp; done) | (go_simp; rfl)) ?_
          intro ga hg w107 hbox hb
          have GA := Aside0.mk (show W.heap.size ≤ ga ∧ g5 ≠ ga by (have := HB.out.size; have h5_ := blk_lt K5.out; omega))
          (try have NE := Aside0.mk (show ga ≠ gb by (have := blk_lt KB.out; omega)))
          (try have KB := Aside0.mk (blk_below KB.out hb))
          have HB := Aside0.mk (below_step HB.out hb)
          have K5 := Aside0.mk (blk_below K5.out hb)
          have KA := Aside0.mk hbox
          clear hg hbox hb
          refine hK.out _ _ trivial (fun _ => ?_)
          clear hK K
          try simp only [Act.put, List.setIfInBounds_toArray, List.set_cons_zero, List.set_cons_succ]
          refine wpAnyH_ready (rs := [5]) (by kernel_rfl) (by simp) ?_
          refine AllReadyH.cons (o := { dst := some 36, op := Go.Op.call { callee := Go.Callee.value (Go.Operand.func 16), args := #[Go.Operand.tmp 35], argTypes := #[23] }, type := 25, pos := "more.go:22", after := #[{ on := 4, ground := Go.Ground.data }, { on := 1, ground := Go.Ground.chain }], guard := none }) rfl (fun K hK => ?_) AllReadyH.nil
          go_simp
          (with_reducible refine (list16 _ _ _ _).mono ?_)
          rintro e w108 ⟨rfl, hb⟩
          have HB := Aside0.mk (below_step HB.out hb)
          have K5 := Aside0.mk (blk_below K5.out hb)
          (try have KA := Aside0.mk (blk_below KA.out hb))
          (try have KB := Aside0.mk (blk_below KB.out hb))
          clear hb
          refine hK.out _ _ trivial (fun _ => ?_)
          clear hK K
          try simp only [Act.put, List.setIfInBounds_toArray, List.set_cons_zero, List.set_cons_succ]
          refine wpAnyH_ready (rs := [8]) (by kernel_rfl) (by simp) ?_
          refine AllReadyH.cons (o := { dst := none, op := Go.Op.store 25 (Go.Operand.tmp 8) (Go.Operand.tmp 32), type := 0, pos := "more.go:22", after := #[{ on := 6, ground := Go.Ground.data }, { on := 1, ground := Go.Ground.data }, { on := 5, ground := Go.Ground.chain }, { on := 0, ground := Go.Ground.phase }, { on := 1, ground := Go.Ground.phase }, { on := 2, ground := Go.Ground.textOnly Go.Departure.lateStores }, { on := 3, ground := Go.Ground.textOnly Go.Departure.lateStores }, { on := 4, ground := Go.Ground.textOnly Go.Departure.lateStoresUnsure }, { on := 5, ground := Go.Ground.textOnly Go.Departure.lateStoresUnsure }, { on := 6, ground := Go.Ground.phase }, { on := 7, ground := Go.Ground.phase }], guard := none }) rfl (fun K hK => ?_) AllReadyH.nil
          refine stepH_store (by rfl) (t := 25) (p := 8) (v := .tmp 32) rfl rfl (g := ga) (u := .agg #[.int .i64 4, .int .i64 0, .float .f64 0, .string ⟨#[]⟩, .slice (some ⟨gl, ol, none⟩) n c]) (cs := #[.int .i64 4, .int .i64 0, .float .f64 0, .string ⟨#[]⟩, .slice (some ⟨gl, ol, none⟩) n c]) rfl rfl KA.out rfl (by kernel_rfl) (by simp [Value.oneCell']) (by simp [Value.cells]) ?_
          intro w109 hk hs
          have HB := Aside0.mk (below_keep HB.out GA.out.1 hs)
          have K5 := Aside0.mk (hs.blk K5.out GA.out.2)
          have KA := Aside0.mk hk
          have KB := Aside0.mk (hs.blk KB.out (by (have := NE.out; omega)))
          clear hk hs
          refine hK.out _ _ trivial (fun _ => ?_)
          clear hK K
          try simp only [Act.put, List.setIfInBounds_toArray, List.set_cons_zero, List.set_cons_succ]
          refine wpAnyH_ready (rs := [9]) (by kernel_rfl) (by simp) ?_
          refine AllReadyH.cons (o := { dst := none, op := Go.Op.store 25 (Go.Operand.tmp 9) (Go.Operand.tmp 36), type := 0, pos := "more.go:22", after := #[{ on := 7, ground := Go.Ground.data }, { on := 5, ground := Go.Ground.data }, { on := 8, ground := Go.Ground.chain }, { on := 0, ground := Go.Ground.phase }, { on := 1, ground := Go.Ground.phase }, { on := 2, ground := Go.Ground.phase }, { on := 3, ground := Go.Ground.phase }, { on := 4, ground := Go.Ground.phase }, { on := 5, ground := Go.Ground.phase }, { on := 6, ground := Go.Ground.phase }, { on := 7, ground := Go.Ground.phase }, { on := 8, ground := Go.Ground.phase }], guard := none }) rfl (fun K hK => ?_) AllReadyH.nil
          refine stepH_store (by rfl) (t := 25) (p := 9) (v := .tmp 36) rfl rfl (g := gb) (u := .agg #[.int .i64 4, .int .i64 0, .float .f64 0, .string ⟨#[]⟩, .slice (some ⟨gl, ol, none⟩) kk c]) (cs := #[.int .i64 4, .int .i64 0, .float .f64 0, .string ⟨#[]⟩, .slice (some ⟨gl, ol, none⟩) kk c]) rfl rfl KB.out rfl (by kernel_rfl) (by simp [Value.oneCell']) (by simp [Value.cells]) ?_
          intro w110 hk hs
          have HB := Aside0.mk (below_keep HB.out GB.out.1 hs)
          have K5 := Aside0.mk (hs.blk K5.out GB.out.2)
          have KB := Aside0.mk hk
          have KA := Aside0.mk (hs.blk KA.out (by (have := NE.out; omega)))
          clear hk hs
          refine hK.out _ _ trivial (fun _ => ?_)
          clear hK K
          try simp only [Act.put, List.setIfInBounds_toArray, List.set_cons_zero, List.set_cons_succ]
          refine wpAnyH_done (by kernel_rfl) ?_ _
          go_wp2_with (fail)
          go_meet
          case rel => exact ⟨ga, gb, rfl, rfl, GA.out.1, GB.out.1, by (have := NE.out; omega), KA.out, KB.out, K5.out, HB.out⟩
        exact AllReadyH.nil
      exact AllReadyH.nil
    refine AllReadyH.cons (o := { dst := some 8, op := Go.Op.alloc 25, type := 0, pos := "more.go:22", after := #[], guard := none }) rfl (fun K hK => ?_) ?_
    · refine stepH_alloc (by rfl) (cs := #[.int .i64 0, .int .i64 0, .float .f64 0, .string ⟨#[]⟩, .slice none 0 0]) (t := 25) (by first | (go_simp; done) | (go_simp; rfl)) ?_
      intro ga hg w105 hbox hb
      have GA := Aside0.mk (show W.heap.size ≤ ga ∧ g5 ≠ ga by (have := HB.out.size; have h5_ := blk_lt K5.out; omega))
      (try have NE := Aside0.mk (show ga ≠ gb by (have := blk_lt KB.out; omega)))
      (try have KB := Aside0.mk (blk_below KB.out hb))
      have HB := Aside0.mk (below_step HB.out hb)
      have K5 := Aside0.mk (blk_below K5.out hb)
      have KA := Aside0.mk hbox
      clear hg hbox hb
      refine hK.out _ _ trivial (fun _ => ?_)
      clear hK K
      try simp only [Act.put, List.setIfInBounds_toArray, List.set_cons_zero, List.set_cons_succ]
      refine wpAnyH_ready (rs := [1, 7]) (by kernel_rfl) (by simp) ?_
      refine AllReadyH.cons (o := { dst := some 32, op := Go.Op.call { callee := Go.Callee.value (Go.Operand.func 16), args := #[Go.Operand.tmp 31], argTypes := #[23] }, type := 25, pos := "more.go:22", after := #[{ on := 0, ground := Go.Ground.data }], guard := none }) rfl (fun K hK => ?_) ?_
      · go_simp
        (with_reducible refine (list16 _ _ _ _).mono ?_)
        rintro e w106 ⟨rfl, hb⟩
        have HB := Aside0.mk (below_step HB.out hb)
        have K5 := Aside0.mk (blk_below K5.out hb)
        (try have KA := Aside0.mk (blk_below KA.out hb))
        (try have KB := Aside0.mk (blk_below KB.out hb))
        clear hb
        refine hK.out _ _ trivial (fun _ => ?_)
        clear hK K
        try simp only [Act.put, List.setIfInBounds_toArray, List.set_cons_zero, List.set_cons_succ]
        refine wpAnyH_ready (rs := [5, 7]) (by kernel_rfl) (by simp) ?_
        refine AllReadyH.cons (o := { dst := some 36, op := Go.Op.call { callee := Go.Callee.value (Go.Operand.func 16), args := #[Go.Operand.tmp 35], argTypes := #[23] }, type := 25, pos := "more.go:22", after := #[{ on := 4, ground := Go.Ground.data }, { on := 1, ground := Go.Ground.chain }], guard := none }) rfl (fun K hK => ?_) ?_
        · go_simp
          (with_reducible refine (list16 _ _ _ _).mono ?_)
          rintro e w107 ⟨rfl, hb⟩
          have HB := Aside0.mk (below_step HB.out hb)
          have K5 := Aside0.mk (blk_below K5.out hb)
          (try have KA := Aside0.mk (blk_below KA.out hb))
          (try have KB := Aside0.mk (blk_below KB.out hb))
          clear hb
          refine hK.out _ _ trivial (fun _ => ?_)
          clear hK K
          try simp only [Act.put, List.setIfInBounds_toArray, List.set_cons_zero, List.set_cons_succ]
          refine wpAnyH_ready (rs := [7]) (by kernel_rfl) (by simp) ?_
          refine AllReadyH.cons (o := { dst := some 9, op := Go.Op.alloc 25, type := 0, pos := "more.go:22", after := #[], guard := none }) rfl (fun K hK => ?_) AllReadyH.nil
          refine stepH_alloc (by rfl) (cs := #[.int .i64 0, .int .i64 0, .float .f64 0, .string ⟨#[]⟩, .slice none 0 0]) (t := 25) (by first | (go_simp; done) | (go_simp; rfl)) ?_
          intro gb hg w108 hbox hb
          have GB := Aside0.mk (show W.heap.size ≤ gb ∧ g5 ≠ gb by (have := HB.out.size; have h5_ := blk_lt K5.out; omega))
          (try have NE := Aside0.mk (show gb ≠ ga by (have := blk_lt KA.out; omega)))
          (try have KA := Aside0.mk (blk_below KA.out hb))
          have HB := Aside0.mk (below_step HB.out hb)
          have K5 := Aside0.mk (blk_below K5.out hb)
          have KB := Aside0.mk hbox
          clear hg hbox hb
          refine hK.out _ _ trivial (fun _ => ?_)
          clear hK K
          try simp only [Act.put, List.setIfInBounds_toArray, List.set_cons_zero, List.set_cons_succ]
          refine wpAnyH_ready (rs := [8]) (by kernel_rfl) (by simp) ?_
          refine AllReadyH.cons (o := { dst := none, op := Go.Op.store 25 (Go.Operand.tmp 8) (Go.Operand.tmp 32), type := 0, pos := "more.go:22", after := #[{ on := 6, ground := Go.Ground.data }, { on := 1, ground := Go.Ground.data }, { on := 5, ground := Go.Ground.chain }, { on := 0, ground := Go.Ground.phase }, { on := 1, ground := Go.Ground.phase }, { on := 2, ground := Go.Ground.textOnly Go.Departure.lateStores }, { on := 3, ground := Go.Ground.textOnly Go.Departure.lateStores }, { on := 4, ground := Go.Ground.textOnly Go.Departure.lateStoresUnsure }, { on := 5, ground := Go.Ground.textOnly Go.Departure.lateStoresUnsure }, { on := 6, ground := Go.Ground.phase }, { on := 7, ground := Go.Ground.phase }], guard := none }) rfl (fun K hK => ?_) AllReadyH.nil
          refine stepH_store (by rfl) (t := 25) (p := 8) (v := .tmp 32) rfl rfl (g := ga) (u := .agg #[.int .i64 4, .int .i64 0, .float .f64 0, .string ⟨#[]⟩, .slice (some ⟨gl, ol, none⟩) n c]) (cs := #[.int .i64 4, .int .i64 0, .float .f64 0, .string ⟨#[]⟩, .slice (some ⟨gl, ol, none⟩) n c]) rfl rfl KA.out rfl (by kernel_rfl) (by simp [Value.oneCell']) (by simp [Value.cells]) ?_
          intro w109 hk hs
          have HB := Aside0.mk (below_keep HB.out GA.out.1 hs)
          have K5 := Aside0.mk (hs.blk K5.out GA.out.2)
          have KA := Aside0.mk hk
          have KB := Aside0.mk (hs.blk KB.out (by (have := NE.out; omega)))
          clear hk hs
          refine hK.out _ _ trivial (fun _ => ?_)
          clear hK K
          try simp only [Act.put, List.setIfInBounds_toArray, List.set_cons_zero, List.set_cons_succ]
          refine wpAnyH_ready (rs := [9]) (by kernel_rfl) (by simp) ?_
          refine AllReadyH.cons (o := { dst := none, op := Go.Op.store 25 (Go.Operand.tmp 9) (Go.Operand.tmp 36), type := 0, pos := "more.go:22", after := #[{ on := 7, ground := Go.Ground.data }, { on := 5, ground := Go.Ground.data }, { on := 8, ground := Go.Ground.chain }, { on := 0, ground := Go.Ground.phase }, { on := 1, ground := Go.Ground.phase }, { on := 2, ground := Go.Ground.phase }, { on := 3, ground := Go.Ground.phase }, { on := 4, ground := Go.Ground.phase }, { on := 5, ground := Go.Ground.phase }, { on := 6, ground := Go.Ground.phase }, { on := 7, ground := Go.Ground.phase }, { on := 8, ground := Go.Ground.phase }], guard := none }) rfl (fun K hK => ?_) AllReadyH.nil
          refine stepH_store (by rfl) (t := 25) (p := 9) (v := .tmp 36) rfl rfl (g := gb) (u := .agg #[.int .i64 4, .int .i64 0, .float .f64 0, .string ⟨#[]⟩, .slice (some ⟨gl, ol, none⟩) kk c]) (cs := #[.int .i64 4, .int .i64 0, .float .f64 0, .string ⟨#[]⟩, .slice (some ⟨gl, ol, none⟩) kk c]) rfl rfl KB.out rfl (by kernel_rfl) (by simp [Value.oneCell']) (by simp [Value.cells]) ?_
          intro w110 hk hs
          have HB := Aside0.mk (below_keep HB.out GB.out.1 hs)
          have K5 := Aside0.mk (hs.blk K5.out GB.out.2)
          have KB := Aside0.mk hk
          have KA := Aside0.mk (hs.blk KA.out (by (have := NE.out; omega)))
          clear hk hs
          refine hK.out _ _ trivial (fun _ => ?_)
          clear hK K
          try simp only [Act.put, List.setIfInBounds_toArray, List.set_cons_zero, List.set_cons_succ]
          refine wpAnyH_done (by kernel_rfl) ?_ _
          go_wp2_with (fail)
          go_meet
          case rel => exact ⟨ga, gb, rfl, rfl, GA.out.1, GB.out.1, by (have := NE.out; omega), KA.out, KB.out, K5.out, HB.out⟩
        refine AllReadyH.cons (o := { dst := some 9, op := Go.Op.alloc 25, type := 0, pos := "more.go:22", after := #[], guard := none }) rfl (fun K hK => ?_) ?_
        · refine stepH_alloc (by rfl) (cs := #[.int .i64 0, .int .i64 0, .float .f64 0, .string ⟨#[]⟩, .slice none 0 0]) (t := 25) (by first | (go_simp; done) | (go_simp; rfl)) ?_
          intro gb hg w107 hbox hb
          have GB := Aside0.mk (show W.heap.size ≤ gb ∧ g5 ≠ gb by (have := HB.out.size; have h5_ := blk_lt K5.out; omega))
          (try have NE := Aside0.mk (show gb ≠ ga by (have := blk_lt KA.out; omega)))
          (try have KA := Aside0.mk (blk_below KA.out hb))
          have HB := Aside0.mk (below_step HB.out hb)
          have K5 := Aside0.mk (blk_below K5.out hb)
          have KB := Aside0.mk hbox
          clear hg hbox hb
          refine hK.out _ _ trivial (fun _ => ?_)
          clear hK K
          try simp only [Act.put, List.setIfInBounds_toArray, List.set_cons_zero, List.set_cons_succ]
          refine wpAnyH_ready (rs := [5]) (by kernel_rfl) (by simp) ?_
          refine AllReadyH.cons (o := { dst := some 36, op := Go.Op.call { callee := Go.Callee.value (Go.Operand.func 16), args := #[Go.Operand.tmp 35], argTypes := #[23] }, type := 25, pos := "more.go:22", after := #[{ on := 4, ground := Go.Ground.data }, { on := 1, ground := Go.Ground.chain }], guard := none }) rfl (fun K hK => ?_) AllReadyH.nil
          go_simp
          (with_reducible refine (list16 _ _ _ _).mono ?_)
          rintro e w108 ⟨rfl, hb⟩
          have HB := Aside0.mk (below_step HB.out hb)
          have K5 := Aside0.mk (blk_below K5.out hb)
          (try have KA := Aside0.mk (blk_below KA.out hb))
          (try have KB := Aside0.mk (blk_below KB.out hb))
          clear hb
          refine hK.out _ _ trivial (fun _ => ?_)
          clear hK K
          try simp only [Act.put, List.setIfInBounds_toArray, List.set_cons_zero, List.set_cons_succ]
          refine wpAnyH_ready (rs := [8]) (by kernel_rfl) (by simp) ?_
          refine AllReadyH.cons (o := { dst := none, op := Go.Op.store 25 (Go.Operand.tmp 8) (Go.Operand.tmp 32), type := 0, pos := "more.go:22", after := #[{ on := 6, ground := Go.Ground.data }, { on := 1, ground := Go.Ground.data }, { on := 5, ground := Go.Ground.chain }, { on := 0, ground := Go.Ground.phase }, { on := 1, ground := Go.Ground.phase }, { on := 2, ground := Go.Ground.textOnly Go.Departure.lateStores }, { on := 3, ground := Go.Ground.textOnly Go.Departure.lateStores }, { on := 4, ground := Go.Ground.textOnly Go.Departure.lateStoresUnsure }, { on := 5, ground := Go.Ground.textOnly Go.Departure.lateStoresUnsure }, { on := 6, ground := Go.Ground.phase }, { on := 7, ground := Go.Ground.phase }], guard := none }) rfl (fun K hK => ?_) AllReadyH.nil
          refine stepH_store (by rfl) (t := 25) (p := 8) (v := .tmp 32) rfl rfl (g := ga) (u := .agg #[.int .i64 4, .int .i64 0, .float .f64 0, .string ⟨#[]⟩, .slice (some ⟨gl, ol, none⟩) n c]) (cs := #[.int .i64 4, .int .i64 0, .float .f64 0, .string ⟨#[]⟩, .slice (some ⟨gl, ol, none⟩) n c]) rfl rfl KA.out rfl (by kernel_rfl) (by simp [Value.oneCell']) (by simp [Value.cells]) ?_
          intro w109 hk hs
          have HB := Aside0.mk (below_keep HB.out GA.out.1 hs)
          have K5 := Aside0.mk (hs.blk K5.out GA.out.2)
          have KA := Aside0.mk hk
          have KB := Aside0.mk (hs.blk KB.out (by (have := NE.out; omega)))
          clear hk hs
          refine hK.out _ _ trivial (fun _ => ?_)
          clear hK K
          try simp only [Act.put, List.setIfInBounds_toArray, List.set_cons_zero, List.set_cons_succ]
          refine wpAnyH_ready (rs := [9]) (by kernel_rfl) (by simp) ?_
          refine AllReadyH.cons (o := { dst := none, op := Go.Op.store 25 (Go.Operand.tmp 9) (Go.Operand.tmp 36), type := 0, pos := "more.go:22", after := #[{ on := 7, ground := Go.Ground.data }, { on := 5, ground := Go.Ground.data }, { on := 8, ground := Go.Ground.chain }, { on := 0, ground := Go.Ground.phase }, { on := 1, ground := Go.Ground.phase }, { on := 2, ground := Go.Ground.phase }, { on := 3, ground := Go.Ground.phase }, { on := 4, ground := Go.Ground.phase }, { on := 5, ground := Go.Ground.phase }, { on := 6, ground := Go.Ground.phase }, { on := 7, ground := Go.Ground.phase }, { on := 8, ground := Go.Ground.phase }], guard := none }) rfl (fun K hK => ?_) AllReadyH.nil
          refine stepH_store (by rfl) (t := 25) (p := 9) (v := .tmp 36) rfl rfl (g := gb) (u := .agg #[.int .i64 4, .int .i64 0, .float .f64 0, .string ⟨#[]⟩, .slice (some ⟨gl, ol, none⟩) kk c]) (cs := #[.int .i64 4, .int .i64 0, .float .f64 0, .string ⟨#[]⟩, .slice (some ⟨gl, ol, none⟩) kk c]) rfl rfl KB.out rfl (by kernel_rfl) (by simp [Value.oneCell']) (by simp [Value.cells]) ?_
          intro w110 hk hs
          have HB := Aside0.mk (below_keep HB.out GB.out.1 hs)
          have K5 := Aside0.mk (hs.blk K5.out GB.out.2)
          have KB := Aside0.mk hk
          have KA := Aside0.mk (hs.blk KA.out (by (have := NE.out; omega)))
          clear hk hs
          refine hK.out _ _ trivial (fun _ => ?_)
          clear hK K
          try simp only [Act.put, List.setIfInBounds_toArray, List.set_cons_zero, List.set_cons_succ]
          refine wpAnyH_done (by kernel_rfl) ?_ _
          go_wp2_with (fail)
          go_meet
          case rel => exact ⟨ga, gb, rfl, rfl, GA.out.1, GB.out.1, by (have := NE.out; omega), KA.out, KB.out, K5.out, HB.out⟩
        exact AllReadyH.nil
      refine AllReadyH.cons (o := { dst := some 9, op := Go.Op.alloc 25, type := 0, pos := "more.go:22", after := #[], guard := none }) rfl (fun K hK => ?_) ?_
      · refine stepH_alloc (by rfl) (cs := #[.int .i64 0, .int .i64 0, .float .f64 0, .string ⟨#[]⟩, .slice none 0 0]) (t := 25) (by first | (go_simp; done) | (go_simp; rfl)) ?_
        intro gb hg w106 hbox hb
        have GB := Aside0.mk (show W.heap.size ≤ gb ∧ g5 ≠ gb by (have := HB.out.size; have h5_ := blk_lt K5.out; omega))
        (try have NE := Aside0.mk (show gb ≠ ga by (have := blk_lt KA.out; omega)))
        (try have KA := Aside0.mk (blk_below KA.out hb))
        have HB := Aside0.mk (below_step HB.out hb)
        have K5 := Aside0.mk (blk_below K5.out hb)
        have KB := Aside0.mk hbox
        clear hg hbox hb
        refine hK.out _ _ trivial (fun _ => ?_)
        clear hK K
        try simp only [Act.put, List.setIfInBounds_toArray, List.set_cons_zero, List.set_cons_succ]
        refine wpAnyH_ready (rs := [1]) (by kernel_rfl) (by simp) ?_
        refine AllReadyH.cons (o := { dst := some 32, op := Go.Op.call { callee := Go.Callee.value (Go.Operand.func 16), args := #[Go.Operand.tmp 31], argTypes := #[23] }, type := 25, pos := "more.go:22", after := #[{ on := 0, ground := Go.Ground.data }], guard := none }) rfl (fun K hK => ?_) AllReadyH.nil
        go_simp
        (with_reducible refine (list16 _ _ _ _).mono ?_)
        rintro e w107 ⟨rfl, hb⟩
        have HB := Aside0.mk (below_step HB.out hb)
        have K5 := Aside0.mk (blk_below K5.out hb)
        (try have KA := Aside0.mk (blk_below KA.out hb))
        (try have KB := Aside0.mk (blk_below KB.out hb))
        clear hb
        refine hK.out _ _ trivial (fun _ => ?_)
        clear hK K
        try simp only [Act.put, List.setIfInBounds_toArray, List.set_cons_zero, List.set_cons_succ]
        refine wpAnyH_ready (rs := [5]) (by kernel_rfl) (by simp) ?_
        refine AllReadyH.cons (o := { dst := some 36, op := Go.Op.call { callee := Go.Callee.value (Go.Operand.func 16), args := #[Go.Operand.tmp 35], argTypes := #[23] }, type := 25, pos := "more.go:22", after := #[{ on := 4, ground := Go.Ground.data }, { on := 1, ground := Go.Ground.chain }], guard := none }) rfl (fun K hK => ?_) AllReadyH.nil
        go_simp
        (with_reducible refine (list16 _ _ _ _).mono ?_)
        rintro e w108 ⟨rfl, hb⟩
        have HB := Aside0.mk (below_step HB.out hb)
        have K5 := Aside0.mk (blk_below K5.out hb)
        (try have KA := Aside0.mk (blk_below KA.out hb))
        (try have KB := Aside0.mk (blk_below KB.out hb))
        clear hb
        refine hK.out _ _ trivial (fun _ => ?_)
        clear hK K
        try simp only [Act.put, List.setIfInBounds_toArray, List.set_cons_zero, List.set_cons_succ]
        refine wpAnyH_ready (rs := [8]) (by kernel_rfl) (by simp) ?_
        refine AllReadyH.cons (o := { dst := none, op := Go.Op.store 25 (Go.Operand.tmp 8) (Go.Operand.tmp 32), type := 0, pos := "more.go:22", after := #[{ on := 6, ground := Go.Ground.data }, { on := 1, ground := Go.Ground.data }, { on := 5, ground := Go.Ground.chain }, { on := 0, ground := Go.Ground.phase }, { on := 1, ground := Go.Ground.phase }, { on := 2, ground := Go.Ground.textOnly Go.Departure.lateStores }, { on := 3, ground := Go.Ground.textOnly Go.Departure.lateStores }, { on := 4, ground := Go.Ground.textOnly Go.Departure.lateStoresUnsure }, { on := 5, ground := Go.Ground.textOnly Go.Departure.lateStoresUnsure }, { on := 6, ground := Go.Ground.phase }, { on := 7, ground := Go.Ground.phase }], guard := none }) rfl (fun K hK => ?_) AllReadyH.nil
        refine stepH_store (by rfl) (t := 25) (p := 8) (v := .tmp 32) rfl rfl (g := ga) (u := .agg #[.int .i64 4, .int .i64 0, .float .f64 0, .string ⟨#[]⟩, .slice (some ⟨gl, ol, none⟩) n c]) (cs := #[.int .i64 4, .int .i64 0, .float .f64 0, .string ⟨#[]⟩, .slice (some ⟨gl, ol, none⟩) n c]) rfl rfl KA.out rfl (by kernel_rfl) (by simp [Value.oneCell']) (by simp [Value.cells]) ?_
        intro w109 hk hs
        have HB := Aside0.mk (below_keep HB.out GA.out.1 hs)
        have K5 := Aside0.mk (hs.blk K5.out GA.out.2)
        have KA := Aside0.mk hk
        have KB := Aside0.mk (hs.blk KB.out (by (have := NE.out; omega)))
        clear hk hs
        refine hK.out _ _ trivial (fun _ => ?_)
        clear hK K
        try simp only [Act.put, List.setIfInBounds_toArray, List.set_cons_zero, List.set_cons_succ]
        refine wpAnyH_ready (rs := [9]) (by kernel_rfl) (by simp) ?_
        refine AllReadyH.cons (o := { dst := none, op := Go.Op.store 25 (Go.Operand.tmp 9) (Go.Operand.tmp 36), type := 0, pos := "more.go:22", after := #[{ on := 7, ground := Go.Ground.data }, { on := 5, ground := Go.Ground.data }, { on := 8, ground := Go.Ground.chain }, { on := 0, ground := Go.Ground.phase }, { on := 1, ground := Go.Ground.phase }, { on := 2, ground := Go.Ground.phase }, { on := 3, ground := Go.Ground.phase }, { on := 4, ground := Go.Ground.phase }, { on := 5, ground := Go.Ground.phase }, { on := 6, ground := Go.Ground.phase }, { on := 7, ground := Go.Ground.phase }, { on := 8, ground := Go.Ground.phase }], guard := none }) rfl (fun K hK => ?_) AllReadyH.nil
        refine stepH_store (by rfl) (t := 25) (p := 9) (v := .tmp 36) rfl rfl (g := gb) (u := .agg #[.int .i64 4, .int .i64 0, .float .f64 0, .string ⟨#[]⟩, .slice (some ⟨gl, ol, none⟩) kk c]) (cs := #[.int .i64 4, .int .i64 0, .float .f64 0, .string ⟨#[]⟩, .slice (some ⟨gl, ol, none⟩) kk c]) rfl rfl KB.out rfl (by kernel_rfl) (by simp [Value.oneCell']) (by simp [Value.cells]) ?_
        intro w110 hk hs
        have HB := Aside0.mk (below_keep HB.out GB.out.1 hs)
        have K5 := Aside0.mk (hs.blk K5.out GB.out.2)
        have KB := Aside0.mk hk
        have KA := Aside0.mk (hs.blk KA.out (by (have := NE.out; omega)))
        clear hk hs
        refine hK.out _ _ trivial (fun _ => ?_)
        clear hK K
        try simp only [Act.put, List.setIfInBounds_toArray, List.set_cons_zero, List.set_cons_succ]
        refine wpAnyH_done (by kernel_rfl) ?_ _
        go_wp2_with (fail)
        go_meet
        case rel => exact ⟨ga, gb, rfl, rfl, GA.out.1, GB.out.1, by (have := NE.out; omega), KA.out, KB.out, K5.out, HB.out⟩
      exact AllReadyH.nil
    refine AllReadyH.cons (o := { dst := some 9, op := Go.Op.alloc 25, type := 0, pos := "more.go:22", after := #[], guard := none }) rfl (fun K hK => ?_) ?_
    · refine stepH_alloc (by rfl) (cs := #[.int .i64 0, .int .i64 0, .float .f64 0, .string ⟨#[]⟩, .slice none 0 0]) (t := 25) (by first | (go_simp; done) | (go_simp; rfl)) ?_
      intro gb hg w105 hbox hb
      have GB := Aside0.mk (show W.heap.size ≤ gb ∧ g5 ≠ gb by (have := HB.out.size; have h5_ := blk_lt K5.out; omega))
      (try have NE := Aside0.mk (show gb ≠ ga by (have := blk_lt KA.out; omega)))
      (try have KA := Aside0.mk (blk_below KA.out hb))
      have HB := Aside0.mk (below_step HB.out hb)
      have K5 := Aside0.mk (blk_below K5.out hb)
      have KB := Aside0.mk hbox
      clear hg hbox hb
      refine hK.out _ _ trivial (fun _ => ?_)
      clear hK K
      try simp only [Act.put, List.setIfInBounds_toArray, List.set_cons_zero, List.set_cons_succ]
      refine wpAnyH_ready (rs := [1, 6]) (by kernel_rfl) (by simp) ?_
      refine AllReadyH.cons (o := { dst := some 32, op := Go.Op.call { callee := Go.Callee.value (Go.Operand.func 16), args := #[Go.Operand.tmp 31], argTypes := #[23] }, type := 25, pos := "more.go:22", after := #[{ on := 0, ground := Go.Ground.data }], guard := none }) rfl (fun K hK => ?_) ?_
      · go_simp
        (with_reducible refine (list16 _ _ _ _).mono ?_)
        rintro e w106 ⟨rfl, hb⟩
        have HB := Aside0.mk (below_step HB.out hb)
        have K5 := Aside0.mk (blk_below K5.out hb)
        (try have KA := Aside0.mk (blk_below KA.out hb))
        (try have KB := Aside0.mk (blk_below KB.out hb))
        clear hb
        refine hK.out _ _ trivial (fun _ => ?_)
        clear hK K
        try simp only [Act.put, List.setIfInBounds_toArray, List.set_cons_zero, List.set_cons_succ]
        refine wpAnyH_ready (rs := [5, 6]) (by kernel_rfl) (by simp) ?_
        refine AllReadyH.cons (o := { dst := some 36, op := Go.Op.call { callee := Go.Callee.value (Go.Operand.func 16), args := #[Go.Operand.tmp 35], argTypes := #[23] }, type := 25, pos := "more.go:22", after := #[{ on := 4, ground := Go.Ground.data }, { on := 1, ground := Go.Ground.chain }], guard := none }) rfl (fun K hK => ?_) ?_
        · go_simp
          (with_reducible refine (list16 _ _ _ _).mono ?_)
          rintro e w107 ⟨rfl, hb⟩
          have HB := Aside0.mk (below_step HB.out hb)
          have K5 := Aside0.mk (blk_below K5.out hb)
          (try have KA := Aside0.mk (blk_below KA.out hb))
          (try have KB := Aside0.mk (blk_below KB.out hb))
          clear hb
          refine hK.out _ _ trivial (fun _ => ?_)
          clear hK K
          try simp only [Act.put, List.setIfInBounds_toArray, List.set_cons_zero, List.set_cons_succ]
          refine wpAnyH_ready (rs := [6]) (by kernel_rfl) (by simp) ?_
          refine AllReadyH.cons (o := { dst := some 8, op := Go.Op.alloc 25, type := 0, pos := "more.go:22", after := #[], guard := none }) rfl (fun K hK => ?_) AllReadyH.nil
          refine stepH_alloc (by rfl) (cs := #[.int .i64 0, .int .i64 0, .float .f64 0, .string ⟨#[]⟩, .slice none 0 0]) (t := 25) (by first | (go_simp; done) | (go_simp; rfl)) ?_
          intro ga hg w108 hbox hb
          have GA := Aside0.mk (show W.heap.size ≤ ga ∧ g5 ≠ ga by (have := HB.out.size; have h5_ := blk_lt K5.out; omega))
          (try have NE := Aside0.mk (show ga ≠ gb by (have := blk_lt KB.out; omega)))
          (try have KB := Aside0.mk (blk_below KB.out hb))
          have HB := Aside0.mk (below_step HB.out hb)
          have K5 := Aside0.mk (blk_below K5.out hb)
          have KA := Aside0.mk hbox
          clear hg hbox hb
          refine hK.out _ _ trivial (fun _ => ?_)
          clear hK K
          try simp only [Act.put, List.setIfInBounds_toArray, List.set_cons_zero, List.set_cons_succ]
          refine wpAnyH_ready (rs := [8]) (by kernel_rfl) (by simp) ?_
          refine AllReadyH.cons (o := { dst := none, op := Go.Op.store 25 (Go.Operand.tmp 8) (Go.Operand.tmp 32), type := 0, pos := "more.go:22", after := #[{ on := 6, ground := Go.Ground.data }, { on := 1, ground := Go.Ground.data }, { on := 5, ground := Go.Ground.chain }, { on := 0, ground := Go.Ground.phase }, { on := 1, ground := Go.Ground.phase }, { on := 2, ground := Go.Ground.textOnly Go.Departure.lateStores }, { on := 3, ground := Go.Ground.textOnly Go.Departure.lateStores }, { on := 4, ground := Go.Ground.textOnly Go.Departure.lateStoresUnsure }, { on := 5, ground := Go.Ground.textOnly Go.Departure.lateStoresUnsure }, { on := 6, ground := Go.Ground.phase }, { on := 7, ground := Go.Ground.phase }], guard := none }) rfl (fun K hK => ?_) AllReadyH.nil
          refine stepH_store (by rfl) (t := 25) (p := 8) (v := .tmp 32) rfl rfl (g := ga) (u := .agg #[.int .i64 4, .int .i64 0, .float .f64 0, .string ⟨#[]⟩, .slice (some ⟨gl, ol, none⟩) n c]) (cs := #[.int .i64 4, .int .i64 0, .float .f64 0, .string ⟨#[]⟩, .slice (some ⟨gl, ol, none⟩) n c]) rfl rfl KA.out rfl (by kernel_rfl) (by simp [Value.oneCell']) (by simp [Value.cells]) ?_
          intro w109 hk hs
          have HB := Aside0.mk (below_keep HB.out GA.out.1 hs)
          have K5 := Aside0.mk (hs.blk K5.out GA.out.2)
          have KA := Aside0.mk hk
          have KB := Aside0.mk (hs.blk KB.out (by (have := NE.out; omega)))
          clear hk hs
          refine hK.out _ _ trivial (fun _ => ?_)
          clear hK K
          try simp only [Act.put, List.setIfInBounds_toArray, List.set_cons_zero, List.set_cons_succ]
          refine wpAnyH_ready (rs := [9]) (by kernel_rfl) (by simp) ?_
          refine AllReadyH.cons (o := { dst := none, op := Go.Op.store 25 (Go.Operand.tmp 9) (Go.Operand.tmp 36), type := 0, pos := "more.go:22", after := #[{ on := 7, ground := Go.Ground.data }, { on := 5, ground := Go.Ground.data }, { on := 8, ground := Go.Ground.chain }, { on := 0, ground := Go.Ground.phase }, { on := 1, ground := Go.Ground.phase }, { on := 2, ground := Go.Ground.phase }, { on := 3, ground := Go.Ground.phase }, { on := 4, ground := Go.Ground.phase }, { on := 5, ground := Go.Ground.phase }, { on := 6, ground := Go.Ground.phase }, { on := 7, ground := Go.Ground.phase }, { on := 8, ground := Go.Ground.phase }], guard := none }) rfl (fun K hK => ?_) AllReadyH.nil
          refine stepH_store (by rfl) (t := 25) (p := 9) (v := .tmp 36) rfl rfl (g := gb) (u := .agg #[.int .i64 4, .int .i64 0, .float .f64 0, .string ⟨#[]⟩, .slice (some ⟨gl, ol, none⟩) kk c]) (cs := #[.int .i64 4, .int .i64 0, .float .f64 0, .string ⟨#[]⟩, .slice (some ⟨gl, ol, none⟩) kk c]) rfl rfl KB.out rfl (by kernel_rfl) (by simp [Value.oneCell']) (by simp [Value.cells]) ?_
          intro w110 hk hs
          have HB := Aside0.mk (below_keep HB.out GB.out.1 hs)
          have K5 := Aside0.mk (hs.blk K5.out GB.out.2)
          have KB := Aside0.mk hk
          have KA := Aside0.mk (hs.blk KA.out (by (have := NE.out; omega)))
          clear hk hs
          refine hK.out _ _ trivial (fun _ => ?_)
          clear hK K
          try simp only [Act.put, List.setIfInBounds_toArray, List.set_cons_zero, List.set_cons_succ]
          refine wpAnyH_done (by kernel_rfl) ?_ _
          go_wp2_with (fail)
          go_meet
          case rel => exact ⟨ga, gb, rfl, rfl, GA.out.1, GB.out.1, by (have := NE.out; omega), KA.out, KB.out, K5.out, HB.out⟩
        refine AllReadyH.cons (o := { dst := some 8, op := Go.Op.alloc 25, type := 0, pos := "more.go:22", after := #[], guard := none }) rfl (fun K hK => ?_) ?_
        · refine stepH_alloc (by rfl) (cs := #[.int .i64 0, .int .i64 0, .float .f64 0, .string ⟨#[]⟩, .slice none 0 0]) (t := 25) (by first | (go_simp; done) | (go_simp; rfl)) ?_
          intro ga hg w107 hbox hb
          have GA := Aside0.mk (show W.heap.size ≤ ga ∧ g5 ≠ ga by (have := HB.out.size; have h5_ := blk_lt K5.out; omega))
          (try have NE := Aside0.mk (show ga ≠ gb by (have := blk_lt KB.out; omega)))
          (try have KB := Aside0.mk (blk_below KB.out hb))
          have HB := Aside0.mk (below_step HB.out hb)
          have K5 := Aside0.mk (blk_below K5.out hb)
          have KA := Aside0.mk hbox
          clear hg hbox hb
          refine hK.out _ _ trivial (fun _ => ?_)
          clear hK K
          try simp only [Act.put, List.setIfInBounds_toArray, List.set_cons_zero, List.set_cons_succ]
          refine wpAnyH_ready (rs := [5]) (by kernel_rfl) (by simp) ?_
          refine AllReadyH.cons (o := { dst := some 36, op := Go.Op.call { callee := Go.Callee.value (Go.Operand.func 16), args := #[Go.Operand.tmp 35], argTypes := #[23] }, type := 25, pos := "more.go:22", after := #[{ on := 4, ground := Go.Ground.data }, { on := 1, ground := Go.Ground.chain }], guard := none }) rfl (fun K hK => ?_) AllReadyH.nil
          go_simp
          (with_reducible refine (list16 _ _ _ _).mono ?_)
          rintro e w108 ⟨rfl, hb⟩
          have HB := Aside0.mk (below_step HB.out hb)
          have K5 := Aside0.mk (blk_below K5.out hb)
          (try have KA := Aside0.mk (blk_below KA.out hb))
          (try have KB := Aside0.mk (blk_below KB.out hb))
          clear hb
          refine hK.out _ _ trivial (fun _ => ?_)
          clear hK K
          try simp only [Act.put, List.setIfInBounds_toArray, List.set_cons_zero, List.set_cons_succ]
          refine wpAnyH_ready (rs := [8]) (by kernel_rfl) (by simp) ?_
          refine AllReadyH.cons (o := { dst := none, op := Go.Op.store 25 (Go.Operand.tmp 8) (Go.Operand.tmp 32), type := 0, pos := "more.go:22", after := #[{ on := 6, ground := Go.Ground.data }, { on := 1, ground := Go.Ground.data }, { on := 5, ground := Go.Ground.chain }, { on := 0, ground := Go.Ground.phase }, { on := 1, ground := Go.Ground.phase }, { on := 2, ground := Go.Ground.textOnly Go.Departure.lateStores }, { on := 3, ground := Go.Ground.textOnly Go.Departure.lateStores }, { on := 4, ground := Go.Ground.textOnly Go.Departure.lateStoresUnsure }, { on := 5, ground := Go.Ground.textOnly Go.Departure.lateStoresUnsure }, { on := 6, ground := Go.Ground.phase }, { on := 7, ground := Go.Ground.phase }], guard := none }) rfl (fun K hK => ?_) AllReadyH.nil
          refine stepH_store (by rfl) (t := 25) (p := 8) (v := .tmp 32) rfl rfl (g := ga) (u := .agg #[.int .i64 4, .int .i64 0, .float .f64 0, .string ⟨#[]⟩, .slice (some ⟨gl, ol, none⟩) n c]) (cs := #[.int .i64 4, .int .i64 0, .float .f64 0, .string ⟨#[]⟩, .slice (some ⟨gl, ol, none⟩) n c]) rfl rfl KA.out rfl (by kernel_rfl) (by simp [Value.oneCell']) (by simp [Value.cells]) ?_
          intro w109 hk hs
          have HB := Aside0.mk (below_keep HB.out GA.out.1 hs)
          have K5 := Aside0.mk (hs.blk K5.out GA.out.2)
          have KA := Aside0.mk hk
          have KB := Aside0.mk (hs.blk KB.out (by (have := NE.out; omega)))
          clear hk hs
          refine hK.out _ _ trivial (fun _ => ?_)
          clear hK K
          try simp only [Act.put, List.setIfInBounds_toArray, List.set_cons_zero, List.set_cons_succ]
          refine wpAnyH_ready (rs := [9]) (by kernel_rfl) (by simp) ?_
          refine AllReadyH.cons (o := { dst := none, op := Go.Op.store 25 (Go.Operand.tmp 9) (Go.Operand.tmp 36), type := 0, pos := "more.go:22", after := #[{ on := 7, ground := Go.Ground.data }, { on := 5, ground := Go.Ground.data }, { on := 8, ground := Go.Ground.chain }, { on := 0, ground := Go.Ground.phase }, { on := 1, ground := Go.Ground.phase }, { on := 2, ground := Go.Ground.phase }, { on := 3, ground := Go.Ground.phase }, { on := 4, ground := Go.Ground.phase }, { on := 5, ground := Go.Ground.phase }, { on := 6, ground := Go.Ground.phase }, { on := 7, ground := Go.Ground.phase }, { on := 8, ground := Go.Ground.phase }], guard := none }) rfl (fun K hK => ?_) AllReadyH.nil
          refine stepH_store (by rfl) (t := 25) (p := 9) (v := .tmp 36) rfl rfl (g := gb) (u := .agg #[.int .i64 4, .int .i64 0, .float .f64 0, .string ⟨#[]⟩, .slice (some ⟨gl, ol, none⟩) kk c]) (cs := #[.int .i64 4, .int .i64 0, .float .f64 0, .string ⟨#[]⟩, .slice (some ⟨gl, ol, none⟩) kk c]) rfl rfl KB.out rfl (by kernel_rfl) (by simp [Value.oneCell']) (by simp [Value.cells]) ?_
          intro w110 hk hs
          have HB := Aside0.mk (below_keep HB.out GB.out.1 hs)
          have K5 := Aside0.mk (hs.blk K5.out GB.out.2)
          have KB := Aside0.mk hk
          have KA := Aside0.mk (hs.blk KA.out (by (have := NE.out; omega)))
          clear hk hs
          refine hK.out _ _ trivial (fun _ => ?_)
          clear hK K
          try simp only [Act.put, List.setIfInBounds_toArray, List.set_cons_zero, List.set_cons_succ]
          refine wpAnyH_done (by kernel_rfl) ?_ _
          go_wp2_with (fail)
          go_meet
          case rel => exact ⟨ga, gb, rfl, rfl, GA.out.1, GB.out.1, by (have := NE.out; omega), KA.out, KB.out, K5.out, HB.out⟩
        exact AllReadyH.nil
      refine AllReadyH.cons (o := { dst := some 8, op := Go.Op.alloc 25, type := 0, pos := "more.go:22", after := #[], guard := none }) rfl (fun K hK => ?_) ?_
      · refine stepH_alloc (by rfl) (cs := #[.int .i64 0, .int .i64 0, .float .f64 0, .string ⟨#[]⟩, .slice none 0 0]) (t := 25) (by first | (go_simp; done) | (go_simp; rfl)) ?_
        intro ga hg w106 hbox hb
        have GA := Aside0.mk (show W.heap.size ≤ ga ∧ g5 ≠ ga by (have := HB.out.size; have h5_ := blk_lt K5.out; omega))
        (try have NE := Aside0.mk (show ga ≠ gb by (have := blk_lt KB.out; omega)))
        (try have KB := Aside0.mk (blk_below KB.out hb))
        have HB := Aside0.mk (below_step HB.out hb)
        have K5 := Aside0.mk (blk_below K5.out hb)
        have KA := Aside0.mk hbox
        clear hg hbox hb
        refine hK.out _ _ trivial (fun _ => ?_)
        clear hK K
        try simp only [Act.put, List.setIfInBounds_toArray, List.set_cons_zero, List.set_cons_succ]
        refine wpAnyH_ready (rs := [1]) (by kernel_rfl) (by simp) ?_
        refine AllReadyH.cons (o := { dst := some 32, op := Go.Op.call { callee := Go.Callee.value (Go.Operand.func 16), args := #[Go.Operand.tmp 31], argTypes := #[23] }, type := 25, pos := "more.go:22", after := #[{ on := 0, ground := Go.Ground.data }], guard := none }) rfl (fun K hK => ?_) AllReadyH.nil
        go_simp
        (with_reducible refine (list16 _ _ _ _).mono ?_)
        rintro e w107 ⟨rfl, hb⟩
        have HB := Aside0.mk (below_step HB.out hb)
        have K5 := Aside0.mk (blk_below K5.out hb)
        (try have KA := Aside0.mk (blk_below KA.out hb))
        (try have KB := Aside0.mk (blk_below KB.out hb))
        clear hb
        refine hK.out _ _ trivial (fun _ => ?_)
        clear hK K
        try simp only [Act.put, List.setIfInBounds_toArray, List.set_cons_zero, List.set_cons_succ]
        refine wpAnyH_ready (rs := [5]) (by kernel_rfl) (by simp) ?_
        refine AllReadyH.cons (o := { dst := some 36, op := Go.Op.call { callee := Go.Callee.value (Go.Operand.func 16), args := #[Go.Operand.tmp 35], argTypes := #[23] }, type := 25, pos := "more.go:22", after := #[{ on := 4, ground := Go.Ground.data }, { on := 1, ground := Go.Ground.chain }], guard := none }) rfl (fun K hK => ?_) AllReadyH.nil
        go_simp
        (with_reducible refine (list16 _ _ _ _).mono ?_)
        rintro e w108 ⟨rfl, hb⟩
        have HB := Aside0.mk (below_step HB.out hb)
        have K5 := Aside0.mk (blk_below K5.out hb)
        (try have KA := Aside0.mk (blk_below KA.out hb))
        (try have KB := Aside0.mk (blk_below KB.out hb))
        clear hb
        refine hK.out _ _ trivial (fun _ => ?_)
        clear hK K
        try simp only [Act.put, List.setIfInBounds_toArray, List.set_cons_zero, List.set_cons_succ]
        refine wpAnyH_ready (rs := [8]) (by kernel_rfl) (by simp) ?_
        refine AllReadyH.cons (o := { dst := none, op := Go.Op.store 25 (Go.Operand.tmp 8) (Go.Operand.tmp 32), type := 0, pos := "more.go:22", after := #[{ on := 6, ground := Go.Ground.data }, { on := 1, ground := Go.Ground.data }, { on := 5, ground := Go.Ground.chain }, { on := 0, ground := Go.Ground.phase }, { on := 1, ground := Go.Ground.phase }, { on := 2, ground := Go.Ground.textOnly Go.Departure.lateStores }, { on := 3, ground := Go.Ground.textOnly Go.Departure.lateStores }, { on := 4, ground := Go.Ground.textOnly Go.Departure.lateStoresUnsure }, { on := 5, ground := Go.Ground.textOnly Go.Departure.lateStoresUnsure }, { on := 6, ground := Go.Ground.phase }, { on := 7, ground := Go.Ground.phase }], guard := none }) rfl (fun K hK => ?_) AllReadyH.nil
        refine stepH_store (by rfl) (t := 25) (p := 8) (v := .tmp 32) rfl rfl (g := ga) (u := .agg #[.int .i64 4, .int .i64 0, .float .f64 0, .string ⟨#[]⟩, .slice (some ⟨gl, ol, none⟩) n c]) (cs := #[.int .i64 4, .int .i64 0, .float .f64 0, .string ⟨#[]⟩, .slice (some ⟨gl, ol, none⟩) n c]) rfl rfl KA.out rfl (by kernel_rfl) (by simp [Value.oneCell']) (by simp [Value.cells]) ?_
        intro w109 hk hs
        have HB := Aside0.mk (below_keep HB.out GA.out.1 hs)
        have K5 := Aside0.mk (hs.blk K5.out GA.out.2)
        have KA := Aside0.mk hk
        have KB := Aside0.mk (hs.blk KB.out (by (have := NE.out; omega)))
        clear hk hs
        refine hK.out _ _ trivial (fun _ => ?_)
        clear hK K
        try simp only [Act.put, List.setIfInBounds_toArray, List.set_cons_zero, List.set_cons_succ]
        refine wpAnyH_ready (rs := [9]) (by kernel_rfl) (by simp) ?_
        refine AllReadyH.cons (o := { dst := none, op := Go.Op.store 25 (Go.Operand.tmp 9) (Go.Operand.tmp 36), type := 0, pos := "more.go:22", after := #[{ on := 7, ground := Go.Ground.data }, { on := 5, ground := Go.Ground.data }, { on := 8, ground := Go.Ground.chain }, { on := 0, ground := Go.Ground.phase }, { on := 1, ground := Go.Ground.phase }, { on := 2, ground := Go.Ground.phase }, { on := 3, ground := Go.Ground.phase }, { on := 4, ground := Go.Ground.phase }, { on := 5, ground := Go.Ground.phase }, { on := 6, ground := Go.Ground.phase }, { on := 7, ground := Go.Ground.phase }, { on := 8, ground := Go.Ground.phase }], guard := none }) rfl (fun K hK => ?_) AllReadyH.nil
        refine stepH_store (by rfl) (t := 25) (p := 9) (v := .tmp 36) rfl rfl (g := gb) (u := .agg #[.int .i64 4, .int .i64 0, .float .f64 0, .string ⟨#[]⟩, .slice (some ⟨gl, ol, none⟩) kk c]) (cs := #[.int .i64 4, .int .i64 0, .float .f64 0, .string ⟨#[]⟩, .slice (some ⟨gl, ol, none⟩) kk c]) rfl rfl KB.out rfl (by kernel_rfl) (by simp [Value.oneCell']) (by simp [Value.cells]) ?_
        intro w110 hk hs
        have HB := Aside0.mk (below_keep HB.out GB.out.1 hs)
        have K5 := Aside0.mk (hs.blk K5.out GB.out.2)
        have KB := Aside0.mk hk
        have KA := Aside0.mk (hs.blk KA.out (by (have := NE.out; omega)))
        clear hk hs
        refine hK.out _ _ trivial (fun _ => ?_)
        clear hK K
        try simp only [Act.put, List.setIfInBounds_toArray, List.set_cons_zero, List.set_cons_succ]
        refine wpAnyH_done (by kernel_rfl) ?_ _
        go_wp2_with (fail)
        go_meet
        case rel => exact ⟨ga, gb, rfl, rfl, GA.out.1, GB.out.1, by (have := NE.out; omega), KA.out, KB.out, K5.out, HB.out⟩
      exact AllReadyH.nil
    exact AllReadyH.nil
  case rest =>
    obtain ⟨ga, gb, rfl, rfl, ha_, hb_, hne, hka, hkb, hk5, hbw⟩ := hcut
    have KA' := Aside0.mk hka
    have KB' := Aside0.mk hkb
    have KA := Aside0.mk hka
    have KB := Aside0.mk hkb
    have K5' := Aside0.mk hk5
    have HBc := Aside0.mk hbw
    have HLc := Aside0.mk (HL.out.kept hbw)
    have HN0 := Aside0.mk (show 0 < n by omega)
    have HN64 := Aside0.mk (show n * 64 ≤ 140737488351232 by (have := HWB.out; omega))
    have GAB := Aside0.mk (And.intro ha_ (And.intro hb_ hne))
    clear ha_ hb_ hne hka hkb hk5 hbw
    clear K5 HB
    go_upto_region 11 with (first
      | (at_builtin; (with_reducible refine append_vals rfl (.const (.slice none 0 0)) (.tmp 37) rfl rfl (gl := gl) (ol := ol) (n := n) (c := c) rfl (l := l) HNL.out HN0.out HN64.out HLc.out ?_); intro gm cap w6 hcp hb; have HCP := Aside0.mk hcp; have HCB := Aside0.mk hb; have HB := Aside0.mk (below_step HBc.out hb); have KA := Aside0.mk (blk_below KA.out hb); have KB := Aside0.mk (blk_below KB.out hb); have K5 := Aside0.mk (blk_below K5'.out hb); have GM := Aside0.mk (show ga ≠ gm ∧ gb ≠ gm ∧ g5 ≠ gm ∧ W.heap.size ≤ gm by (have := hcp.hm; have := HBc.out.size; have := blk_lt KA'.out; have := blk_lt KB'.out; have := blk_lt K5'.out; omega)); clear hcp hb))
    have hkc : (kk : Int) < (n : Int) := by (have := HKN.out; omega)
    have hk0 : (0 : Int) ≤ (kk : Int) := by omega
    have p0 : w6.cell? ⟨g5, 0, none⟩ = some (.int .i64 kv) := blk_cell K5.out 0
    have p1 : w6.cell? ⟨g5, 1, none⟩ = some (.int .i64 iv) := blk_cell K5.out 1
    have p2 : w6.cell? ⟨g5, 2, none⟩ = some (.float .f64 fv) := blk_cell K5.out 2
    have p3 : w6.cell? ⟨g5, 3, none⟩ = some (.string sv) := blk_cell K5.out 3
    have p4 : w6.cell? ⟨g5, 4, none⟩ = some (.slice Av nv cv) := blk_cell K5.out 4
    obtain ⟨cur, hcur, hcs⟩ := HCP.out.cells
    have HCUR := Aside0.mk hcur
    have HCS := Aside0.mk hcs
    clear hcur hcs
    go_upto_region 13 with (first
      | ((with_reducible refine gate_store (t := 25) (p := 45) rfl ?_); refine put_at rfl (t := 25) (p := 45) (v := .tmp 44) rfl rfl (g := gm) (off := kk * 5) (u := .agg #[.int .i64 kv, .int .i64 iv, .float .f64 fv, .string sv, .slice Av nv cv]) (cs := #[.int .i64 kv, .int .i64 iv, .float .f64 fv, .string sv, .slice Av nv cv]) ?hp rfl HCUR.out ?hs (by kernel_rfl) (by simp [Value.oneCell']) (by simp [Value.cells]) ?_; (case hp => first | rfl | (go_simp; done) | (go_simp; rfl)); (case hs => (have := HCS.out; have := HCP.out.hc; have := HKN.out; simp; omega)); intro w7 cur' hk7 hsz hin hout hs; have HIN := Aside0.mk (And.intro hk7 (And.intro hsz (And.intro hin hout))); have HB := Aside0.mk (below_keep HB.out GM.out.2.2.2 hs); have KA := Aside0.mk (hs.blk KA.out GM.out.1); have KB := Aside0.mk (hs.blk KB.out GM.out.2.1); have K5 := Aside0.mk (hs.blk K5.out GM.out.2.2.1); have HB7 := Aside0.mk (below_keep HCB.out HCP.out.hm hs); clear hk7 hsz hin hout hs))
    clear p0 p1 p2 p3 p4
    have HLe := Aside0.mk (HL.out.kept HB.out)
    have HVe := Aside0.mk (HV.out.kept HB.out)
    have HM := Aside0.mk (HCP.out.set HNL.out HKN.out HN64.out HB7.out (HV.out.kept HBc.out) HCUR.out HIN.out.1 HIN.out.2.2.1 HIN.out.2.2.2)
    obtain ⟨ge, oe, ke, ie, fe, se, Ae, ne, ce, hge, _, _, hsub, q0, q1, q2, q3, q4⟩ := HLe.out.elem kk (by have := HNL.out; have := HKN.out; omega)
    simp only [Option.some.injEq, Addr.mk.injEq, and_true] at hge
    obtain ⟨rfl, rfl⟩ := hge
    obtain ⟨O, hO⟩ : ∃ O, order (l[kk]'(by have := HNL.out; have := HKN.out; omega)) v = O := ⟨_, rfl⟩
    have HSet := Aside0.mk (orders_set l kk v (by have := HNL.out; have := HKN.out; omega))
    rw [hO] at HSet
    generalize l[kk]'(by have := HNL.out; have := HKN.out; omega) = x at hsub hO
    have HO := Aside0.mk hO
    have HSub := Aside0.mk hsub
    clear hO hsub
    have p0 : w7.cell? ⟨g5, 0, none⟩ = some (.int .i64 kv) := blk_cell K5.out 0
    have p1 : w7.cell? ⟨g5, 1, none⟩ = some (.int .i64 iv) := blk_cell K5.out 1
    have p2 : w7.cell? ⟨g5, 2, none⟩ = some (.float .f64 fv) := blk_cell K5.out 2
    have p3 : w7.cell? ⟨g5, 3, none⟩ = some (.string sv) := blk_cell K5.out 3
    have p4 : w7.cell? ⟨g5, 4, none⟩ = some (.slice Av nv cv) := blk_cell K5.out 4
    go_still_tail 5, (by kernel_rfl)
    change wpList _ _ _ _ _ w7.drew
    have HSd := Aside0.mk (HSub.out.kept (Below.refl _ _).drew)
    have HVd := Aside0.mk (HVe.out.kept (Below.refl _ _).drew)
    have HBd := Aside0.mk HB.out.drew
    have HMd := Aside0.mk (HM.out.kept (Below.refl _ _).drew)
    have KAd := Aside0.mk (show w7.drew.heap[ga]? = _ from KA.out)
    have KBd := Aside0.mk (show w7.drew.heap[gb]? = _ from KB.out)
    clear p0 p1 p2 p3 p4 q0 q1 q2 q3 q4
    generalize w7.drew = w8 at HSd HVd HBd HMd KAd KBd ⊢
    have HRO := Aside0.mk (rorder21 x _ _ _ HSd.out v _ _ HVd.out)
    rw [HO.out] at HRO
    go_upto_region 14 with (first
      | (go_at_call 21; (with_reducible refine HRO.out.mono ?_); rintro e w9 ⟨rfl, hb⟩; have HB9 := Aside0.mk (below_step HBd.out hb); have HM9 := Aside0.mk (HMd.out.kept hb); have KA9 := Aside0.mk (blk_below KAd.out hb); have KB9 := Aside0.mk (blk_below KBd.out hb); clear hb))
    have HLI := Aside0.mk (list16 (some ⟨gm, 0, none⟩) n cap)
    have HOM := Aside0.mk (fun (w' : World) (h : Below w9.heap.size w9 w') => order11 HS.out (.mk 4 0 0 ⟨#[]⟩ l) w' _ _ (HL.out.kept (below_step HB9.out h)) (.mk 4 0 0 ⟨#[]⟩ (l.set kk v)) _ _ (HM9.out.kept h))
    rw [order_lists, HSet.out] at HOM
    have a0 : w9.cell? ⟨ga, 0, none⟩ = some (.int .i64 4) := blk_cell KA9.out 0
    have a1 : w9.cell? ⟨ga, 1, none⟩ = some (.int .i64 0) := blk_cell KA9.out 1
    have a2 : w9.cell? ⟨ga, 2, none⟩ = some (.float .f64 0) := blk_cell KA9.out 2
    have a3 : w9.cell? ⟨ga, 3, none⟩ = some (.string ⟨#[]⟩) := blk_cell KA9.out 3
    have a4 : w9.cell? ⟨ga, 4, none⟩ = some (.slice (some ⟨gl, ol, none⟩) n c) := blk_cell KA9.out 4
    go_region_held3 (fun w' => w'.cell? ⟨ga, 0, none⟩ = some (.int .i64 4) ∧ w'.cell? ⟨ga, 1, none⟩ = some (.int .i64 0) ∧ w'.cell? ⟨ga, 2, none⟩ = some (.float .f64 0) ∧ w'.cell? ⟨ga, 3, none⟩ = some (.string ⟨#[]⟩) ∧ w'.cell? ⟨ga, 4, none⟩ = some (.slice (some ⟨gl, ol, none⟩) n c)) (first | exact ⟨blk_cell (blk_below (w := w9.drew) KA9.out (below_step hb1 hb2)) 0, blk_cell (blk_below (w := w9.drew) KA9.out (below_step hb1 hb2)) 1, blk_cell (blk_below (w := w9.drew) KA9.out (below_step hb1 hb2)) 2, blk_cell (blk_below (w := w9.drew) KA9.out (below_step hb1 hb2)) 3, blk_cell (blk_below (w := w9.drew) KA9.out (below_step hb1 hb2)) 4⟩ | exact ⟨blk_cell (blk_below (w := w9.drew) KA9.out hb1) 0, blk_cell (blk_below (w := w9.drew) KA9.out hb1) 1, blk_cell (blk_below (w := w9.drew) KA9.out hb1) 2, blk_cell (blk_below (w := w9.drew) KA9.out hb1) 3, blk_cell (blk_below (w := w9.drew) KA9.out hb1) 4⟩ | exact ⟨a0, a1, a2, a3, a4⟩)
      (first
        | (go_at_call 11; (with_reducible refine (HOM.out _ (below_step (Below.refl _ _).drew hb1)).mono ?_); rintro e w11 ⟨rfl, hb2⟩)
        | (go_at_call 16; (with_reducible refine (HLI.out _).mono ?_); rintro e w10 ⟨rfl, hb1⟩))
    have HB11 := Aside0.mk (below_step (below_step HB9.out.drew hb1) hb2)
    have KA11 := Aside0.mk (blk_below (w := w9.drew) KA9.out (below_step hb1 hb2))
    have KB11 := Aside0.mk (blk_below (w := w9.drew) KB9.out (below_step hb1 hb2))
    (try clear hHeld)
    clear hb1 hb2 a0 a1 a2 a3 a4
    have HTK := Aside0.mk (HL.out.take kk (by have := HNL.out; have := HKN.out; omega))
    have HOBA := Aside0.mk (fun (w' : World) (h : Below W.heap.size W w') => order11 HS.out (.mk 4 0 0 ⟨#[]⟩ (l.take kk)) w' _ _ (HTK.out.kept h) (.mk 4 0 0 ⟨#[]⟩ l) _ _ (HL.out.kept h))
    rw [order_lists, orders_take l kk (by have := HNL.out; have := HKN.out; omega), if_pos (by have := HNL.out; have := HKN.out; omega)] at HOBA
    have HOAB := Aside0.mk (fun (w' : World) (h : Below W.heap.size W w') => order11 HS.out (.mk 4 0 0 ⟨#[]⟩ l) w' _ _ (HL.out.kept h) (.mk 4 0 0 ⟨#[]⟩ (l.take kk)) _ _ (HTK.out.kept h))
    rw [order_lists, orders_take2 l kk (by have := HNL.out; have := HKN.out; omega), if_pos (by have := HNL.out; have := HKN.out; omega)] at HOAB
    have hkc2 : (kk : Int) < (n : Int) := by (have := HKN.out; omega)
    have hkc3 : kk < n := HKN.out
    have a0 : w11.cell? ⟨ga, 0, none⟩ = some (.int .i64 4) := blk_cell KA11.out 0
    have a1 : w11.cell? ⟨ga, 1, none⟩ = some (.int .i64 0) := blk_cell KA11.out 1
    have a2 : w11.cell? ⟨ga, 2, none⟩ = some (.float .f64 0) := blk_cell KA11.out 2
    have a3 : w11.cell? ⟨ga, 3, none⟩ = some (.string ⟨#[]⟩) := blk_cell KA11.out 3
    have a4 : w11.cell? ⟨ga, 4, none⟩ = some (.slice (some ⟨gl, ol, none⟩) n c) := blk_cell KA11.out 4
    have b0 : w11.cell? ⟨gb, 0, none⟩ = some (.int .i64 4) := blk_cell KB11.out 0
    have b1 : w11.cell? ⟨gb, 1, none⟩ = some (.int .i64 0) := blk_cell KB11.out 1
    have b2 : w11.cell? ⟨gb, 2, none⟩ = some (.float .f64 0) := blk_cell KB11.out 2
    have b3 : w11.cell? ⟨gb, 3, none⟩ = some (.string ⟨#[]⟩) := blk_cell KB11.out 3
    have b4 : w11.cell? ⟨gb, 4, none⟩ = some (.slice (some ⟨gl, ol, none⟩) kk c) := blk_cell KB11.out 4
    go_wp2_with (first
      | (go_at_call 11; (with_reducible refine (HOBA.out _ HB11.out).mono ?_); rintro e w12 ⟨rfl, hb⟩; have HB12 := Aside0.mk (below_step HB11.out hb); have KA12 := Aside0.mk (blk_below KA11.out hb); have KB12 := Aside0.mk (blk_below KB11.out hb); clear hb a0 a1 a2 a3 a4 b0 b1 b2 b3 b4; have a0 : w12.cell? ⟨ga, 0, none⟩ = some (.int .i64 4) := blk_cell KA12.out 0; have a1 : w12.cell? ⟨ga, 1, none⟩ = some (.int .i64 0) := blk_cell KA12.out 1; have a2 : w12.cell? ⟨ga, 2, none⟩ = some (.float .f64 0) := blk_cell KA12.out 2; have a3 : w12.cell? ⟨ga, 3, none⟩ = some (.string ⟨#[]⟩) := blk_cell KA12.out 3; have a4 : w12.cell? ⟨ga, 4, none⟩ = some (.slice (some ⟨gl, ol, none⟩) n c) := blk_cell KA12.out 4; have b0 : w12.cell? ⟨gb, 0, none⟩ = some (.int .i64 4) := blk_cell KB12.out 0; have b1 : w12.cell? ⟨gb, 1, none⟩ = some (.int .i64 0) := blk_cell KB12.out 1; have b2 : w12.cell? ⟨gb, 2, none⟩ = some (.float .f64 0) := blk_cell KB12.out 2; have b3 : w12.cell? ⟨gb, 3, none⟩ = some (.string ⟨#[]⟩) := blk_cell KB12.out 3; have b4 : w12.cell? ⟨gb, 4, none⟩ = some (.slice (some ⟨gl, ol, none⟩) kk c) := blk_cell KB12.out 4)
      | (go_at_call 11; (with_reducible refine (HOAB.out _ HB12.out).mono ?_); rintro e w13 ⟨rfl, hb⟩; have HB13 := Aside0.mk (below_step HB12.out hb); clear hb))
    go_ret
    exact ⟨rfl, HB13.out⟩
end Go.Proofs.YtejfmghjmhiodaaGreatDoor.Vz
namespace Go.Proofs.YtejfmghjmhiodaaGreatDoor.Vz
open Go.RowKit Go.Proofs.YtejfmghjmhiodaaGreatDoorW.PrintWords
set_option linter.unusedVariables false
set_option linter.unusedSimpArgs false
attribute [local go_sem] store_float


def TwoE (W : World) (g5 : Nat) (A : Option Addr) (c : Nat) (xv : Array Value) (pa pb : Value) (wx : World) : Prop := ∃ ga gb, pa = .pointer (some ⟨ga, 0, none⟩) ∧ pb = .pointer (some ⟨gb, 0, none⟩) ∧ W.heap.size ≤ ga ∧ W.heap.size ≤ gb ∧ ga ≠ gb ∧ wx.heap[ga]? = some (.cells #[.int .i64 4, .int .i64 0, .float .f64 0, .string ⟨#[]⟩, .slice A 0 c] 25 (0, 0)) ∧ wx.heap[gb]? = some (.cells #[.int .i64 4, .int .i64 0, .float .f64 0, .string ⟨#[]⟩, .slice A 0 c] 25 (0, 0)) ∧ wx.heap[g5]? = some (.cells xv 25 (0, 0)) ∧ Below W.heap.size W wx
theorem append_none {ops : Array Oper} {rest : List Oper} {o : Oper} {a : Act} {Q : Exit → Act → World → Prop} {W : World} (hgd : o.guard = none) (s x : Operand) (ho : o.op = .call { callee := .builtin .append, args := #[s, x], argTypes := #[23, 23] }) (hs : a.eval s = .slice none 0 0)
    {A : Option Addr} {c : Nat} (hx : a.eval x = .slice A 0 c) (h : wpList Tryz.prog ops Q rest (a.put o.dst (.slice none 0 0)) W) : wpList Tryz.prog ops Q (o :: rest) a W := by
  obtain ⟨i0, hi, hzz⟩ := Option.map_eq_some_iff.1 info25
  refine wpList_plain hgd fun K hK => ?_
  have hr : (Builtin.append_ #[23, 23] o.type #[.slice none 0 0, .slice A 0 c]).run Tryz.prog W = .ok (.slice none 0 0) W := by
    cases A <;> simp [Builtin.append_, run_underlying Tryz.underlying23, sizeOf, typeInfo, hi, Builtin.lenOf, storeCells, Builtin.firstCells, loadCells, loadCellsFrom]
  unfold Oper.wp
  simp [execOp, ho, resolve, invoke, builtin, hs, hx, hr, Result.andThen]
  exact hK _ _ h

set_option maxHeartbeats 8000000 in
set_option maxRecDepth 100000 in
theorem lists6_0 (hS : CompareC) (W : World) (T : Tabs3 W) (A : Option Addr) (c : Nat) (u : Int) (hu : 0 ≤ u) (hu2 : u < 256) (v : Val) (xv : Array Value) (hl : RV W (fun _ => True) (.mk 4 0 0 ⟨#[]⟩ []) #[.int .i64 4, .int .i64 0, .float .f64 0, .string ⟨#[]⟩, .slice A 0 c]) (hv : RV W (fun _ => True) v xv) :
    Calls Tryz.prog 6 #[.slice A 0 c, .int .u8 u, .agg xv] W fun e w' => e = .returned (.bool true) ∧ Below W.heap.size W w' := by
  have HL := Aside0.mk hl
  have HV := Aside0.mk hv
  have HT := Aside0.mk T
  have HS := Aside0.mk hS
  have HNL := Aside0.mk (show ([] : List Val).length = 0 from rfl)
  obtain ⟨kv, iv, fv, sv, Av, nv, cv, rfl⟩ := hv.form
  clear hl hv T hS
  go_enter Tryz.func6, Tryz.ntmps6
  go_upto_region 5 with (first
    | ((with_reducible refine gate_dst (N := 5) rfl ?_); refine box_event ?hg (N := 5) ?hd (cs := #[.int .i64 kv, .int .i64 iv, .float .f64 fv, .string sv, .slice Av nv cv]) (t := 25) ?hr ?_; (case hd => rfl); (case hg => rfl); (case hr => first | (go_simp; done) | (go_simp; rfl)); intro g5 hg w1 hbox hb; have HB := Aside0.mk hb; have K5 := Aside0.mk hbox; have H5 := Aside0.mk (show W.heap.size ≤ g5 by omega); clear hg hbox hb)
    | (go_at_call 9; refine (known9 HS.out _ (HT.out.below HB.out)).mono ?_; rintro e w2 ⟨rfl, hb⟩; have HB := Aside0.mk (below_step HB.out hb); have K5 := Aside0.mk (blk_below K5.out hb); clear hb)
    | (go_at_call 20; (with_reducible refine (lights20b [] _ _ _ _ _ HNL.out (HL.out.kept HB.out)).mono ?_); rintro e w3 ⟨⟨b20, rfl⟩, hb⟩; have HB := Aside0.mk (below_step HB.out hb); have K5 := Aside0.mk (blk_below K5.out hb); clear hb; have p0 : w3.cell? ⟨g5, 0, none⟩ = some (.int .i64 kv) := blk_cell K5.out 0; have p1 : w3.cell? ⟨g5, 1, none⟩ = some (.int .i64 iv) := blk_cell K5.out 1; have p2 : w3.cell? ⟨g5, 2, none⟩ = some (.float .f64 fv) := blk_cell K5.out 2; have p3 : w3.cell? ⟨g5, 3, none⟩ = some (.string sv) := blk_cell K5.out 3; have p4 : w3.cell? ⟨g5, 4, none⟩ = some (.slice Av nv cv) := blk_cell K5.out 4; cases b20)
    | (go_at_call 10; (with_reducible refine (light15 v _ _ _ (HV.out.kept HB.out)).mono ?_); rintro e w4 ⟨⟨b10, rfl⟩, hb⟩; have HB := Aside0.mk (below_step HB.out hb); have K5 := Aside0.mk (blk_below K5.out hb); clear hb p0 p1 p2 p3 p4; cases b10))
  all_goals (try (go_ret; exact ⟨rfl, HB.out⟩))
  go_upto_region 8 with (fail)
  go_cut [8, 9] (fun pa pb wx => TwoE W g5 A c #[.int .i64 kv, .int .i64 iv, .float .f64 fv, .string sv, .slice Av nv cv] pa pb wx)
  case first =>
    refine wp_region_held_drew (S := fun _ => True) (by kernel_rfl) trivial (fun _ => ?_)
    have HB := Aside0.mk HB.out.drew
    have K5 := Aside0.mk (show w4.drew.heap[g5]? = _ from K5.out)
    generalize w4.drew = w4' at HB K5 ⊢
    refine wpAnyH_take (i := 0) (oi := { dst := some 31, op := Go.Op.move (Go.Operand.tmp 0), type := 23, pos := "more.go:22", after := #[], guard := none }) (v := ?_) rfl (by kernel_rfl) (by kernel_rfl) (by kernel_rfl) (fun _ _ _ h => h) (Or.inl ⟨by rfl, ?_⟩) trivial ?_
    rotate_left
    · first | (intro w hSw; (try dsimp only at hSw); go_simp; done) | (intro w hSw; (try dsimp only at hSw); go_simp; with_reducible rfl)
    try simp only [Act.put, List.setIfInBounds_toArray, List.set_cons_zero, List.set_cons_succ]
    refine wpAnyH_take (i := 2) (oi := { dst := some 33, op := Go.Op.move (Go.Operand.tmp 0), type := 23, pos := "more.go:22", after := #[], guard := none }) (v := ?_) rfl (by kernel_rfl) (by kernel_rfl) (by kernel_rfl) (fun _ _ _ h => h) (Or.inl ⟨by rfl, ?_⟩) trivial ?_
    rotate_left
    · first | (intro w hSw; (try dsimp only at hSw); go_simp; done) | (intro w hSw; (try dsimp only at hSw); go_simp; with_reducible rfl)
    try simp only [Act.put, List.setIfInBounds_toArray, List.set_cons_zero, List.set_cons_succ]
    refine wpAnyH_take (i := 3) (oi := { dst := some 34, op := Go.Op.move (Go.Operand.tmp 7), type := 3, pos := "more.go:22", after := #[], guard := none }) (v := ?_) rfl (by kernel_rfl) (by kernel_rfl) (by kernel_rfl) (fun _ _ _ h => h) (Or.inl ⟨by rfl, ?_⟩) trivial ?_
    rotate_left
    · first | (intro w hSw; (try dsimp only at hSw); go_simp; done) | (intro w hSw; (try dsimp only at hSw); go_simp; with_reducible rfl)
    try simp only [Act.put, List.setIfInBounds_toArray, List.set_cons_zero, List.set_cons_succ]
    refine wpAnyH_take (i := 4) (oi := { dst := some 35, op := Go.Op.slice 23 (Go.Operand.tmp 33) none (some (Go.Operand.tmp 34)) none, type := 23, pos := "more.go:22", after := #[{ on := 2, ground := Go.Ground.data }, { on := 3, ground := Go.Ground.data }], guard := none }) (v := ?_) rfl (by kernel_rfl) (by kernel_rfl) (by kernel_rfl) (fun _ _ _ h => h) (Or.inl ⟨by rfl, ?_⟩) trivial ?_
    rotate_left
    · first | (intro w hSw; (try dsimp only at hSw); go_simp; done) | (intro w hSw; (try dsimp only at hSw); go_simp; with_reducible rfl)
    try simp only [Act.put, List.setIfInBounds_toArray, List.set_cons_zero, List.set_cons_succ]
    refine wpAnyH_ready (rs := [1, 6, 7]) (by kernel_rfl) (by simp) ?_
    refine AllReadyH.cons (o := { dst := some 32, op := Go.Op.call { callee := Go.Callee.value (Go.Operand.func 16), args := #[Go.Operand.tmp 31], argTypes := #[23] }, type := 25, pos := "more.go:22", after := #[{ on := 0, ground := Go.Ground.data }], guard := none }) rfl (fun K hK => ?_) ?_
    · go_simp
      (with_reducible refine (list16 _ _ _ _).mono ?_)
      rintro e w105 ⟨rfl, hb⟩
      have HB := Aside0.mk (below_step HB.out hb)
      have K5 := Aside0.mk (blk_below K5.out hb)
      (try have KA := Aside0.mk (blk_below KA.out hb))
      (try have KB := Aside0.mk (blk_below KB.out hb))
      clear hb
      refine hK.out _ _ trivial (fun _ => ?_)
      clear hK K
      try simp only [Act.put, List.setIfInBounds_toArray, List.set_cons_zero, List.set_cons_succ]
      refine wpAnyH_ready (rs := [5, 6, 7]) (by kernel_rfl) (by simp) ?_
      refine AllReadyH.cons (o := { dst := some 36, op := Go.Op.call { callee := Go.Callee.value (Go.Operand.func 16), args := #[Go.Operand.tmp 35], argTypes := #[23] }, type := 25, pos := "more.go:22", after := #[{ on := 4, ground := Go.Ground.data }, { on := 1, ground := Go.Ground.chain }], guard := none }) rfl (fun K hK => ?_) ?_
      · go_simp
        (with_reducible refine (list16 _ _ _ _).mono ?_)
        rintro e w106 ⟨rfl, hb⟩
        have HB := Aside0.mk (below_step HB.out hb)
        have K5 := Aside0.mk (blk_below K5.out hb)
        (try have KA := Aside0.mk (blk_below KA.out hb))
        (try have KB := Aside0.mk (blk_below KB.out hb))
        clear hb
        refine hK.out _ _ trivial (fun _ => ?_)
        clear hK K
        try simp only [Act.put, List.setIfInBounds_toArray, List.set_cons_zero, List.set_cons_succ]
        refine wpAnyH_ready (rs := [6, 7]) (by kernel_rfl) (by simp) ?_
        refine AllReadyH.cons (o := { dst := some 8, op := Go.Op.alloc 25, type := 0, pos := "more.go:22", after := #[], guard := none }) rfl (fun K hK => ?_) ?_
        · refine stepH_alloc (by rfl) (cs := #[.int .i64 0, .int .i64 0, .float .f64 0, .string ⟨#[]⟩, .slice none 0 0]) (t := 25) (by first | (go_simp; done) | (go_simp; rfl)) ?_
          intro ga hg w107 hbox hb
          have GA := Aside0.mk (show W.heap.size ≤ ga ∧ g5 ≠ ga by (have := HB.out.size; have h5_ := blk_lt K5.out; omega))
          (try have NE := Aside0.mk (show ga ≠ gb by (have := blk_lt KB.out; omega)))
          (try have KB := Aside0.mk (blk_below KB.out hb))
          have HB := Aside0.mk (below_step HB.out hb)
          have K5 := Aside0.mk (blk_below K5.out hb)
          have KA := Aside0.mk hbox
          clear hg hbox hb
          refine hK.out _ _ trivial (fun _ => ?_)
          clear hK K
          try simp only [Act.put, List.setIfInBounds_toArray, List.set_cons_zero, List.set_cons_succ]
          refine wpAnyH_ready (rs := [7]) (by kernel_rfl) (by simp) ?_
          refine AllReadyH.cons (o := { dst := some 9, op := Go.Op.alloc 25, type := 0, pos := "more.go:22", after := #[], guard := none }) rfl (fun K hK => ?_) AllReadyH.nil
          refine stepH_alloc (by rfl) (cs := #[.int .i64 0, .int .i64 0, .float .f64 0, .string ⟨#[]⟩, .slice none 0 0]) (t := 25) (by first | (go_simp; done) | (go_simp; rfl)) ?_
          intro gb hg w108 hbox hb
          have GB := Aside0.mk (show W.heap.size ≤ gb ∧ g5 ≠ gb by (have := HB.out.size; have h5_ := blk_lt K5.out; omega))
          (try have NE := Aside0.mk (show gb ≠ ga by (have := blk_lt KA.out; omega)))
          (try have KA := Aside0.mk (blk_below KA.out hb))
          have HB := Aside0.mk (below_step HB.out hb)
          have K5 := Aside0.mk (blk_below K5.out hb)
          have KB := Aside0.mk hbox
          clear hg hbox hb
          refine hK.out _ _ trivial (fun _ => ?_)
          clear hK K
          try simp only [Act.put, List.setIfInBounds_toArray, List.set_cons_zero, List.set_cons_succ]
          refine wpAnyH_ready (rs := [8]) (by kernel_rfl) (by simp) ?_
          refine AllReadyH.cons (o := { dst := none, op := Go.Op.store 25 (Go.Operand.tmp 8) (Go.Operand.tmp 32), type := 0, pos := "more.go:22", after := #[{ on := 6, ground := Go.Ground.data }, { on := 1, ground := Go.Ground.data }, { on := 5, ground := Go.Ground.chain }, { on := 0, ground := Go.Ground.phase }, { on := 1, ground := Go.Ground.phase }, { on := 2, ground := Go.Ground.textOnly Go.Departure.lateStores }, { on := 3, ground := Go.Ground.textOnly Go.Departure.lateStores }, { on := 4, ground := Go.Ground.textOnly Go.Departure.lateStoresUnsure }, { on := 5, ground := Go.Ground.textOnly Go.Departure.lateStoresUnsure }, { on := 6, ground := Go.Ground.phase }, { on := 7, ground := Go.Ground.phase }], guard := none }) rfl (fun K hK => ?_) AllReadyH.nil
          refine stepH_store (by rfl) (t := 25) (p := 8) (v := .tmp 32) rfl rfl (g := ga) (u := .agg #[.int .i64 4, .int .i64 0, .float .f64 0, .string ⟨#[]⟩, .slice A 0 c]) (cs := #[.int .i64 4, .int .i64 0, .float .f64 0, .string ⟨#[]⟩, .slice A 0 c]) rfl rfl KA.out rfl (by kernel_rfl) (by simp [Value.oneCell']) (by simp [Value.cells]) ?_
          intro w109 hk hs
          have HB := Aside0.mk (below_keep HB.out GA.out.1 hs)
          have K5 := Aside0.mk (hs.blk K5.out GA.out.2)
          have KA := Aside0.mk hk
          have KB := Aside0.mk (hs.blk KB.out (by (have := NE.out; omega)))
          clear hk hs
          refine hK.out _ _ trivial (fun _ => ?_)
          clear hK K
          try simp only [Act.put, List.setIfInBounds_toArray, List.set_cons_zero, List.set_cons_succ]
          refine wpAnyH_ready (rs := [9]) (by kernel_rfl) (by simp) ?_
          refine AllReadyH.cons (o := { dst := none, op := Go.Op.store 25 (Go.Operand.tmp 9) (Go.Operand.tmp 36), type := 0, pos := "more.go:22", after := #[{ on := 7, ground := Go.Ground.data }, { on := 5, ground := Go.Ground.data }, { on := 8, ground := Go.Ground.chain }, { on := 0, ground := Go.Ground.phase }, { on := 1, ground := Go.Ground.phase }, { on := 2, ground := Go.Ground.phase }, { on := 3, ground := Go.Ground.phase }, { on := 4, ground := Go.Ground.phase }, { on := 5, ground := Go.Ground.phase }, { on := 6, ground := Go.Ground.phase }, { on := 7, ground := Go.Ground.phase }, { on := 8, ground := Go.Ground.phase }], guard := none }) rfl (fun K hK => ?_) AllReadyH.nil
          refine stepH_store (by rfl) (t := 25) (p := 9) (v := .tmp 36) rfl rfl (g := gb) (u := .agg #[.int .i64 4, .int .i64 0, .float .f64 0, .string ⟨#[]⟩, .slice A 0 c]) (cs := #[.int .i64 4, .int .i64 0, .float .f64 0, .string ⟨#[]⟩, .slice A 0 c]) rfl rfl KB.out rfl (by kernel_rfl) (by simp [Value.oneCell']) (by simp [Value.cells]) ?_
          intro w110 hk hs
          have HB := Aside0.mk (below_keep HB.out GB.out.1 hs)
          have K5 := Aside0.mk (hs.blk K5.out GB.out.2)
          have KB := Aside0.mk hk
          have KA := Aside0.mk (hs.blk KA.out (by (have := NE.out; omega)))
          clear hk hs
          refine hK.out _ _ trivial (fun _ => ?_)
          clear hK K
          try simp only [Act.put, List.setIfInBounds_toArray, List.set_cons_zero, List.set_cons_succ]
          refine wpAnyH_done (by kernel_rfl) ?_ _
          go_wp2_with (fail)
          go_meet
          case rel => exact ⟨ga, gb, rfl, rfl, GA.out.1, GB.out.1, by (have := NE.out; omega), KA.out, KB.out, K5.out, HB.out⟩
        refine AllReadyH.cons (o := { dst := some 9, op := Go.Op.alloc 25, type := 0, pos := "more.go:22", after := #[], guard := none }) rfl (fun K hK => ?_) ?_
        · refine stepH_alloc (by rfl) (cs := #[.int .i64 0, .int .i64 0, .float .f64 0, .string ⟨#[]⟩, .slice none 0 0]) (t := 25) (by first | (go_simp; done) | (go_simp; rfl)) ?_
          intro gb hg w107 hbox hb
          have GB := Aside0.mk (show W.heap.size ≤ gb ∧ g5 ≠ gb by (have := HB.out.size; have h5_ := blk_lt K5.out; omega))
          (try have NE := Aside0.mk (show gb ≠ ga by (have := blk_lt KA.out; omega)))
          (try have KA := Aside0.mk (blk_below KA.out hb))
          have HB := Aside0.mk (below_step HB.out hb)
          have K5 := Aside0.mk (blk_below K5.out hb)
          have KB := Aside0.mk hbox
          clear hg hbox hb
          refine hK.out _ _ trivial (fun _ => ?_)
          clear hK K
          try simp only [Act.put, List.setIfInBounds_toArray, List.set_cons_zero, List.set_cons_succ]
          refine wpAnyH_ready (rs := [6]) (by kernel_rfl) (by simp) ?_
          refine AllReadyH.cons (o := { dst := some 8, op := Go.Op.alloc 25, type := 0, pos := "more.go:22", after := #[], guard := none }) rfl (fun K hK => ?_) AllReadyH.nil
          refine stepH_alloc (by rfl) (cs := #[.int .i64 0, .int .i64 0, .float .f64 0, .string ⟨#[]⟩, .slice none 0 0]) (t := 25) (by first | (go_simp; done) | (go_simp; rfl)) ?_
          intro ga hg w108 hbox hb
          have GA := Aside0.mk (show W.heap.size ≤ ga ∧ g5 ≠ ga by (have := HB.out.size; have h5_ := blk_lt K5.out; omega))
          (try have NE := Aside0.mk (show ga ≠ gb by (have := blk_lt KB.out; omega)))
          (try have KB := Aside0.mk (blk_below KB.out hb))
          have HB := Aside0.mk (below_step HB.out hb)
          have K5 := Aside0.mk (blk_below K5.out hb)
          have KA := Aside0.mk hbox
          clear hg hbox hb
          refine hK.out _ _ trivial (fun _ => ?_)
          clear hK K
          try simp only [Act.put, List.setIfInBounds_toArray, List.set_cons_zero, List.set_cons_succ]
          refine wpAnyH_ready (rs := [8]) (by kernel_rfl) (by simp) ?_
          refine AllReadyH.cons (o := { dst := none, op := Go.Op.store 25 (Go.Operand.tmp 8) (Go.Operand.tmp 32), type := 0, pos := "more.go:22", after := #[{ on := 6, ground := Go.Ground.data }, { on := 1, ground := Go.Ground.data }, { on := 5, ground := Go.Ground.chain }, { on := 0, ground := Go.Ground.phase }, { on := 1, ground := Go.Ground.phase }, { on := 2, ground := Go.Ground.textOnly Go.Departure.lateStores }, { on := 3, ground := Go.Ground.textOnly Go.Departure.lateStores }, { on := 4, ground := Go.Ground.textOnly Go.Departure.lateStoresUnsure }, { on := 5, ground := Go.Ground.textOnly Go.Departure.lateStoresUnsure }, { on := 6, ground := Go.Ground.phase }, { on := 7, ground := Go.Ground.phase }], guard := none }) rfl (fun K hK => ?_) AllReadyH.nil
          refine stepH_store (by rfl) (t := 25) (p := 8) (v := .tmp 32) rfl rfl (g := ga) (u := .agg #[.int .i64 4, .int .i64 0, .float .f64 0, .string ⟨#[]⟩, .slice A 0 c]) (cs := #[.int .i64 4, .int .i64 0, .float .f64 0, .string ⟨#[]⟩, .slice A 0 c]) rfl rfl KA.out rfl (by kernel_rfl) (by simp [Value.oneCell']) (by simp [Value.cells]) ?_
          intro w109 hk hs
          have HB := Aside0.mk (below_keep HB.out GA.out.1 hs)
          have K5 := Aside0.mk (hs.blk K5.out GA.out.2)
          have KA := Aside0.mk hk
          have KB := Aside0.mk (hs.blk KB.out (by (have := NE.out; omega)))
          clear hk hs
          refine hK.out _ _ trivial (fun _ => ?_)
          clear hK K
          try simp only [Act.put, List.setIfInBounds_toArray, List.set_cons_zero, List.set_cons_succ]
          refine wpAnyH_ready (rs := [9]) (by kernel_rfl) (by simp) ?_
          refine AllReadyH.cons (o := { dst := none, op := Go.Op.store 25 (Go.Operand.tmp 9) (Go.Operand.tmp 36), type := 0, pos := "more.go:22", after := #[{ on := 7, ground := Go.Ground.data }, { on := 5, ground := Go.Ground.data }, { on := 8, ground := Go.Ground.chain }, { on := 0, ground := Go.Ground.phase }, { on := 1, ground := Go.Ground.phase }, { on := 2, ground := Go.Ground.phase }, { on := 3, ground := Go.Ground.phase }, { on := 4, ground := Go.Ground.phase }, { on := 5, ground := Go.Ground.phase }, { on := 6, ground := Go.Ground.phase }, { on := 7, ground := Go.Ground.phase }, { on := 8, ground := Go.Ground.phase }], guard := none }) rfl (fun K hK => ?_) AllReadyH.nil
          refine stepH_store (by rfl) (t := 25) (p := 9) (v := .tmp 36) rfl rfl (g := gb) (u := .agg #[.int .i64 4, .int .i64 0, .float .f64 0, .string ⟨#[]⟩, .slice A 0 c]) (cs := #[.int .i64 4, .int .i64 0, .float .f64 0, .string ⟨#[]⟩, .slice A 0 c]) rfl rfl KB.out rfl (by kernel_rfl) (by simp [Value.oneCell']) (by simp [Value.cells]) ?_
          intro w110 hk hs
          have HB := Aside0.mk (below_keep HB.out GB.out.1 hs)
          have K5 := Aside0.mk (hs.blk K5.out GB.out.2)
          have KB := Aside0.mk hk
          have KA := Aside0.mk (hs.blk KA.out (by (have := NE.out; omega)))
          clear hk hs
          refine hK.out _ _ trivial (fun _ => ?_)
          clear hK K
          try simp only [Act.put, List.setIfInBounds_toArray, List.set_cons_zero, List.set_cons_succ]
          refine wpAnyH_done (by kernel_rfl) ?_ _
          go_wp2_with (fail)
          go_meet
          case rel => exact ⟨ga, gb, rfl, rfl, GA.out.1, GB.out.1, by (have := NE.out; omega), KA.out, KB.out, K5.out, HB.out⟩
        exact AllReadyH.nil
      refine AllReadyH.cons (o := { dst := some 8, op := Go.Op.alloc 25, type := 0, pos := "more.go:22", after := #[], guard := none }) rfl (fun K hK => ?_) ?_
      · refine stepH_alloc (by rfl) (cs := #[.int .i64 0, .int .i64 0, .float .f64 0, .string ⟨#[]⟩, .slice none 0 0]) (t := 25) (by first | (go_simp; done) | (go_simp; rfl)) ?_
        intro ga hg w106 hbox hb
        have GA := Aside0.mk (show W.heap.size ≤ ga ∧ g5 ≠ ga by (have := HB.out.size; have h5_ := blk_lt K5.out; omega))
        (try have NE := Aside0.mk (show ga ≠ gb by (have := blk_lt KB.out; omega)))
        (try have KB := Aside0.mk (blk_below KB.out hb))
        have HB := Aside0.mk (below_step HB.out hb)
        have K5 := Aside0.mk (blk_below K5.out hb)
        have KA := Aside0.mk hbox
        clear hg hbox hb
        refine hK.out _ _ trivial (fun _ => ?_)
        clear hK K
        try simp only [Act.put, List.setIfInBounds_toArray, List.set_cons_zero, List.set_cons_succ]
        refine wpAnyH_ready (rs := [5, 7]) (by kernel_rfl) (by simp) ?_
        refine AllReadyH.cons (o := { dst := some 36, op := Go.Op.call { callee := Go.Callee.value (Go.Operand.func 16), args := #[Go.Operand.tmp 35], argTypes := #[23] }, type := 25, pos := "more.go:22", after := #[{ on := 4, ground := Go.Ground.data }, { on := 1, ground := Go.Ground.chain }], guard := none }) rfl (fun K hK => ?_) ?_
        · go_simp
          (with_reducible refine (list16 _ _ _ _).mono ?_)
          rintro e w107 ⟨rfl, hb⟩
          have HB := Aside0.mk (below_step HB.out hb)
          have K5 := Aside0.mk (blk_below K5.out hb)
          (try have KA := Aside0.mk (blk_below KA.out hb))
          (try have KB := Aside0.mk (blk_below KB.out hb))
          clear hb
          refine hK.out _ _ trivial (fun _ => ?_)
          clear hK K
          try simp only [Act.put, List.setIfInBounds_toArray, List.set_cons_zero, List.set_cons_succ]
          refine wpAnyH_ready (rs := [7]) (by kernel_rfl) (by simp) ?_
          refine AllReadyH.cons (o := { dst := some 9, op := Go.Op.alloc 25, type := 0, pos := "more.go:22", after := #[], guard := none }) rfl (fun K hK => ?_) AllReadyH.nil
          refine stepH_alloc (by rfl) (cs := #[.int .i64 0, .int .i64 0, .float .f64 0, .string ⟨#[]⟩, .slice none 0 0]) (t := 25) (by first | (go_simp; done) | (go_simp; rfl)) ?_
          intro gb hg w108 hbox hb
          have GB := Aside0.mk (show W.heap.size ≤ gb ∧ g5 ≠ gb by (have := HB.out.size; have h5_ := blk_lt K5.out; omega))
          (try have NE := Aside0.mk (show gb ≠ ga by (have := blk_lt KA.out; omega)))
          (try have KA := Aside0.mk (blk_below KA.out hb))
          have HB := Aside0.mk (below_step HB.out hb)
          have K5 := Aside0.mk (blk_below K5.out hb)
          have KB := Aside0.mk hbox
          clear hg hbox hb
          refine hK.out _ _ trivial (fun _ => ?_)
          clear hK K
          try simp only [Act.put, List.setIfInBounds_toArray, List.set_cons_zero, List.set_cons_succ]
          refine wpAnyH_ready (rs := [8]) (by kernel_rfl) (by simp) ?_
          refine AllReadyH.cons (o := { dst := none, op := Go.Op.store 25 (Go.Operand.tmp 8) (Go.Operand.tmp 32), type := 0, pos := "more.go:22", after := #[{ on := 6, ground := Go.Ground.data }, { on := 1, ground := Go.Ground.data }, { on := 5, ground := Go.Ground.chain }, { on := 0, ground := Go.Ground.phase }, { on := 1, ground := Go.Ground.phase }, { on := 2, ground := Go.Ground.textOnly Go.Departure.lateStores }, { on := 3, ground := Go.Ground.textOnly Go.Departure.lateStores }, { on := 4, ground := Go.Ground.textOnly Go.Departure.lateStoresUnsure }, { on := 5, ground := Go.Ground.textOnly Go.Departure.lateStoresUnsure }, { on := 6, ground := Go.Ground.phase }, { on := 7, ground := Go.Ground.phase }], guard := none }) rfl (fun K hK => ?_) AllReadyH.nil
          refine stepH_store (by rfl) (t := 25) (p := 8) (v := .tmp 32) rfl rfl (g := ga) (u := .agg #[.int .i64 4, .int .i64 0, .float .f64 0, .string ⟨#[]⟩, .slice A 0 c]) (cs := #[.int .i64 4, .int .i64 0, .float .f64 0, .string ⟨#[]⟩, .slice A 0 c]) rfl rfl KA.out rfl (by kernel_rfl) (by simp [Value.oneCell']) (by simp [Value.cells]) ?_
          intro w109 hk hs
          have HB := Aside0.mk (below_keep HB.out GA.out.1 hs)
          have K5 := Aside0.mk (hs.blk K5.out GA.out.2)
          have KA := Aside0.mk hk
          have KB := Aside0.mk (hs.blk KB.out (by (have := NE.out; omega)))
          clear hk hs
          refine hK.out _ _ trivial (fun _ => ?_)
          clear hK K
          try simp only [Act.put, List.setIfInBounds_toArray, List.set_cons_zero, List.set_cons_succ]
          refine wpAnyH_ready (rs := [9]) (by kernel_rfl) (by simp) ?_
          refine AllReadyH.cons (o := { dst := none, op := Go.Op.store 25 (Go.Operand.tmp 9) (Go.Operand.tmp 36), type := 0, pos := "more.go:22", after := #[{ on := 7, ground := Go.Ground.data }, { on := 5, ground := Go.Ground.data }, { on := 8, ground := Go.Ground.chain }, { on := 0, ground := Go.Ground.phase }, { on := 1, ground := Go.Ground.phase }, { on := 2, ground := Go.Ground.phase }, { on := 3, ground := Go.Ground.phase }, { on := 4, ground := Go.Ground.phase }, { on := 5, ground := Go.Ground.phase }, { on := 6, ground := Go.Ground.phase }, { on := 7, ground := Go.Ground.phase }, { on := 8, ground := Go.Ground.phase }], guard := none }) rfl (fun K hK => ?_) AllReadyH.nil
          refine stepH_store (by rfl) (t := 25) (p := 9) (v := .tmp 36) rfl rfl (g := gb) (u := .agg #[.int .i64 4, .int .i64 0, .float .f64 0, .string ⟨#[]⟩, .slice A 0 c]) (cs := #[.int .i64 4, .int .i64 0, .float .f64 0, .string ⟨#[]⟩, .slice A 0 c]) rfl rfl KB.out rfl (by kernel_rfl) (by simp [Value.oneCell']) (by simp [Value.cells]) ?_
          intro w110 hk hs
          have HB := Aside0.mk (below_keep HB.out GB.out.1 hs)
          have K5 := Aside0.mk (hs.blk K5.out GB.out.2)
          have KB := Aside0.mk hk
          have KA := Aside0.mk (hs.blk KA.out (by (have := NE.out; omega)))
          clear hk hs
          refine hK.out _ _ trivial (fun _ => ?_)
          clear hK K
          try simp only [Act.put, List.setIfInBounds_toArray, List.set_cons_zero, List.set_cons_succ]
          refine wpAnyH_done (by kernel_rfl) ?_ _
          go_wp2_with (fail)
          go_meet
          case rel => exact ⟨ga, gb, rfl, rfl, GA.out.1, GB.out.1, by (have := NE.out; omega), KA.out, KB.out, K5.out, HB.out⟩
        refine AllReadyH.cons (o := { dst := some 9, op := Go.Op.alloc 25, type := 0, pos := "more.go:22", after := #[], guard := none }) rfl (fun K hK => ?_) ?_
        · refine stepH_alloc (by rfl) (cs := #[.int .i64 0, .int .i64 0, .float .f64 0, .string ⟨#[]⟩, .slice none 0 0]) (t := 25) (by first | (go_simp; done) | (go_simp; rfl)) ?_
          intro gb hg w107 hbox hb
          have GB := Aside0.mk (show W.heap.size ≤ gb ∧ g5 ≠ gb by (have := HB.out.size; have h5_ := blk_lt K5.out; omega))
          (try have NE := Aside0.mk (show gb ≠ ga by (have := blk_lt KA.out; omega)))
          (try have KA := Aside0.mk (blk_below KA.out hb))
          have HB := Aside0.mk (below_step HB.out hb)
          have K5 := Aside0.mk (blk_below K5.out hb)
          have KB := Aside0.mk hbox
          clear hg hbox hb
          refine hK.out _ _ trivial (fun _ => ?_)
          clear hK K
          try simp only [Act.put, List.setIfInBounds_toArray, List.set_cons_zero, List.set_cons_succ]
          refine wpAnyH_ready (rs := [5]) (by kernel_rfl) (by simp) ?_
          refine AllReadyH.cons (o := { dst := some 36, op := Go.Op.call { callee := Go.Callee.value (Go.Operand.func 16), args := #[Go.Operand.tmp 35], argTypes := #[23] }, type := 25, pos := "more.go:22", after := #[{ on := 4, ground := Go.Ground.data }, { on := 1, ground := Go.Ground.chain }], guard := none }) rfl (fun K hK => ?_) AllReadyH.nil
          go_simp
          (with_reducible refine (list16 _ _ _ _).mono ?_)
          rintro e w108 ⟨rfl, hb⟩
          have HB := Aside0.mk (below_step HB.out hb)
          have K5 := Aside0.mk (blk_below K5.out hb)
          (try have KA := Aside0.mk (blk_below KA.out hb))
          (try have KB := Aside0.mk (blk_below KB.out hb))
          clear hb
          refine hK.out _ _ trivial (fun _ => ?_)
          clear hK K
          try simp only [Act.put, List.setIfInBounds_toArray, List.set_cons_zero, List.set_cons_succ]
          refine wpAnyH_ready (rs := [8]) (by kernel_rfl) (by simp) ?_
          refine AllReadyH.cons (o := { dst := none, op := Go.Op.store 25 (Go.Operand.tmp 8) (Go.Operand.tmp 32), type := 0, pos := "more.go:22", after := #[{ on := 6, ground := Go.Ground.data }, { on := 1, ground := Go.Ground.data }, { on := 5, ground := Go.Ground.chain }, { on := 0, ground := Go.Ground.phase }, { on := 1, ground := Go.Ground.phase }, { on := 2, ground := Go.Ground.textOnly Go.Departure.lateStores }, { on := 3, ground := Go.Ground.textOnly Go.Departure.lateStores }, { on := 4, ground := Go.Ground.textOnly Go.Departure.lateStoresUnsure }, { on := 5, ground := Go.Ground.textOnly Go.Departure.lateStoresUnsure }, { on := 6, ground := Go.Ground.phase }, { on := 7, ground := Go.Ground.phase }], guard := none }) rfl (fun K hK => ?_) AllReadyH.nil
          refine stepH_store (by rfl) (t := 25) (p := 8) (v := .tmp 32) rfl rfl (g := ga) (u := .agg #[.int .i64 4, .int .i64 0, .float .f64 0, .string ⟨#[]⟩, .slice A 0 c]) (cs := #[.int .i64 4, .int .i64 0, .float .f64 0, .string ⟨#[]⟩, .slice A 0 c]) rfl rfl KA.out rfl (by kernel_rfl) (by simp [Value.oneCell']) (by simp [Value.cells]) ?_
          intro w109 hk hs
          have HB := Aside0.mk (below_keep HB.out GA.out.1 hs)
          have K5 := Aside0.mk (hs.blk K5.out GA.out.2)
          have KA := Aside0.mk hk
          have KB := Aside0.mk (hs.blk KB.out (by (have := NE.out; omega)))
          clear hk hs
          refine hK.out _ _ trivial (fun _ => ?_)
          clear hK K
          try simp only [Act.put, List.setIfInBounds_toArray, List.set_cons_zero, List.set_cons_succ]
          refine wpAnyH_ready (rs := [9]) (by kernel_rfl) (by simp) ?_
          refine AllReadyH.cons (o := { dst := none, op := Go.Op.store 25 (Go.Operand.tmp 9) (Go.Operand.tmp 36), type := 0, pos := "more.go:22", after := #[{ on := 7, ground := Go.Ground.data }, { on := 5, ground := Go.Ground.data }, { on := 8, ground := Go.Ground.chain }, { on := 0, ground := Go.Ground.phase }, { on := 1, ground := Go.Ground.phase }, { on := 2, ground := Go.Ground.phase }, { on := 3, ground := Go.Ground.phase }, { on := 4, ground := Go.Ground.phase }, { on := 5, ground := Go.Ground.phase }, { on := 6, ground := Go.Ground.phase }, { on := 7, ground := Go.Ground.phase }, { on := 8, ground := Go.Ground.phase }], guard := none }) rfl (fun K hK => ?_) AllReadyH.nil
          refine stepH_store (by rfl) (t := 25) (p := 9) (v := .tmp 36) rfl rfl (g := gb) (u := .agg #[.int .i64 4, .int .i64 0, .float .f64 0, .string ⟨#[]⟩, .slice A 0 c]) (cs := #[.int .i64 4, .int .i64 0, .float .f64 0, .string ⟨#[]⟩, .slice A 0 c]) rfl rfl KB.out rfl (by kernel_rfl) (by simp [Value.oneCell']) (by simp [Value.cells]) ?_
          intro w110 hk hs
          have HB := Aside0.mk (below_keep HB.out GB.out.1 hs)
          have K5 := Aside0.mk (hs.blk K5.out GB.out.2)
          have KB := Aside0.mk hk
          have KA := Aside0.mk (hs.blk KA.out (by (have := NE.out; omega)))
          clear hk hs
          refine hK.out _ _ trivial (fun _ => ?_)
          clear hK K
          try simp only [Act.put, List.setIfInBounds_toArray, List.set_cons_zero, List.set_cons_succ]
          refine wpAnyH_done (by kernel_rfl) ?_ _
          go_wp2_with (fail)
          go_meet
          case rel => exact ⟨ga, gb, rfl, rfl, GA.out.1, GB.out.1, by (have := NE.out; omega), KA.out, KB.out, K5.out, HB.out⟩
        exact AllReadyH.nil
      refine AllReadyH.cons (o := { dst := some 9, op := Go.Op.alloc 25, type := 0, pos := "more.go:22", after := #[], guard := none }) rfl (fun K hK => ?_) ?_
      · refine stepH_alloc (by rfl) (cs := #[.int .i64 0, .int .i64 0, .float .f64 0, .string ⟨#[]⟩, .slice none 0 0]) (t := 25) (by first | (go_simp; done) | (go_simp; rfl)) ?_
        intro gb hg w106 hbox hb
        have GB := Aside0.mk (show W.heap.size ≤ gb ∧ g5 ≠ gb by (have := HB.out.size; have h5_ := blk_lt K5.out; omega))
        (try have NE := Aside0.mk (show gb ≠ ga by (have := blk_lt KA.out; omega)))
        (try have KA := Aside0.mk (blk_below KA.out hb))
        have HB := Aside0.mk (below_step HB.out hb)
        have K5 := Aside0.mk (blk_below K5.out hb)
        have KB := Aside0.mk hbox
        clear hg hbox hb
        refine hK.out _ _ trivial (fun _ => ?_)
        clear hK K
        try simp only [Act.put, List.setIfInBounds_toArray, List.set_cons_zero, List.set_cons_succ]
        refine wpAnyH_ready (rs := [5, 6]) (by kernel_rfl) (by simp) ?_
        refine AllReadyH.cons (o := { dst := some 36, op := Go.Op.call { callee := Go.Callee.value (Go.Operand.func 16), args := #[Go.Operand.tmp 35], argTypes := #[23] }, type := 25, pos := "more.go:22", after := #[{ on := 4, ground := Go.Ground.data }, { on := 1, ground := Go.Ground.chain }], guard := none }) rfl (fun K hK => ?_) ?_
        · go_simp
          (with_reducible refine (list16 _ _ _ _).mono ?_)
          rintro e w107 ⟨rfl, hb⟩
          have HB := Aside0.mk (below_step HB.out hb)
          have K5 := Aside0.mk (blk_below K5.out hb)
          (try have KA := Aside0.mk (blk_below KA.out hb))
          (try have KB := Aside0.mk (blk_below KB.out hb))
          clear hb
          refine hK.out _ _ trivial (fun _ => ?_)
          clear hK K
          try simp only [Act.put, List.setIfInBounds_toArray, List.set_cons_zero, List.set_cons_succ]
          refine wpAnyH_ready (rs := [6]) (by kernel_rfl) (by simp) ?_
          refine AllReadyH.cons (o := { dst := some 8, op := Go.Op.alloc 25, type := 0, pos := "more.go:22", after := #[], guard := none }) rfl (fun K hK => ?_) AllReadyH.nil
          refine stepH_alloc (by rfl) (cs := #[.int .i64 0, .int .i64 0, .float .f64 0, .string ⟨#[]⟩, .slice none 0 0]) (t := 25) (by first | (go_simp; done) | (go_simp; rfl)) ?_
          intro ga hg w108 hbox hb
          have GA := Aside0.mk (show W.heap.size ≤ ga ∧ g5 ≠ ga by (have := HB.out.size; have h5_ := blk_lt K5.out; omega))
          (try have NE := Aside0.mk (show ga ≠ gb by (have := blk_lt KB.out; omega)))
          (try have KB := Aside0.mk (blk_below KB.out hb))
          have HB := Aside0.mk (below_step HB.out hb)
          have K5 := Aside0.mk (blk_below K5.out hb)
          have KA := Aside0.mk hbox
          clear hg hbox hb
          refine hK.out _ _ trivial (fun _ => ?_)
          clear hK K
          try simp only [Act.put, List.setIfInBounds_toArray, List.set_cons_zero, List.set_cons_succ]
          refine wpAnyH_ready (rs := [8]) (by kernel_rfl) (by simp) ?_
          refine AllReadyH.cons (o := { dst := none, op := Go.Op.store 25 (Go.Operand.tmp 8) (Go.Operand.tmp 32), type := 0, pos := "more.go:22", after := #[{ on := 6, ground := Go.Ground.data }, { on := 1, ground := Go.Ground.data }, { on := 5, ground := Go.Ground.chain }, { on := 0, ground := Go.Ground.phase }, { on := 1, ground := Go.Ground.phase }, { on := 2, ground := Go.Ground.textOnly Go.Departure.lateStores }, { on := 3, ground := Go.Ground.textOnly Go.Departure.lateStores }, { on := 4, ground := Go.Ground.textOnly Go.Departure.lateStoresUnsure }, { on := 5, ground := Go.Ground.textOnly Go.Departure.lateStoresUnsure }, { on := 6, ground := Go.Ground.phase }, { on := 7, ground := Go.Ground.phase }], guard := none }) rfl (fun K hK => ?_) AllReadyH.nil
          refine stepH_store (by rfl) (t := 25) (p := 8) (v := .tmp 32) rfl rfl (g := ga) (u := .agg #[.int .i64 4, .int .i64 0, .float .f64 0, .string ⟨#[]⟩, .slice A 0 c]) (cs := #[.int .i64 4, .int .i64 0, .float .f64 0, .string ⟨#[]⟩, .slice A 0 c]) rfl rfl KA.out rfl (by kernel_rfl) (by simp [Value.oneCell']) (by simp [Value.cells]) ?_
          intro w109 hk hs
          have HB := Aside0.mk (below_keep HB.out GA.out.1 hs)
          have K5 := Aside0.mk (hs.blk K5.out GA.out.2)
          have KA := Aside0.mk hk
          have KB := Aside0.mk (hs.blk KB.out (by (have := NE.out; omega)))
          clear hk hs
          refine hK.out _ _ trivial (fun _ => ?_)
          clear hK K
          try simp only [Act.put, List.setIfInBounds_toArray, List.set_cons_zero, List.set_cons_succ]
          refine wpAnyH_ready (rs := [9]) (by kernel_rfl) (by simp) ?_
          refine AllReadyH.cons (o := { dst := none, op := Go.Op.store 25 (Go.Operand.tmp 9) (Go.Operand.tmp 36), type := 0, pos := "more.go:22", after := #[{ on := 7, ground := Go.Ground.data }, { on := 5, ground := Go.Ground.data }, { on := 8, ground := Go.Ground.chain }, { on := 0, ground := Go.Ground.phase }, { on := 1, ground := Go.Ground.phase }, { on := 2, ground := Go.Ground.phase }, { on := 3, ground := Go.Ground.phase }, { on := 4, ground := Go.Ground.phase }, { on := 5, ground := Go.Ground.phase }, { on := 6, ground := Go.Ground.phase }, { on := 7, ground := Go.Ground.phase }, { on := 8, ground := Go.Ground.phase }], guard := none }) rfl (fun K hK => ?_) AllReadyH.nil
          refine stepH_store (by rfl) (t := 25) (p := 9) (v := .tmp 36) rfl rfl (g := gb) (u := .agg #[.int .i64 4, .int .i64 0, .float .f64 0, .string ⟨#[]⟩, .slice A 0 c]) (cs := #[.int .i64 4, .int .i64 0, .float .f64 0, .string ⟨#[]⟩, .slice A 0 c]) rfl rfl KB.out rfl (by kernel_rfl) (by simp [Value.oneCell']) (by simp [Value.cells]) ?_
          intro w110 hk hs
          have HB := Aside0.mk (below_keep HB.out GB.out.1 hs)
          have K5 := Aside0.mk (hs.blk K5.out GB.out.2)
          have KB := Aside0.mk hk
          have KA := Aside0.mk (hs.blk KA.out (by (have := NE.out; omega)))
          clear hk hs
          refine hK.out _ _ trivial (fun _ => ?_)
          clear hK K
          try simp only [Act.put, List.setIfInBounds_toArray, List.set_cons_zero, List.set_cons_succ]
          refine wpAnyH_done (by kernel_rfl) ?_ _
          go_wp2_with (fail)
          go_meet
          case rel => exact ⟨ga, gb, rfl, rfl, GA.out.1, GB.out.1, by (have := NE.out; omega), KA.out, KB.out, K5.out, HB.out⟩
        refine AllReadyH.cons (o := { dst := some 8, op := Go.Op.alloc 25, type := 0, pos := "more.go:22", after := #[], guard := none }) rfl (fun K hK => ?_) ?_
        · refine stepH_alloc (by rfl) (cs := #[.int .i64 0, .int .i64 0, .float .f64 0, .string ⟨#[]⟩, .slice none 0 0]) (t := 25) (by first | (go_simp; done) | (go_simp; rfl)) ?_
          intro ga hg w107 hbox hb
          have GA := Aside0.mk (show W.heap.size ≤ ga ∧ g5 ≠ ga by (have := HB.out.size; have h5_ := blk_lt K5.out; omega))
          (try have NE := Aside0.mk (show ga ≠ gb by (have := blk_lt KB.out; omega)))
          (try have KB := Aside0.mk (blk_below KB.out hb))
          have HB := Aside0.mk (below_step HB.out hb)
          have K5 := Aside0.mk (blk_below K5.out hb)
          have KA := Aside0.mk hbox
          clear hg hbox hb
          refine hK.out _ _ trivial (fun _ => ?_)
          clear hK K
          try simp only [Act.put, List.setIfInBounds_toArray, List.set_cons_zero, List.set_cons_succ]
          refine wpAnyH_ready (rs := [5]) (by kernel_rfl) (by simp) ?_
          refine AllReadyH.cons (o := { dst := some 36, op := Go.Op.call { callee := Go.Callee.value (Go.Operand.func 16), args := #[Go.Operand.tmp 35], argTypes := #[23] }, type := 25, pos := "more.go:22", after := #[{ on := 4, ground := Go.Ground.data }, { on := 1, ground := Go.Ground.chain }], guard := none }) rfl (fun K hK => ?_) AllReadyH.nil
          go_simp
          (with_reducible refine (list16 _ _ _ _).mono ?_)
          rintro e w108 ⟨rfl, hb⟩
          have HB := Aside0.mk (below_step HB.out hb)
          have K5 := Aside0.mk (blk_below K5.out hb)
          (try have KA := Aside0.mk (blk_below KA.out hb))
          (try have KB := Aside0.mk (blk_below KB.out hb))
          clear hb
          refine hK.out _ _ trivial (fun _ => ?_)
          clear hK K
          try simp only [Act.put, List.setIfInBounds_toArray, List.set_cons_zero, List.set_cons_succ]
          refine wpAnyH_ready (rs := [8]) (by kernel_rfl) (by simp) ?_
          refine AllReadyH.cons (o := { dst := none, op := Go.Op.store 25 (Go.Operand.tmp 8) (Go.Operand.tmp 32), type := 0, pos := "more.go:22", after := #[{ on := 6, ground := Go.Ground.data }, { on := 1, ground := Go.Ground.data }, { on := 5, ground := Go.Ground.chain }, { on := 0, ground := Go.Ground.phase }, { on := 1, ground := Go.Ground.phase }, { on := 2, ground := Go.Ground.textOnly Go.Departure.lateStores }, { on := 3, ground := Go.Ground.textOnly Go.Departure.lateStores }, { on := 4, ground := Go.Ground.textOnly Go.Departure.lateStoresUnsure }, { on := 5, ground := Go.Ground.textOnly Go.Departure.lateStoresUnsure }, { on := 6, ground := Go.Ground.phase }, { on := 7, ground := Go.Ground.phase }], guard := none }) rfl (fun K hK => ?_) AllReadyH.nil
          refine stepH_store (by rfl) (t := 25) (p := 8) (v := .tmp 32) rfl rfl (g := ga) (u := .agg #[.int .i64 4, .int .i64 0, .float .f64 0, .string ⟨#[]⟩, .slice A 0 c]) (cs := #[.int .i64 4, .int .i64 0, .float .f64 0, .string ⟨#[]⟩, .slice A 0 c]) rfl rfl KA.out rfl (by kernel_rfl) (by simp [Value.oneCell']) (by simp [Value.cells]) ?_
          intro w109 hk hs
          have HB := Aside0.mk (below_keep HB.out GA.out.1 hs)
          have K5 := Aside0.mk (hs.blk K5.out GA.out.2)
          have KA := Aside0.mk hk
          have KB := Aside0.mk (hs.blk KB.out (by (have := NE.out; omega)))
          clear hk hs
          refine hK.out _ _ trivial (fun _ => ?_)
          clear hK K
          try simp only [Act.put, List.setIfInBounds_toArray, List.set_cons_zero, List.set_cons_succ]
          refine wpAnyH_ready (rs := [9]) (by kernel_rfl) (by simp) ?_
          refine AllReadyH.cons (o := { dst := none, op := Go.Op.store 25 (Go.Operand.tmp 9) (Go.Operand.tmp 36), type := 0, pos := "more.go:22", after := #[{ on := 7, ground := Go.Ground.data }, { on := 5, ground := Go.Ground.data }, { on := 8, ground := Go.Ground.chain }, { on := 0, ground := Go.Ground.phase }, { on := 1, ground := Go.Ground.phase }, { on := 2, ground := Go.Ground.phase }, { on := 3, ground := Go.Ground.phase }, { on := 4, ground := Go.Ground.phase }, { on := 5, ground := Go.Ground.phase }, { on := 6, ground := Go.Ground.phase }, { on := 7, ground := Go.Ground.phase }, { on := 8, ground := Go.Ground.phase }], guard := none }) rfl (fun K hK => ?_) AllReadyH.nil
          refine stepH_store (by rfl) (t := 25) (p := 9) (v := .tmp 36) rfl rfl (g := gb) (u := .agg #[.int .i64 4, .int .i64 0, .float .f64 0, .string ⟨#[]⟩, .slice A 0 c]) (cs := #[.int .i64 4, .int .i64 0, .float .f64 0, .string ⟨#[]⟩, .slice A 0 c]) rfl rfl KB.out rfl (by kernel_rfl) (by simp [Value.oneCell']) (by simp [Value.cells]) ?_
          intro w110 hk hs
          have HB := Aside0.mk (below_keep HB.out GB.out.1 hs)
          have K5 := Aside0.mk (hs.blk K5.out GB.out.2)
          have KB := Aside0.mk hk
          have KA := Aside0.mk (hs.blk KA.out (by (have := NE.out; omega)))
          clear hk hs
          refine hK.out _ _ trivial (fun _ => ?_)
          clear hK K
          try simp only [Act.put, List.setIfInBounds_toArray, List.set_cons_zero, List.set_cons_succ]
          refine wpAnyH_done (by kernel_rfl) ?_ _
          go_wp2_with (fail)
          go_meet
          case rel => exact ⟨ga, gb, rfl, rfl, GA.out.1, GB.out.1, by (have := NE.out; omega), KA.out, KB.out, K5.out, HB.out⟩
        exact AllReadyH.nil
      exact AllReadyH.nil
    refine AllReadyH.cons (o := { dst := some 8, op := Go.Op.alloc 25, type := 0, pos := "more.go:22", after := #[], guard := none }) rfl (fun K hK => ?_) ?_
    · refine stepH_alloc (by rfl) (cs := #[.int .i64 0, .int .i64 0, .float .f64 0, .string ⟨#[]⟩, .slice none 0 0]) (t := 25) (by first | (go_simp; done) | (go_simp; rfl)) ?_
      intro ga hg w105 hbox hb
      have GA := Aside0.mk (show W.heap.size ≤ ga ∧ g5 ≠ ga by (have := HB.out.size; have h5_ := blk_lt K5.out; omega))
      (try have NE := Aside0.mk (show ga ≠ gb by (have := blk_lt KB.out; omega)))
      (try have KB := Aside0.mk (blk_below KB.out hb))
      have HB := Aside0.mk (below_step HB.out hb)
      have K5 := Aside0.mk (blk_below K5.out hb)
      have KA := Aside0.mk hbox
      clear hg hbox hb
      refine hK.out _ _ trivial (fun _ => ?_)
      clear hK K
      try simp only [Act.put, List.setIfInBounds_toArray, List.set_cons_zero, List.set_cons_succ]
      refine wpAnyH_ready (rs := [1, 7]) (by kernel_rfl) (by simp) ?_
      refine AllReadyH.cons (o := { dst := some 32, op := Go.Op.call { callee := Go.Callee.value (Go.Operand.func 16), args := #[Go.Operand.tmp 31], argTypes := #[23] }, type := 25, pos := "more.go:22", after := #[{ on := 0, ground := Go.Ground.data }], guard := none }) rfl (fun K hK => ?_) ?_
      · go_simp
        (with_reducible refine (list16 _ _ _ _).mono ?_)
        rintro e w106 ⟨rfl, hb⟩
        have HB := Aside0.mk (below_step HB.out hb)
        have K5 := Aside0.mk (blk_below K5.out hb)
        (try have KA := Aside0.mk (blk_below KA.out hb))
        (try have KB := Aside0.mk (blk_below KB.out hb))
        clear hb
        refine hK.out _ _ trivial (fun _ => ?_)
        clear hK K
        try simp only [Act.put, List.setIfInBounds_toArray, List.set_cons_zero, List.set_cons_succ]
        refine wpAnyH_ready (rs := [5, 7]) (by kernel_rfl) (by simp) ?_
        refine AllReadyH.cons (o := { dst := some 36, op := Go.Op.call { callee := Go.Callee.value (Go.Operand.func 16), args := #[Go.Operand.tmp 35], argTypes := #[23] }, type := 25, pos := "more.go:22", after := #[{ on := 4, ground := Go.Ground.data }, { on := 1, ground := Go.Ground.chain }], guard := none }) rfl (fun K hK => ?_) ?_
        · go_simp
          (with_reducible refine (list16 _ _ _ _).mono ?_)
          rintro e w107 ⟨rfl, hb⟩
          have HB := Aside0.mk (below_step HB.out hb)
          have K5 := Aside0.mk (blk_below K5.out hb)
          (try have KA := Aside0.mk (blk_below KA.out hb))
          (try have KB := Aside0.mk (blk_below KB.out hb))
          clear hb
          refine hK.out _ _ trivial (fun _ => ?_)
          clear hK K
          try simp only [Act.put, List.setIfInBounds_toArray, List.set_cons_zero, List.set_cons_succ]
          refine wpAnyH_ready (rs := [7]) (by kernel_rfl) (by simp) ?_
          refine AllReadyH.cons (o := { dst := some 9, op := Go.Op.alloc 25, type := 0, pos := "more.go:22", after := #[], guard := none }) rfl (fun K hK => ?_) AllReadyH.nil
          refine stepH_alloc (by rfl) (cs := #[.int .i64 0, .int .i64 0, .float .f64 0, .string ⟨#[]⟩, .slice none 0 0]) (t := 25) (by first | (go_simp; done) | (go_simp; rfl)) ?_
          intro gb hg w108 hbox hb
          have GB := Aside0.mk (show W.heap.size ≤ gb ∧ g5 ≠ gb by (have := HB.out.size; have h5_ := blk_lt K5.out; omega))
          (try have NE := Aside0.mk (show gb ≠ ga by (have := blk_lt KA.out; omega)))
          (try have KA := Aside0.mk (blk_below KA.out hb))
          have HB := Aside0.mk (below_step HB.out hb)
          have K5 := Aside0.mk (blk_below K5.out hb)
          have KB := Aside0.mk hbox
          clear hg hbox hb
          refine hK.out _ _ trivial (fun _ => ?_)
          clear hK K
          try simp only [Act.put, List.setIfInBounds_toArray, List.set_cons_zero, List.set_cons_succ]
          refine wpAnyH_ready (rs := [8]) (by kernel_rfl) (by simp) ?_
          refine AllReadyH.cons (o := { dst := none, op := Go.Op.store 25 (Go.Operand.tmp 8) (Go.Operand.tmp 32), type := 0, pos := "more.go:22", after := #[{ on := 6, ground := Go.Ground.data }, { on := 1, ground := Go.Ground.data }, { on := 5, ground := Go.Ground.chain }, { on := 0, ground := Go.Ground.phase }, { on := 1, ground := Go.Ground.phase }, { on := 2, ground := Go.Ground.textOnly Go.Departure.lateStores }, { on := 3, ground := Go.Ground.textOnly Go.Departure.lateStores }, { on := 4, ground := Go.Ground.textOnly Go.Departure.lateStoresUnsure }, { on := 5, ground := Go.Ground.textOnly Go.Departure.lateStoresUnsure }, { on := 6, ground := Go.Ground.phase }, { on := 7, ground := Go.Ground.phase }], guard := none }) rfl (fun K hK => ?_) AllReadyH.nil
          refine stepH_store (by rfl) (t := 25) (p := 8) (v := .tmp 32) rfl rfl (g := ga) (u := .agg #[.int .i64 4, .int .i64 0, .float .f64 0, .string ⟨#[]⟩, .slice A 0 c]) (cs := #[.int .i64 4, .int .i64 0, .float .f64 0, .string ⟨#[]⟩, .slice A 0 c]) rfl rfl KA.out rfl (by kernel_rfl) (by simp [Value.oneCell']) (by simp [Value.cells]) ?_
          intro w109 hk hs
          have HB := Aside0.mk (below_keep HB.out GA.out.1 hs)
          have K5 := Aside0.mk (hs.blk K5.out GA.out.2)
          have KA := Aside0.mk hk
          have KB := Aside0.mk (hs.blk KB.out (by (have := NE.out; omega)))
          clear hk hs
          refine hK.out _ _ trivial (fun _ => ?_)
          clear hK K
          try simp only [Act.put, List.setIfInBounds_toArray, List.set_cons_zero, List.set_cons_succ]
          refine wpAnyH_ready (rs := [9]) (by kernel_rfl) (by simp) ?_
          refine AllReadyH.cons (o := { dst := none, op := Go.Op.store 25 (Go.Operand.tmp 9) (Go.Operand.tmp 36), type := 0, pos := "more.go:22", after := #[{ on := 7, ground := Go.Ground.data }, { on := 5, ground := Go.Ground.data }, { on := 8, ground := Go.Ground.chain }, { on := 0, ground := Go.Ground.phase }, { on := 1, ground := Go.Ground.phase }, { on := 2, ground := Go.Ground.phase }, { on := 3, ground := Go.Ground.phase }, { on := 4, ground := Go.Ground.phase }, { on := 5, ground := Go.Ground.phase }, { on := 6, ground := Go.Ground.phase }, { on := 7, ground := Go.Ground.phase }, { on := 8, ground := Go.Ground.phase }], guard := none }) rfl (fun K hK => ?_) AllReadyH.nil
          refine stepH_store (by rfl) (t := 25) (p := 9) (v := .tmp 36) rfl rfl (g := gb) (u := .agg #[.int .i64 4, .int .i64 0, .float .f64 0, .string ⟨#[]⟩, .slice A 0 c]) (cs := #[.int .i64 4, .int .i64 0, .float .f64 0, .string ⟨#[]⟩, .slice A 0 c]) rfl rfl KB.out rfl (by kernel_rfl) (by simp [Value.oneCell']) (by simp [Value.cells]) ?_
          intro w110 hk hs
          have HB := Aside0.mk (below_keep HB.out GB.out.1 hs)
          have K5 := Aside0.mk (hs.blk K5.out GB.out.2)
          have KB := Aside0.mk hk
          have KA := Aside0.mk (hs.blk KA.out (by (have := NE.out; omega)))
          clear hk hs
          refine hK.out _ _ trivial (fun _ => ?_)
          clear hK K
          try simp only [Act.put, List.setIfInBounds_toArray, List.set_cons_zero, List.set_cons_succ]
          refine wpAnyH_done (by kernel_rfl) ?_ _
          go_wp2_with (fail)
          go_meet
          case rel => exact ⟨ga, gb, rfl, rfl, GA.out.1, GB.out.1, by (have := NE.out; omega), KA.out, KB.out, K5.out, HB.out⟩
        refine AllReadyH.cons (o := { dst := some 9, op := Go.Op.alloc 25, type := 0, pos := "more.go:22", after := #[], guard := none }) rfl (fun K hK => ?_) ?_
        · refine stepH_alloc (by rfl) (cs := #[.int .i64 0, .int .i64 0, .float .f64 0, .string ⟨#[]⟩, .slice none 0 0]) (t := 25) (by first | (go_simp; done) | (go_simp; rfl)) ?_
          intro gb hg w107 hbox hb
          have GB := Aside0.mk (show W.heap.size ≤ gb ∧ g5 ≠ gb by (have := HB.out.size; have h5_ := blk_lt K5.out; omega))
          (try have NE := Aside0.mk (show gb ≠ ga by (have := blk_lt KA.out; omega)))
          (try have KA := Aside0.mk (blk_below KA.out hb))
          have HB := Aside0.mk (below_step HB.out hb)
          have K5 := Aside0.mk (blk_below K5.out hb)
          have KB := Aside0.mk hbox
          clear hg hbox hb
          refine hK.out _ _ trivial (fun _ => ?_)
          clear hK K
          try simp only [Act.put, List.setIfInBounds_toArray, List.set_cons_zero, List.set_cons_succ]
          refine wpAnyH_ready (rs := [5]) (by kernel_rfl) (by simp) ?_
          refine AllReadyH.cons (o := { dst := some 36, op := Go.Op.call { callee := Go.Callee.value (Go.Operand.func 16), args := #[Go.Operand.tmp 35], argTypes := #[23] }, type := 25, pos := "more.go:22", after := #[{ on := 4, ground := Go.Ground.data }, { on := 1, ground := Go.Ground.chain }], guard := none }) rfl (fun K hK => ?_) AllReadyH.nil
          go_simp
          (with_reducible refine (list16 _ _ _ _).mono ?_)
          rintro e w108 ⟨rfl, hb⟩
          have HB := Aside0.mk (below_step HB.out hb)
          have K5 := Aside0.mk (blk_below K5.out hb)
          (try have KA := Aside0.mk (blk_below KA.out hb))
          (try have KB := Aside0.mk (blk_below KB.out hb))
          clear hb
          refine hK.out _ _ trivial (fun _ => ?_)
          clear hK K
          try simp only [Act.put, List.setIfInBounds_toArray, List.set_cons_zero, List.set_cons_succ]
          refine wpAnyH_ready (rs := [8]) (by kernel_rfl) (by simp) ?_
          refine AllReadyH.cons (o := { dst := none, op := Go.Op.store 25 (Go.Operand.tmp 8) (Go.Operand.tmp 32), type := 0, pos := "more.go:22", after := #[{ on := 6, ground := Go.Ground.data }, { on := 1, ground := Go.Ground.data }, { on := 5, ground := Go.Ground.chain }, { on := 0, ground := Go.Ground.phase }, { on := 1, ground := Go.Ground.phase }, { on := 2, ground := Go.Ground.textOnly Go.Departure.lateStores }, { on := 3, ground := Go.Ground.textOnly Go.Departure.lateStores }, { on := 4, ground := Go.Ground.textOnly Go.Departure.lateStoresUnsure }, { on := 5, ground := Go.Ground.textOnly Go.Departure.lateStoresUnsure }, { on := 6, ground := Go.Ground.phase }, { on := 7, ground := Go.Ground.phase }], guard := none }) rfl (fun K hK => ?_) AllReadyH.nil
          refine stepH_store (by rfl) (t := 25) (p := 8) (v := .tmp 32) rfl rfl (g := ga) (u := .agg #[.int .i64 4, .int .i64 0, .float .f64 0, .string ⟨#[]⟩, .slice A 0 c]) (cs := #[.int .i64 4, .int .i64 0, .float .f64 0, .string ⟨#[]⟩, .slice A 0 c]) rfl rfl KA.out rfl (by kernel_rfl) (by simp [Value.oneCell']) (by simp [Value.cells]) ?_
          intro w109 hk hs
          have HB := Aside0.mk (below_keep HB.out GA.out.1 hs)
          have K5 := Aside0.mk (hs.blk K5.out GA.out.2)
          have KA := Aside0.mk hk
          have KB := Aside0.mk (hs.blk KB.out (by (have := NE.out; omega)))
          clear hk hs
          refine hK.out _ _ trivial (fun _ => ?_)
          clear hK K
          try simp only [Act.put, List.setIfInBounds_toArray, List.set_cons_zero, List.set_cons_succ]
          refine wpAnyH_ready (rs := [9]) (by kernel_rfl) (by simp) ?_
          refine AllReadyH.cons (o := { dst := none, op := Go.Op.store 25 (Go.Operand.tmp 9) (Go.Operand.tmp 36), type := 0, pos := "more.go:22", after := #[{ on := 7, ground := Go.Ground.data }, { on := 5, ground := Go.Ground.data }, { on := 8, ground := Go.Ground.chain }, { on := 0, ground := Go.Ground.phase }, { on := 1, ground := Go.Ground.phase }, { on := 2, ground := Go.Ground.phase }, { on := 3, ground := Go.Ground.phase }, { on := 4, ground := Go.Ground.phase }, { on := 5, ground := Go.Ground.phase }, { on := 6, ground := Go.Ground.phase }, { on := 7, ground := Go.Ground.phase }, { on := 8, ground := Go.Ground.phase }], guard := none }) rfl (fun K hK => ?_) AllReadyH.nil
          refine stepH_store (by rfl) (t := 25) (p := 9) (v := .tmp 36) rfl rfl (g := gb) (u := .agg #[.int .i64 4, .int .i64 0, .float .f64 0, .string ⟨#[]⟩, .slice A 0 c]) (cs := #[.int .i64 4, .int .i64 0, .float .f64 0, .string ⟨#[]⟩, .slice A 0 c]) rfl rfl KB.out rfl (by kernel_rfl) (by simp [Value.oneCell']) (by simp [Value.cells]) ?_
          intro w110 hk hs
          have HB := Aside0.mk (below_keep HB.out GB.out.1 hs)
          have K5 := Aside0.mk (hs.blk K5.out GB.out.2)
          have KB := Aside0.mk hk
          have KA := Aside0.mk (hs.blk KA.out (by (have := NE.out; omega)))
          clear hk hs
          refine hK.out _ _ trivial (fun _ => ?_)
          clear hK K
          try simp only [Act.put, List.setIfInBounds_toArray, List.set_cons_zero, List.set_cons_succ]
          refine wpAnyH_done (by kernel_rfl) ?_ _
          go_wp2_with (fail)
          go_meet
          case rel => exact ⟨ga, gb, rfl, rfl, GA.out.1, GB.out.1, by (have := NE.out; omega), KA.out, KB.out, K5.out, HB.out⟩
        exact AllReadyH.nil
      refine AllReadyH.cons (o := { dst := some 9, op := Go.Op.alloc 25, type := 0, pos := "more.go:22", after := #[], guard := none }) rfl (fun K hK => ?_) ?_
      · refine stepH_alloc (by rfl) (cs := #[.int .i64 0, .int .i64 0, .float .f64 0, .string ⟨#[]⟩, .slice none 0 0]) (t := 25) (by first | (go_simp; done) | (go_simp; rfl)) ?_
        intro gb hg w106 hbox hb
        have GB := Aside0.mk (show W.heap.size ≤ gb ∧ g5 ≠ gb by (have := HB.out.size; have h5_ := blk_lt K5.out; omega))
        (try have NE := Aside0.mk (show gb ≠ ga by (have := blk_lt KA.out; omega)))
        (try have KA := Aside0.mk (blk_below KA.out hb))
        have HB := Aside0.mk (below_step HB.out hb)
        have K5 := Aside0.mk (blk_below K5.out hb)
        have KB := Aside0.mk hbox
        clear hg hbox hb
        refine hK.out _ _ trivial (fun _ => ?_)
        clear hK K
        try simp only [Act.put, List.setIfInBounds_toArray, List.set_cons_zero, List.set_cons_succ]
        refine wpAnyH_ready (rs := [1]) (by kernel_rfl) (by simp) ?_
        refine AllReadyH.cons (o := { dst := some 32, op := Go.Op.call { callee := Go.Callee.value (Go.Operand.func 16), args := #[Go.Operand.tmp 31], argTypes := #[23] }, type := 25, pos := "more.go:22", after := #[{ on := 0, ground := Go.Ground.data }], guard := none }) rfl (fun K hK => ?_) AllReadyH.nil
        go_simp
        (with_reducible refine (list16 _ _ _ _).mono ?_)
        rintro e w107 ⟨rfl, hb⟩
        have HB := Aside0.mk (below_step HB.out hb)
        have K5 := Aside0.mk (blk_below K5.out hb)
        (try have KA := Aside0.mk (blk_below KA.out hb))
        (try have KB := Aside0.mk (blk_below KB.out hb))
        clear hb
        refine hK.out _ _ trivial (fun _ => ?_)
        clear hK K
        try simp only [Act.put, List.setIfInBounds_toArray, List.set_cons_zero, List.set_cons_succ]
        refine wpAnyH_ready (rs := [5]) (by kernel_rfl) (by simp) ?_
        refine AllReadyH.cons (o := { dst := some 36, op := Go.Op.call { callee := Go.Callee.value (Go.Operand.func 16), args := #[Go.Operand.tmp 35], argTypes := #[23] }, type := 25, pos := "more.go:22", after := #[{ on := 4, ground := Go.Ground.data }, { on := 1, ground := Go.Ground.chain }], guard := none }) rfl (fun K hK => ?_) AllReadyH.nil
        go_simp
        (with_reducible refine (list16 _ _ _ _).mono ?_)
        rintro e w108 ⟨rfl, hb⟩
        have HB := Aside0.mk (below_step HB.out hb)
        have K5 := Aside0.mk (blk_below K5.out hb)
        (try have KA := Aside0.mk (blk_below KA.out hb))
        (try have KB := Aside0.mk (blk_below KB.out hb))
        clear hb
        refine hK.out _ _ trivial (fun _ => ?_)
        clear hK K
        try simp only [Act.put, List.setIfInBounds_toArray, List.set_cons_zero, List.set_cons_succ]
        refine wpAnyH_ready (rs := [8]) (by kernel_rfl) (by simp) ?_
        refine AllReadyH.cons (o := { dst := none, op := Go.Op.store 25 (Go.Operand.tmp 8) (Go.Operand.tmp 32), type := 0, pos := "more.go:22", after := #[{ on := 6, ground := Go.Ground.data }, { on := 1, ground := Go.Ground.data }, { on := 5, ground := Go.Ground.chain }, { on := 0, ground := Go.Ground.phase }, { on := 1, ground := Go.Ground.phase }, { on := 2, ground := Go.Ground.textOnly Go.Departure.lateStores }, { on := 3, ground := Go.Ground.textOnly Go.Departure.lateStores }, { on := 4, ground := Go.Ground.textOnly Go.Departure.lateStoresUnsure }, { on := 5, ground := Go.Ground.textOnly Go.Departure.lateStoresUnsure }, { on := 6, ground := Go.Ground.phase }, { on := 7, ground := Go.Ground.phase }], guard := none }) rfl (fun K hK => ?_) AllReadyH.nil
        refine stepH_store (by rfl) (t := 25) (p := 8) (v := .tmp 32) rfl rfl (g := ga) (u := .agg #[.int .i64 4, .int .i64 0, .float .f64 0, .string ⟨#[]⟩, .slice A 0 c]) (cs := #[.int .i64 4, .int .i64 0, .float .f64 0, .string ⟨#[]⟩, .slice A 0 c]) rfl rfl KA.out rfl (by kernel_rfl) (by simp [Value.oneCell']) (by simp [Value.cells]) ?_
        intro w109 hk hs
        have HB := Aside0.mk (below_keep HB.out GA.out.1 hs)
        have K5 := Aside0.mk (hs.blk K5.out GA.out.2)
        have KA := Aside0.mk hk
        have KB := Aside0.mk (hs.blk KB.out (by (have := NE.out; omega)))
        clear hk hs
        refine hK.out _ _ trivial (fun _ => ?_)
        clear hK K
        try simp only [Act.put, List.setIfInBounds_toArray, List.set_cons_zero, List.set_cons_succ]
        refine wpAnyH_ready (rs := [9]) (by kernel_rfl) (by simp) ?_
        refine AllReadyH.cons (o := { dst := none, op := Go.Op.store 25 (Go.Operand.tmp 9) (Go.Operand.tmp 36), type := 0, pos := "more.go:22", after := #[{ on := 7, ground := Go.Ground.data }, { on := 5, ground := Go.Ground.data }, { on := 8, ground := Go.Ground.chain }, { on := 0, ground := Go.Ground.phase }, { on := 1, ground := Go.Ground.phase }, { on := 2, ground := Go.Ground.phase }, { on := 3, ground := Go.Ground.phase }, { on := 4, ground := Go.Ground.phase }, { on := 5, ground := Go.Ground.phase }, { on := 6, ground := Go.Ground.phase }, { on := 7, ground := Go.Ground.phase }, { on := 8, ground := Go.Ground.phase }], guard := none }) rfl (fun K hK => ?_) AllReadyH.nil
        refine stepH_store (by rfl) (t := 25) (p := 9) (v := .tmp 36) rfl rfl (g := gb) (u := .agg #[.int .i64 4, .int .i64 0, .float .f64 0, .string ⟨#[]⟩, .slice A 0 c]) (cs := #[.int .i64 4, .int .i64 0, .float .f64 0, .string ⟨#[]⟩, .slice A 0 c]) rfl rfl KB.out rfl (by kernel_rfl) (by simp [Value.oneCell']) (by simp [Value.cells]) ?_
        intro w110 hk hs
        have HB := Aside0.mk (below_keep HB.out GB.out.1 hs)
        have K5 := Aside0.mk (hs.blk K5.out GB.out.2)
        have KB := Aside0.mk hk
        have KA := Aside0.mk (hs.blk KA.out (by (have := NE.out; omega)))
        clear hk hs
        refine hK.out _ _ trivial (fun _ => ?_)
        clear hK K
        try simp only [Act.put, List.setIfInBounds_toArray, List.set_cons_zero, List.set_cons_succ]
        refine wpAnyH_done (by kernel_rfl) ?_ _
        go_wp2_with (fail)
        go_meet
        case rel => exact ⟨ga, gb, rfl, rfl, GA.out.1, GB.out.1, by (have := NE.out; omega), KA.out, KB.out, K5.out, HB.out⟩
      exact AllReadyH.nil
    refine AllReadyH.cons (o := { dst := some 9, op := Go.Op.alloc 25, type := 0, pos := "more.go:22", after := #[], guard := none }) rfl (fun K hK => ?_) ?_
    · refine stepH_alloc (by rfl) (cs := #[.int .i64 0, .int .i64 0, .float .f64 0, .string ⟨#[]⟩, .slice none 0 0]) (t := 25) (by first | (go_simp; done) | (go_simp; rfl)) ?_
      intro gb hg w105 hbox hb
      have GB := Aside0.mk (show W.heap.size ≤ gb ∧ g5 ≠ gb by (have := HB.out.size; have h5_ := blk_lt K5.out; omega))
      (try have NE := Aside0.mk (show gb ≠ ga by (have := blk_lt KA.out; omega)))
      (try have KA := Aside0.mk (blk_below KA.out hb))
      have HB := Aside0.mk (below_step HB.out hb)
      have K5 := Aside0.mk (blk_below K5.out hb)
      have KB := Aside0.mk hbox
      clear hg hbox hb
      refine hK.out _ _ trivial (fun _ => ?_)
      clear hK K
      try simp only [Act.put, List.setIfInBounds_toArray, List.set_cons_zero, List.set_cons_succ]
      refine wpAnyH_ready (rs := [1, 6]) (by kernel_rfl) (by simp) ?_
      refine AllReadyH.cons (o := { dst := some 32, op := Go.Op.call { callee := Go.Callee.value (Go.Operand.func 16), args := #[Go.Operand.tmp 31], argTypes := #[23] }, type := 25, pos := "more.go:22", after := #[{ on := 0, ground := Go.Ground.data }], guard := none }) rfl (fun K hK => ?_) ?_
      · go_simp
        (with_reducible refine (list16 _ _ _ _).mono ?_)
        rintro e w106 ⟨rfl, hb⟩
        have HB := Aside0.mk (below_step HB.out hb)
        have K5 := Aside0.mk (blk_below K5.out hb)
        (try have KA := Aside0.mk (blk_below KA.out hb))
        (try have KB := Aside0.mk (blk_below KB.out hb))
        clear hb
        refine hK.out _ _ trivial (fun _ => ?_)
        clear hK K
        try simp only [Act.put, List.setIfInBounds_toArray, List.set_cons_zero, List.set_cons_succ]
        refine wpAnyH_ready (rs := [5, 6]) (by kernel_rfl) (by simp) ?_
        refine AllReadyH.cons (o := { dst := some 36, op := Go.Op.call { callee := Go.Callee.value (Go.Operand.func 16), args := #[Go.Operand.tmp 35], argTypes := #[23] }, type := 25, pos := "more.go:22", after := #[{ on := 4, ground := Go.Ground.data }, { on := 1, ground := Go.Ground.chain }], guard := none }) rfl (fun K hK => ?_) ?_
        · go_simp
          (with_reducible refine (list16 _ _ _ _).mono ?_)
          rintro e w107 ⟨rfl, hb⟩
          have HB := Aside0.mk (below_step HB.out hb)
          have K5 := Aside0.mk (blk_below K5.out hb)
          (try have KA := Aside0.mk (blk_below KA.out hb))
          (try have KB := Aside0.mk (blk_below KB.out hb))
          clear hb
          refine hK.out _ _ trivial (fun _ => ?_)
          clear hK K
          try simp only [Act.put, List.setIfInBounds_toArray, List.set_cons_zero, List.set_cons_succ]
          refine wpAnyH_ready (rs := [6]) (by kernel_rfl) (by simp) ?_
          refine AllReadyH.cons (o := { dst := some 8, op := Go.Op.alloc 25, type := 0, pos := "more.go:22", after := #[], guard := none }) rfl (fun K hK => ?_) AllReadyH.nil
          refine stepH_alloc (by rfl) (cs := #[.int .i64 0, .int .i64 0, .float .f64 0, .string ⟨#[]⟩, .slice none 0 0]) (t := 25) (by first | (go_simp; done) | (go_simp; rfl)) ?_
          intro ga hg w108 hbox hb
          have GA := Aside0.mk (show W.heap.size ≤ ga ∧ g5 ≠ ga by (have := HB.out.size; have h5_ := blk_lt K5.out; omega))
          (try have NE := Aside0.mk (show ga ≠ gb by (have := blk_lt KB.out; omega)))
          (try have KB := Aside0.mk (blk_below KB.out hb))
          have HB := Aside0.mk (below_step HB.out hb)
          have K5 := Aside0.mk (blk_below K5.out hb)
          have KA := Aside0.mk hbox
          clear hg hbox hb
          refine hK.out _ _ trivial (fun _ => ?_)
          clear hK K
          try simp only [Act.put, List.setIfInBounds_toArray, List.set_cons_zero, List.set_cons_succ]
          refine wpAnyH_ready (rs := [8]) (by kernel_rfl) (by simp) ?_
          refine AllReadyH.cons (o := { dst := none, op := Go.Op.store 25 (Go.Operand.tmp 8) (Go.Operand.tmp 32), type := 0, pos := "more.go:22", after := #[{ on := 6, ground := Go.Ground.data }, { on := 1, ground := Go.Ground.data }, { on := 5, ground := Go.Ground.chain }, { on := 0, ground := Go.Ground.phase }, { on := 1, ground := Go.Ground.phase }, { on := 2, ground := Go.Ground.textOnly Go.Departure.lateStores }, { on := 3, ground := Go.Ground.textOnly Go.Departure.lateStores }, { on := 4, ground := Go.Ground.textOnly Go.Departure.lateStoresUnsure }, { on := 5, ground := Go.Ground.textOnly Go.Departure.lateStoresUnsure }, { on := 6, ground := Go.Ground.phase }, { on := 7, ground := Go.Ground.phase }], guard := none }) rfl (fun K hK => ?_) AllReadyH.nil
          refine stepH_store (by rfl) (t := 25) (p := 8) (v := .tmp 32) rfl rfl (g := ga) (u := .agg #[.int .i64 4, .int .i64 0, .float .f64 0, .string ⟨#[]⟩, .slice A 0 c]) (cs := #[.int .i64 4, .int .i64 0, .float .f64 0, .string ⟨#[]⟩, .slice A 0 c]) rfl rfl KA.out rfl (by kernel_rfl) (by simp [Value.oneCell']) (by simp [Value.cells]) ?_
          intro w109 hk hs
          have HB := Aside0.mk (below_keep HB.out GA.out.1 hs)
          have K5 := Aside0.mk (hs.blk K5.out GA.out.2)
          have KA := Aside0.mk hk
          have KB := Aside0.mk (hs.blk KB.out (by (have := NE.out; omega)))
          clear hk hs
          refine hK.out _ _ trivial (fun _ => ?_)
          clear hK K
          try simp only [Act.put, List.setIfInBounds_toArray, List.set_cons_zero, List.set_cons_succ]
          refine wpAnyH_ready (rs := [9]) (by kernel_rfl) (by simp) ?_
          refine AllReadyH.cons (o := { dst := none, op := Go.Op.store 25 (Go.Operand.tmp 9) (Go.Operand.tmp 36), type := 0, pos := "more.go:22", after := #[{ on := 7, ground := Go.Ground.data }, { on := 5, ground := Go.Ground.data }, { on := 8, ground := Go.Ground.chain }, { on := 0, ground := Go.Ground.phase }, { on := 1, ground := Go.Ground.phase }, { on := 2, ground := Go.Ground.phase }, { on := 3, ground := Go.Ground.phase }, { on := 4, ground := Go.Ground.phase }, { on := 5, ground := Go.Ground.phase }, { on := 6, ground := Go.Ground.phase }, { on := 7, ground := Go.Ground.phase }, { on := 8, ground := Go.Ground.phase }], guard := none }) rfl (fun K hK => ?_) AllReadyH.nil
          refine stepH_store (by rfl) (t := 25) (p := 9) (v := .tmp 36) rfl rfl (g := gb) (u := .agg #[.int .i64 4, .int .i64 0, .float .f64 0, .string ⟨#[]⟩, .slice A 0 c]) (cs := #[.int .i64 4, .int .i64 0, .float .f64 0, .string ⟨#[]⟩, .slice A 0 c]) rfl rfl KB.out rfl (by kernel_rfl) (by simp [Value.oneCell']) (by simp [Value.cells]) ?_
          intro w110 hk hs
          have HB := Aside0.mk (below_keep HB.out GB.out.1 hs)
          have K5 := Aside0.mk (hs.blk K5.out GB.out.2)
          have KB := Aside0.mk hk
          have KA := Aside0.mk (hs.blk KA.out (by (have := NE.out; omega)))
          clear hk hs
          refine hK.out _ _ trivial (fun _ => ?_)
          clear hK K
          try simp only [Act.put, List.setIfInBounds_toArray, List.set_cons_zero, List.set_cons_succ]
          refine wpAnyH_done (by kernel_rfl) ?_ _
          go_wp2_with (fail)
          go_meet
          case rel => exact ⟨ga, gb, rfl, rfl, GA.out.1, GB.out.1, by (have := NE.out; omega), KA.out, KB.out, K5.out, HB.out⟩
        refine AllReadyH.cons (o := { dst := some 8, op := Go.Op.alloc 25, type := 0, pos := "more.go:22", after := #[], guard := none }) rfl (fun K hK => ?_) ?_
        · refine stepH_alloc (by rfl) (cs := #[.int .i64 0, .int .i64 0, .float .f64 0, .string ⟨#[]⟩, .slice none 0 0]) (t := 25) (by first | (go_simp; done) | (go_simp; rfl)) ?_
          intro ga hg w107 hbox hb
          have GA := Aside0.mk (show W.heap.size ≤ ga ∧ g5 ≠ ga by (have := HB.out.size; have h5_ := blk_lt K5.out; omega))
          (try have NE := Aside0.mk (show ga ≠ gb by (have := blk_lt KB.out; omega)))
          (try have KB := Aside0.mk (blk_below KB.out hb))
          have HB := Aside0.mk (below_step HB.out hb)
          have K5 := Aside0.mk (blk_below K5.out hb)
          have KA := Aside0.mk hbox
          clear hg hbox hb
          refine hK.out _ _ trivial (fun _ => ?_)
          clear hK K
          try simp only [Act.put, List.setIfInBounds_toArray, List.set_cons_zero, List.set_cons_succ]
          refine wpAnyH_ready (rs := [5]) (by kernel_rfl) (by simp) ?_
          refine AllReadyH.cons (o := { dst := some 36, op := Go.Op.call { callee := Go.Callee.value (Go.Operand.func 16), args := #[Go.Operand.tmp 35], argTypes := #[23] }, type := 25, pos := "more.go:22", after := #[{ on := 4, ground := Go.Ground.data }, { on := 1, ground := Go.Ground.chain }], guard := none }) rfl (fun K hK => ?_) AllReadyH.nil
          go_simp
          (with_reducible refine (list16 _ _ _ _).mono ?_)
          rintro e w108 ⟨rfl, hb⟩
          have HB := Aside0.mk (below_step HB.out hb)
          have K5 := Aside0.mk (blk_below K5.out hb)
          (try have KA := Aside0.mk (blk_below KA.out hb))
          (try have KB := Aside0.mk (blk_below KB.out hb))
          clear hb
          refine hK.out _ _ trivial (fun _ => ?_)
          clear hK K
          try simp only [Act.put, List.setIfInBounds_toArray, List.set_cons_zero, List.set_cons_succ]
          refine wpAnyH_ready (rs := [8]) (by kernel_rfl) (by simp) ?_
          refine AllReadyH.cons (o := { dst := none, op := Go.Op.store 25 (Go.Operand.tmp 8) (Go.Operand.tmp 32), type := 0, pos := "more.go:22", after := #[{ on := 6, ground := Go.Ground.data }, { on := 1, ground := Go.Ground.data }, { on := 5, ground := Go.Ground.chain }, { on := 0, ground := Go.Ground.phase }, { on := 1, ground := Go.Ground.phase }, { on := 2, ground := Go.Ground.textOnly Go.Departure.lateStores }, { on := 3, ground := Go.Ground.textOnly Go.Departure.lateStores }, { on := 4, ground := Go.Ground.textOnly Go.Departure.lateStoresUnsure }, { on := 5, ground := Go.Ground.textOnly Go.Departure.lateStoresUnsure }, { on := 6, ground := Go.Ground.phase }, { on := 7, ground := Go.Ground.phase }], guard := none }) rfl (fun K hK => ?_) AllReadyH.nil
          refine stepH_store (by rfl) (t := 25) (p := 8) (v := .tmp 32) rfl rfl (g := ga) (u := .agg #[.int .i64 4, .int .i64 0, .float .f64 0, .string ⟨#[]⟩, .slice A 0 c]) (cs := #[.int .i64 4, .int .i64 0, .float .f64 0, .string ⟨#[]⟩, .slice A 0 c]) rfl rfl KA.out rfl (by kernel_rfl) (by simp [Value.oneCell']) (by simp [Value.cells]) ?_
          intro w109 hk hs
          have HB := Aside0.mk (below_keep HB.out GA.out.1 hs)
          have K5 := Aside0.mk (hs.blk K5.out GA.out.2)
          have KA := Aside0.mk hk
          have KB := Aside0.mk (hs.blk KB.out (by (have := NE.out; omega)))
          clear hk hs
          refine hK.out _ _ trivial (fun _ => ?_)
          clear hK K
          try simp only [Act.put, List.setIfInBounds_toArray, List.set_cons_zero, List.set_cons_succ]
          refine wpAnyH_ready (rs := [9]) (by kernel_rfl) (by simp) ?_
          refine AllReadyH.cons (o := { dst := none, op := Go.Op.store 25 (Go.Operand.tmp 9) (Go.Operand.tmp 36), type := 0, pos := "more.go:22", after := #[{ on := 7, ground := Go.Ground.data }, { on := 5, ground := Go.Ground.data }, { on := 8, ground := Go.Ground.chain }, { on := 0, ground := Go.Ground.phase }, { on := 1, ground := Go.Ground.phase }, { on := 2, ground := Go.Ground.phase }, { on := 3, ground := Go.Ground.phase }, { on := 4, ground := Go.Ground.phase }, { on := 5, ground := Go.Ground.phase }, { on := 6, ground := Go.Ground.phase }, { on := 7, ground := Go.Ground.phase }, { on := 8, ground := Go.Ground.phase }], guard := none }) rfl (fun K hK => ?_) AllReadyH.nil
          refine stepH_store (by rfl) (t := 25) (p := 9) (v := .tmp 36) rfl rfl (g := gb) (u := .agg #[.int .i64 4, .int .i64 0, .float .f64 0, .string ⟨#[]⟩, .slice A 0 c]) (cs := #[.int .i64 4, .int .i64 0, .float .f64 0, .string ⟨#[]⟩, .slice A 0 c]) rfl rfl KB.out rfl (by kernel_rfl) (by simp [Value.oneCell']) (by simp [Value.cells]) ?_
          intro w110 hk hs
          have HB := Aside0.mk (below_keep HB.out GB.out.1 hs)
          have K5 := Aside0.mk (hs.blk K5.out GB.out.2)
          have KB := Aside0.mk hk
          have KA := Aside0.mk (hs.blk KA.out (by (have := NE.out; omega)))
          clear hk hs
          refine hK.out _ _ trivial (fun _ => ?_)
          clear hK K
          try simp only [Act.put, List.setIfInBounds_toArray, List.set_cons_zero, List.set_cons_succ]
          refine wpAnyH_done (by kernel_rfl) ?_ _
          go_wp2_with (fail)
          go_meet
          case rel => exact ⟨ga, gb, rfl, rfl, GA.out.1, GB.out.1, by (have := NE.out; omega), KA.out, KB.out, K5.out, HB.out⟩
        exact AllReadyH.nil
      refine AllReadyH.cons (o := { dst := some 8, op := Go.Op.alloc 25, type := 0, pos := "more.go:22", after := #[], guard := none }) rfl (fun K hK => ?_) ?_
      · refine stepH_alloc (by rfl) (cs := #[.int .i64 0, .int .i64 0, .float .f64 0, .string ⟨#[]⟩, .slice none 0 0]) (t := 25) (by first | (go_simp; done) | (go_simp; rfl)) ?_
        intro ga hg w106 hbox hb
        have GA := Aside0.mk (show W.heap.size ≤ ga ∧ g5 ≠ ga by (have := HB.out.size; have h5_ := blk_lt K5.out; omega))
        (try have NE := Aside0.mk (show ga ≠ gb by (have := blk_lt KB.out; omega)))
        (try have KB := Aside0.mk (blk_below KB.out hb))
        have HB := Aside0.mk (below_step HB.out hb)
        have K5 := Aside0.mk (blk_below K5.out hb)
        have KA := Aside0.mk hbox
        clear hg hbox hb
        refine hK.out _ _ trivial (fun _ => ?_)
        clear hK K
        try simp only [Act.put, List.setIfInBounds_toArray, List.set_cons_zero, List.set_cons_succ]
        refine wpAnyH_ready (rs := [1]) (by kernel_rfl) (by simp) ?_
        refine AllReadyH.cons (o := { dst := some 32, op := Go.Op.call { callee := Go.Callee.value (Go.Operand.func 16), args := #[Go.Operand.tmp 31], argTypes := #[23] }, type := 25, pos := "more.go:22", after := #[{ on := 0, ground := Go.Ground.data }], guard := none }) rfl (fun K hK => ?_) AllReadyH.nil
        go_simp
        (with_reducible refine (list16 _ _ _ _).mono ?_)
        rintro e w107 ⟨rfl, hb⟩
        have HB := Aside0.mk (below_step HB.out hb)
        have K5 := Aside0.mk (blk_below K5.out hb)
        (try have KA := Aside0.mk (blk_below KA.out hb))
        (try have KB := Aside0.mk (blk_below KB.out hb))
        clear hb
        refine hK.out _ _ trivial (fun _ => ?_)
        clear hK K
        try simp only [Act.put, List.setIfInBounds_toArray, List.set_cons_zero, List.set_cons_succ]
        refine wpAnyH_ready (rs := [5]) (by kernel_rfl) (by simp) ?_
        refine AllReadyH.cons (o := { dst := some 36, op := Go.Op.call { callee := Go.Callee.value (Go.Operand.func 16), args := #[Go.Operand.tmp 35], argTypes := #[23] }, type := 25, pos := "more.go:22", after := #[{ on := 4, ground := Go.Ground.data }, { on := 1, ground := Go.Ground.chain }], guard := none }) rfl (fun K hK => ?_) AllReadyH.nil
        go_simp
        (with_reducible refine (list16 _ _ _ _).mono ?_)
        rintro e w108 ⟨rfl, hb⟩
        have HB := Aside0.mk (below_step HB.out hb)
        have K5 := Aside0.mk (blk_below K5.out hb)
        (try have KA := Aside0.mk (blk_below KA.out hb))
        (try have KB := Aside0.mk (blk_below KB.out hb))
        clear hb
        refine hK.out _ _ trivial (fun _ => ?_)
        clear hK K
        try simp only [Act.put, List.setIfInBounds_toArray, List.set_cons_zero, List.set_cons_succ]
        refine wpAnyH_ready (rs := [8]) (by kernel_rfl) (by simp) ?_
        refine AllReadyH.cons (o := { dst := none, op := Go.Op.store 25 (Go.Operand.tmp 8) (Go.Operand.tmp 32), type := 0, pos := "more.go:22", after := #[{ on := 6, ground := Go.Ground.data }, { on := 1, ground := Go.Ground.data }, { on := 5, ground := Go.Ground.chain }, { on := 0, ground := Go.Ground.phase }, { on := 1, ground := Go.Ground.phase }, { on := 2, ground := Go.Ground.textOnly Go.Departure.lateStores }, { on := 3, ground := Go.Ground.textOnly Go.Departure.lateStores }, { on := 4, ground := Go.Ground.textOnly Go.Departure.lateStoresUnsure }, { on := 5, ground := Go.Ground.textOnly Go.Departure.lateStoresUnsure }, { on := 6, ground := Go.Ground.phase }, { on := 7, ground := Go.Ground.phase }], guard := none }) rfl (fun K hK => ?_) AllReadyH.nil
        refine stepH_store (by rfl) (t := 25) (p := 8) (v := .tmp 32) rfl rfl (g := ga) (u := .agg #[.int .i64 4, .int .i64 0, .float .f64 0, .string ⟨#[]⟩, .slice A 0 c]) (cs := #[.int .i64 4, .int .i64 0, .float .f64 0, .string ⟨#[]⟩, .slice A 0 c]) rfl rfl KA.out rfl (by kernel_rfl) (by simp [Value.oneCell']) (by simp [Value.cells]) ?_
        intro w109 hk hs
        have HB := Aside0.mk (below_keep HB.out GA.out.1 hs)
        have K5 := Aside0.mk (hs.blk K5.out GA.out.2)
        have KA := Aside0.mk hk
        have KB := Aside0.mk (hs.blk KB.out (by (have := NE.out; omega)))
        clear hk hs
        refine hK.out _ _ trivial (fun _ => ?_)
        clear hK K
        try simp only [Act.put, List.setIfInBounds_toArray, List.set_cons_zero, List.set_cons_succ]
        refine wpAnyH_ready (rs := [9]) (by kernel_rfl) (by simp) ?_
        refine AllReadyH.cons (o := { dst := none, op := Go.Op.store 25 (Go.Operand.tmp 9) (Go.Operand.tmp 36), type := 0, pos := "more.go:22", after := #[{ on := 7, ground := Go.Ground.data }, { on := 5, ground := Go.Ground.data }, { on := 8, ground := Go.Ground.chain }, { on := 0, ground := Go.Ground.phase }, { on := 1, ground := Go.Ground.phase }, { on := 2, ground := Go.Ground.phase }, { on := 3, ground := Go.Ground.phase }, { on := 4, ground := Go.Ground.phase }, { on := 5, ground := Go.Ground.phase }, { on := 6, ground := Go.Ground.phase }, { on := 7, ground := Go.Ground.phase }, { on := 8, ground := Go.Ground.phase }], guard := none }) rfl (fun K hK => ?_) AllReadyH.nil
        refine stepH_store (by rfl) (t := 25) (p := 9) (v := .tmp 36) rfl rfl (g := gb) (u := .agg #[.int .i64 4, .int .i64 0, .float .f64 0, .string ⟨#[]⟩, .slice A 0 c]) (cs := #[.int .i64 4, .int .i64 0, .float .f64 0, .string ⟨#[]⟩, .slice A 0 c]) rfl rfl KB.out rfl (by kernel_rfl) (by simp [Value.oneCell']) (by simp [Value.cells]) ?_
        intro w110 hk hs
        have HB := Aside0.mk (below_keep HB.out GB.out.1 hs)
        have K5 := Aside0.mk (hs.blk K5.out GB.out.2)
        have KB := Aside0.mk hk
        have KA := Aside0.mk (hs.blk KA.out (by (have := NE.out; omega)))
        clear hk hs
        refine hK.out _ _ trivial (fun _ => ?_)
        clear hK K
        try simp only [Act.put, List.setIfInBounds_toArray, List.set_cons_zero, List.set_cons_succ]
        refine wpAnyH_done (by kernel_rfl) ?_ _
        go_wp2_with (fail)
        go_meet
        case rel => exact ⟨ga, gb, rfl, rfl, GA.out.1, GB.out.1, by (have := NE.out; omega), KA.out, KB.out, K5.out, HB.out⟩
      exact AllReadyH.nil
    exact AllReadyH.nil
  case rest =>
    obtain ⟨ga, gb, rfl, rfl, ha_, hb_, hne, hka, hkb, hk5, hbw⟩ := hcut
    have KA := Aside0.mk hka
    have KB := Aside0.mk hkb
    have HB := Aside0.mk hbw
    clear ha_ hb_ hne hka hkb hk5 hbw K5
    go_upto_region 14 with (first
      | (at_builtin; (with_reducible refine append_none rfl (.const (.slice none 0 0)) (.tmp 37) rfl rfl (A := A) (c := c) rfl ?_)))
    have HLI := Aside0.mk (list16 none 0 0)
    have HF := Aside0.mk (fun (w' : World) => (RV.flat (ok := fun _ => True) (W := w') (k := 4) (i := 0) (f := 0) (s := ⟨#[]⟩) (A := A) (c := c) (by decide) (by decide) (by decide) (by decide)))
    have HF0 := Aside0.mk (fun (w' : World) => (RV.flat (ok := fun _ => True) (W := w') (k := 4) (i := 0) (f := 0) (s := ⟨#[]⟩) (A := none) (c := 0) (by decide) (by decide) (by decide) (by decide)))
    have HOM := Aside0.mk (fun (w' : World) => order11 HS.out (.mk 4 0 0 ⟨#[]⟩ []) w' _ _ (HF.out w') (.mk 4 0 0 ⟨#[]⟩ []) _ _ (HF0.out w'))
    have HOA := Aside0.mk (fun (w' : World) => order11 HS.out (.mk 4 0 0 ⟨#[]⟩ []) w' _ _ (HF.out w') (.mk 4 0 0 ⟨#[]⟩ []) _ _ (HF.out w'))
    rw [order_lists, show orders [] [] = 0 from rfl] at HOM HOA
    have a0 : wc.cell? ⟨ga, 0, none⟩ = some (.int .i64 4) := blk_cell KA.out 0
    have a1 : wc.cell? ⟨ga, 1, none⟩ = some (.int .i64 0) := blk_cell KA.out 1
    have a2 : wc.cell? ⟨ga, 2, none⟩ = some (.float .f64 0) := blk_cell KA.out 2
    have a3 : wc.cell? ⟨ga, 3, none⟩ = some (.string ⟨#[]⟩) := blk_cell KA.out 3
    have a4 : wc.cell? ⟨ga, 4, none⟩ = some (.slice A 0 c) := blk_cell KA.out 4
    go_region_held3 (fun w' => w'.cell? ⟨ga, 0, none⟩ = some (.int .i64 4) ∧ w'.cell? ⟨ga, 1, none⟩ = some (.int .i64 0) ∧ w'.cell? ⟨ga, 2, none⟩ = some (.float .f64 0) ∧ w'.cell? ⟨ga, 3, none⟩ = some (.string ⟨#[]⟩) ∧ w'.cell? ⟨ga, 4, none⟩ = some (.slice A 0 c)) (first | exact ⟨blk_cell (blk_below (w := wc.drew) KA.out (below_step hb1 hb2)) 0, blk_cell (blk_below (w := wc.drew) KA.out (below_step hb1 hb2)) 1, blk_cell (blk_below (w := wc.drew) KA.out (below_step hb1 hb2)) 2, blk_cell (blk_below (w := wc.drew) KA.out (below_step hb1 hb2)) 3, blk_cell (blk_below (w := wc.drew) KA.out (below_step hb1 hb2)) 4⟩ | exact ⟨blk_cell (blk_below (w := wc.drew) KA.out hb1) 0, blk_cell (blk_below (w := wc.drew) KA.out hb1) 1, blk_cell (blk_below (w := wc.drew) KA.out hb1) 2, blk_cell (blk_below (w := wc.drew) KA.out hb1) 3, blk_cell (blk_below (w := wc.drew) KA.out hb1) 4⟩ | exact ⟨a0, a1, a2, a3, a4⟩)
      (first
        | (go_at_call 11; (with_reducible refine (HOM.out _).mono ?_); rintro e w11 ⟨rfl, hb2⟩)
        | (go_at_call 16; (with_reducible refine (HLI.out _).mono ?_); rintro e w10 ⟨rfl, hb1⟩))
    have HB11 := Aside0.mk (below_step (below_step HB.out.drew hb1) hb2)
    have KA11 := Aside0.mk (blk_below (w := wc.drew) KA.out (below_step hb1 hb2))
    have KB11 := Aside0.mk (blk_below (w := wc.drew) KB.out (below_step hb1 hb2))
    (try clear hHeld)
    clear hb1 hb2 a0 a1 a2 a3 a4
    have a0 : w11.cell? ⟨ga, 0, none⟩ = some (.int .i64 4) := blk_cell KA11.out 0
    have a1 : w11.cell? ⟨ga, 1, none⟩ = some (.int .i64 0) := blk_cell KA11.out 1
    have a2 : w11.cell? ⟨ga, 2, none⟩ = some (.float .f64 0) := blk_cell KA11.out 2
    have a3 : w11.cell? ⟨ga, 3, none⟩ = some (.string ⟨#[]⟩) := blk_cell KA11.out 3
    have a4 : w11.cell? ⟨ga, 4, none⟩ = some (.slice A 0 c) := blk_cell KA11.out 4
    have b0 : w11.cell? ⟨gb, 0, none⟩ = some (.int .i64 4) := blk_cell KB11.out 0
    have b1 : w11.cell? ⟨gb, 1, none⟩ = some (.int .i64 0) := blk_cell KB11.out 1
    have b2 : w11.cell? ⟨gb, 2, none⟩ = some (.float .f64 0) := blk_cell KB11.out 2
    have b3 : w11.cell? ⟨gb, 3, none⟩ = some (.string ⟨#[]⟩) := blk_cell KB11.out 3
    have b4 : w11.cell? ⟨gb, 4, none⟩ = some (.slice A 0 c) := blk_cell KB11.out 4
    go_wp2_with (first
      | (go_at_call 11; (with_reducible refine (HOA.out _).mono ?_); rintro e w12 ⟨rfl, hb⟩; have HB11 := Aside0.mk (below_step HB11.out hb); have KA11 := Aside0.mk (blk_below KA11.out hb); have KB11 := Aside0.mk (blk_below KB11.out hb); clear hb a0 a1 a2 a3 a4 b0 b1 b2 b3 b4; have a0 : w12.cell? ⟨ga, 0, none⟩ = some (.int .i64 4) := blk_cell KA11.out 0; have a1 : w12.cell? ⟨ga, 1, none⟩ = some (.int .i64 0) := blk_cell KA11.out 1; have a2 : w12.cell? ⟨ga, 2, none⟩ = some (.float .f64 0) := blk_cell KA11.out 2; have a3 : w12.cell? ⟨ga, 3, none⟩ = some (.string ⟨#[]⟩) := blk_cell KA11.out 3; have a4 : w12.cell? ⟨ga, 4, none⟩ = some (.slice A 0 c) := blk_cell KA11.out 4; have b0 : w12.cell? ⟨gb, 0, none⟩ = some (.int .i64 4) := blk_cell KB11.out 0; have b1 : w12.cell? ⟨gb, 1, none⟩ = some (.int .i64 0) := blk_cell KB11.out 1; have b2 : w12.cell? ⟨gb, 2, none⟩ = some (.float .f64 0) := blk_cell KB11.out 2; have b3 : w12.cell? ⟨gb, 3, none⟩ = some (.string ⟨#[]⟩) := blk_cell KB11.out 3; have b4 : w12.cell? ⟨gb, 4, none⟩ = some (.slice A 0 c) := blk_cell KB11.out 4))
    go_ret
    exact ⟨rfl, HB11.out⟩
theorem lists6 (hS : CompareC) (W : World) (T : Tabs3 W) (l : List Val) (A : Option Addr) (c : Nat) (u : Int) (hu : 0 ≤ u) (hu2 : u < 256) (v : Val) (xv : Array Value) (hl : RV W (fun _ => True) (.mk 4 0 0 ⟨#[]⟩ l) #[.int .i64 4, .int .i64 0, .float .f64 0, .string ⟨#[]⟩, .slice A l.length c]) (hv : RV W (fun _ => True) v xv) :
    Calls Tryz.prog 6 #[.slice A l.length c, .int .u8 u, .agg xv] W fun e w' => e = .returned (.bool true) ∧ Below W.heap.size W w' := by
  by_cases h0 : 0 < l.length
  · exact lists6_s hS W T l A l.length c rfl u hu hu2 v xv hl hv h0
  · obtain rfl : l = [] := List.length_eq_zero_iff.1 (by omega)
    exact lists6_0 hS W T A c u hu hu2 v xv hl hv
end Go.Proofs.YtejfmghjmhiodaaGreatDoor.Vz
namespace Go.Proofs.YtejfmghjmhiodaaGreatDoor.VzListsW
open Go.RowKit
set_option linter.unusedVariables false
theorem walk (l : List Vz.Val) (A : Option Addr) (c : Nat) {w : World} (hl : Vz.RV w (fun _ => True) (.mk 4 0 0 ⟨#[]⟩ l) #[.int .i64 4, .int .i64 0, .float .f64 0, .string ⟨#[]⟩, .slice A l.length c]) (u : Int) (wu : (Lit.int .u8 u).wf = true) (y : Vz.Val) (cb : Array Value) (hy : Vz.RV w (fun _ => True) y cb.toList.toArray) (W : World) (T : Vz.Tabs3 W) (hW : W = w := by rfl) :
    Calls Tryz.prog 6 #[.slice A l.length c, .int .u8 u, .agg cb] W fun e W' => e = .returned (.bool true) ∧ Below W.heap.size W W' := by
  subst hW
  have h2 : 0 ≤ u ∧ u < 256 := by
    simp [Lit.wf, IntKind.min, IntKind.max, IntKind.bits, IntKind.signed] at wu
    omega
  exact Vz.lists6 (fun a b w => Tryz.strings_Compare a b w) W T l A c u h2.1 h2.2 y cb hl (by simpa using hy)
end Go.Proofs.YtejfmghjmhiodaaGreatDoor.VzListsW
/- The statement ValueLists, for every input, without a condition: the law returns true and leaves its arguments as they were. (Lists are held against one another item by item, and that a beginning is ahead) -/
namespace Go.Proofs.YtejfmghjmhiodaaGreatDoor.valueLists
open Go.ChangeShapes Go.WideShapes Go.ChangeAt Go.RowKit
open Go.ChangeMaps (open_string shut_string)
set_option linter.unusedVariables false
theorem own : ownKnob Tryz.prog.godebug = none := by kernel_rfl
theorem laidOut : laidOutB Tryz.prog = true := by kernel_rfl
set_option maxRecDepth 100000 in
theorem lifted (os : Os) (started : os.Started) (H : Type) (enc : TypeId × Value → H) :
    ReturnsInHanded {} Tryz.checked os 6 .any (fun w args => (Rows.valueListsSpec.pre enc Tryz.prog Tryz.f6 [] false w args ∧ laidMetH Tryz.prog VzRow.laid5 w) ∧ sizedMet enc Tryz.prog Tryz.f6 (OpenSpec.ofChange Rows.valueListsSpec) false w args) (Rows.valueListsSpec.post enc Tryz.prog Tryz.f6 false true false false) := by
  refine VzRow.returns_and_shaped (C := Tryz.checked) (X := fun w _ => laidMetH Tryz.prog VzRow.laid5 w) (fun _ _ _ hh h => h.of_heap hh) own started (by kernel_rfl) Tryz.func6
    (ChangeSpec.witness_shaped (enc := enc) (C := Tryz.checked) (os := os) (X := fun w _ => laidMetH Tryz.prog VzRow.laid5 w) false (World.laidAll Tryz.prog os VzRow.laid5) #[.slice none 0 0, .int .u8 0, .agg #[.int .i64 0, .int .i64 0, .float .f64 0, .string ByteArray.empty, .slice none 0 0]] 8 (World.laidAll_os _ _ _) (World.shaped_of_ZipB (by kernel_rfl) (by kernel_rfl)) (by kernel_rfl) (by kernel_rfl) (by kernel_rfl) (VzRow.door_met os _)) ?_
  intro W base args ds gs before hval0 hW hL hsh hwt
  have hval : ∀ (j : Nat) t v, Tryz.f6.params[j]? = some t → args[j]? = some v → Value.okWide Tryz.prog W .any base t v := hval0
  have hW' := hW
  obtain ⟨p, q, hA0, hV, rfl, hfz, hnd⟩ := hW
  have hA : DataW.TrodAll enc Tryz.prog W 0 (fun _ => true) true Tryz.f6.params.toList args.toList ds p := hA0
  rw [Tryz.params6] at hA hval
  obtain ⟨v0, vs0, d0, ds0, p0, q0, hargs, rfl, rfl, h0, r0⟩ := trodAll_cons hA
  obtain ⟨v1, vs1, d1, ds1, p1, q1, rfl, rfl, rfl, h1, r1⟩ := trodAll_cons r0
  obtain ⟨v2, vs2, d2, ds2, p2, q2, rfl, rfl, rfl, h2, r2⟩ := trodAll_cons r1
  obtain ⟨rfl, rfl, rfl⟩ := trodAll_nil r2
  obtain rfl : args = #[v0, v1, v2] := by cases args; simp_all
  obtain ⟨rfl, rfl⟩ := trodVars_none hV
  obtain ⟨a0, len0, cap0, rfl⟩ := okWide_slice Tryz.underlying23 (hval 0 23 v0 rfl rfl)
  have k0 := h0
  have lt0 : ∀ x ∈ p0, x.block < W.heap.size := by obtain ⟨m, hm⟩ := k0; exact DataW.trod_lt m _ _ _ hm
  obtain ⟨fu0, hf0⟩ := h0
  obtain ⟨x0, A0, c0, e0, hx0⟩ := Vz.open_vals W 0 _ _ fu0 (.slice a0 len0 cap0) _ (by simpa [Value.cells] using hf0) (fun n hn => by have := List.all_eq_true.1 hwt n (Vz.mem_weightsEach hn 0 _ _ (by rw [Tryz.params6]; rfl) rfl); simpa using this)
  simp only [Value.slice.injEq] at e0
  obtain ⟨rfl, rfl, rfl⟩ := e0
  obtain ⟨a1, rfl, rfl, rfl, w1⟩ := open_int Tryz.underlying5 (hval 1 5 v1 rfl rfl) h1
  obtain ⟨cs2, rfl, _⟩ := okWide_struct Tryz.underlying25 (hval 2 25 v2 rfl rfl)
  have k2 := h2
  have lt2 : ∀ x ∈ p2, x.block < W.heap.size := by obtain ⟨m, hm⟩ := k2; exact DataW.trod_lt m _ _ _ hm
  obtain ⟨fu2, hf2⟩ := h2
  obtain ⟨x2, hx2⟩ := Vz.open_val W 0 _ _ fu2 _ _ hf2 (fun n hn => by have := List.all_eq_true.1 hwt n (Vz.mem_weightsEach hn 2 _ _ (by rw [Tryz.params6]; rfl) rfl); simpa using this)
  clear hA0 hval0
  refine (VzListsW.walk x0 a0 cap0 hx0 a1 w1 x2 cs2 hx2 W (VzRow.ok_of_laid hL hsh)).mono fun e W' ⟨he, bel⟩ => ?_
  subst he
  exact ⟨_, rfl, _, _, _, [], _, [], hW', trodAll_mk1 (shut_bool Tryz.underlying4 _), (trodAll_cons_mk (Below.trod laidOut (by kernel_rfl) (of_decide_eq_true (by kernel_rfl)) k0 bel lt0) (trodAll_cons_mk (shut_int Tryz.underlying5 w1) (trodAll_cons_mk (Below.trod laidOut (by kernel_rfl) (of_decide_eq_true (by kernel_rfl)) k2 bel lt2) trodAll_mk0))), rfl, bel.frame _, fun h => by cases h⟩
theorem over : Rows.valueListsRow.holds Tryz.pinned (OpenSpec.ofChange Rows.valueListsSpec) :=
  OpenClaim.holds_of_wide 6 Tryz.f6 rfl rfl rfl rfl rfl rfl rfl ⟨rfl, rfl, rfl, rfl, rfl⟩ rfl rfl rfl rfl rfl (by kernel_rfl) Tryz.func6 (by kernel_rfl)
    (of_decide_eq_true (by kernel_rfl)) (by unfold Func.isWrapper; first | (rw [if_pos (by decide +kernel)]; kernel_rfl) | (rw [if_neg (by decide +kernel)]; exact ⟨rfl, rfl⟩))
    (fun os started H enc _ => lifted os started H enc)
theorem proved : Rows.ValueListsSaid := over
#print axioms proved
end Go.Proofs.YtejfmghjmhiodaaGreatDoor.valueLists
namespace Go.Proofs.YtejfmghjmhiodaaGreatDoor
/-- The row, under a short name, for the claim. -/
theorem valueLists_holds : Rows.ValueListsSaid := valueLists.proved
end Go.Proofs.YtejfmghjmhiodaaGreatDoor
