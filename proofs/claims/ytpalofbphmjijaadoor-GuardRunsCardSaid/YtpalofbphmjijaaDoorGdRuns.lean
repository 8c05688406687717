import Derived.Deep.QuietTactic
import Derived.BigQuiet
import Derived.StillTailTactics
import Derived.Deep.RegionHeld3
import Derived.Test.YtpalofbphmjijaaDoorGdVal4
import Derived.Test.YtpalofbphmjijaaDoorGdNil
namespace Go.Proofs.YtpalofbphmjijaaDoor.Gd
open Go.RowKit Go.Proofs.YtpalofbphmjijaaDoorW.PrintWords
set_option linter.unusedVariables false
set_option linter.unusedSimpArgs false
attribute [local go_sem] store_float

theorem tenS {W w : World} {gx gv : Nat} {k i : Int} {f : Nat} {s : ByteArray} {A : Option Addr} {m c : Nat} (KX : W.heap[gx]? = some (.cells #[.int .i64 k, .int .i64 i, .float .f64 f, .string s, .slice A m c] 31 (0, 0))) (KV : W.heap[gv]? = some (.cells #[.int .i64 k, .int .i64 i, .float .f64 f, .string s, .slice A m c] 31 (0, 0))) (h : Below W.heap.size W w) : w.cell? ⟨gx, 0, none⟩ = some (.int .i64 k) ∧ w.cell? ⟨gx, 1, none⟩ = some (.int .i64 i) ∧ w.cell? ⟨gx, 2, none⟩ = some (.float .f64 f) ∧ w.cell? ⟨gx, 3, none⟩ = some (.string s) ∧ w.cell? ⟨gx, 4, none⟩ = some (.slice A m c) ∧ w.cell? ⟨gv, 0, none⟩ = some (.int .i64 k) ∧ w.cell? ⟨gv, 1, none⟩ = some (.int .i64 i) ∧ w.cell? ⟨gv, 2, none⟩ = some (.float .f64 f) ∧ w.cell? ⟨gv, 3, none⟩ = some (.string s) ∧ w.cell? ⟨gv, 4, none⟩ = some (.slice A m c) :=
  ⟨blk_cell (blk_below KX h) 0, blk_cell (blk_below KX h) 1, blk_cell (blk_below KX h) 2, blk_cell (blk_below KX h) 3, blk_cell (blk_below KX h) 4, blk_cell (blk_below KV h) 0, blk_cell (blk_below KV h) 1, blk_cell (blk_below KV h) 2, blk_cell (blk_below KV h) 3, blk_cell (blk_below KV h) 4⟩

def zeroV : Val := .mk 0 0 0 ⟨#[]⟩ []
theorem zeroRV (W : World) : RV W (fun _ => True) zeroV #[.int .i64 0, .int .i64 0, .float .f64 0, .string ⟨#[]⟩, .slice none 0 0] := RV.flat (by decide) (by decide) (by decide) (by decide)
theorem tenS2 {W w : World} {gx gv : Nat} {k i : Int} {f : Nat} {s : ByteArray} {A : Option Addr} {m c : Nat} (KX : W.heap[gx]? = some (.cells #[.int .i64 0, .int .i64 0, .float .f64 0, .string ⟨#[]⟩, .slice none 0 0] 31 (0, 0))) (KV : W.heap[gv]? = some (.cells #[.int .i64 k, .int .i64 i, .float .f64 f, .string s, .slice A m c] 31 (0, 0))) (h : Below W.heap.size W w) : w.cell? ⟨gx, 0, none⟩ = some (.int .i64 0) ∧ w.cell? ⟨gx, 1, none⟩ = some (.int .i64 0) ∧ w.cell? ⟨gx, 2, none⟩ = some (.float .f64 0) ∧ w.cell? ⟨gx, 3, none⟩ = some (.string ⟨#[]⟩) ∧ w.cell? ⟨gx, 4, none⟩ = some (.slice none 0 0) ∧ w.cell? ⟨gv, 0, none⟩ = some (.int .i64 k) ∧ w.cell? ⟨gv, 1, none⟩ = some (.int .i64 i) ∧ w.cell? ⟨gv, 2, none⟩ = some (.float .f64 f) ∧ w.cell? ⟨gv, 3, none⟩ = some (.string s) ∧ w.cell? ⟨gv, 4, none⟩ = some (.slice A m c) :=
  ⟨blk_cell (blk_below KX h) 0, blk_cell (blk_below KX h) 1, blk_cell (blk_below KX h) 2, blk_cell (blk_below KX h) 3, blk_cell (blk_below KX h) 4, blk_cell (blk_below KV h) 0, blk_cell (blk_below KV h) 1, blk_cell (blk_below KV h) 2, blk_cell (blk_below KV h) 3, blk_cell (blk_below KV h) 4⟩

set_option maxHeartbeats 8000000 in
set_option maxRecDepth 100000 in
theorem runs5_1 (v : Val) (cs : Array Value) (ee : Int) (hee : 0 ≤ ee ∧ ee ≤ 65535) (h0 : (ee == 0) = false) (h1 : (ee != 0) = true) (hwe : IntKind.i64.wrap ee = ee) (how n : Int) (t : ByteArray) (ok : Nat → Prop) (w : World) (hR : RV w ok v cs) (h40 : (t.size : Int) ≤ 40) (hh : 0 ≤ how ∧ how ≤ 255) :
    Calls Tryd.prog 5 #[.agg cs, .int .u16 ee, .int .u8 how, .string t, .int .i64 n] w fun e w' => e = .returned (.bool true) ∧ Below w.heap.size w w' := by
  have hmf : ∀ (fn : Fn) (first cap : Array Value) (w : World), (Instr.makeFunc fn first cap).run Tryd.prog w = .ok (.func fn first cap) w := fun _ _ _ _ => rfl
  obtain ⟨k, i, f, s, A, m, c, rfl⟩ := hR.form
  have HR := Aside0.mk hR
  have HH := Aside0.mk hh
  have HT := Aside0.mk (show t.size ≤ 100 by omega)
  clear hR hh
  go_enter Tryd.func5, Tryd.ntmps5
  go_upto_region 3 with (first
    | ((with_reducible refine gate_dst (N := 5) rfl ?_); refine box_event ?hg (N := 5) ?hd (cs := #[.int .i64 k, .int .i64 i, .float .f64 f, .string s, .slice A m c]) (t := 31) ?hr ?_; (case hd => rfl); (case hg => rfl); (case hr => first | (go_simp; done) | (go_simp; rfl)); intro gv hg w1 hbox hb; have HB := Aside0.mk hb; have KV := Aside0.mk hbox; clear hg hbox hb)
    | (go_at_call 7; refine (known7 _).mono ?_; rintro e w2 ⟨rfl, hb⟩; have KV := Aside0.mk (blk_below KV.out hb); have HB := Aside0.mk (below_step HB.out hb); clear hb))
  have b0 : w2.cell? ⟨gv, 0, none⟩ = some (.int .i64 k) := blk_cell KV.out 0
  have b1 : w2.cell? ⟨gv, 1, none⟩ = some (.int .i64 i) := blk_cell KV.out 1
  have b2 : w2.cell? ⟨gv, 2, none⟩ = some (.float .f64 f) := blk_cell KV.out 2
  have b3 : w2.cell? ⟨gv, 3, none⟩ = some (.string s) := blk_cell KV.out 3
  have b4 : w2.cell? ⟨gv, 4, none⟩ = some (.slice A m c) := blk_cell KV.out 4
  go_upto_region 5 with (first
    | (go_at_call 15; refine (light15 _ _ _ _ (HR.out.kept HB.out)).mono ?_; rintro e w3 ⟨⟨lb, rfl⟩, hb⟩; have KV := Aside0.mk (blk_below KV.out hb); have HB := Aside0.mk (below_step HB.out hb); clear hb; clear b0 b1 b2 b3 b4))
  rotate_left
  · go_ret
    exact ⟨rfl, HB.out⟩
  have b0 : w3.cell? ⟨gv, 0, none⟩ = some (.int .i64 k) := blk_cell KV.out 0
  have b1 : w3.cell? ⟨gv, 1, none⟩ = some (.int .i64 i) := blk_cell KV.out 1
  have b2 : w3.cell? ⟨gv, 2, none⟩ = some (.float .f64 f) := blk_cell KV.out 2
  have b3 : w3.cell? ⟨gv, 3, none⟩ = some (.string s) := blk_cell KV.out 3
  have b4 : w3.cell? ⟨gv, 4, none⟩ = some (.slice A m c) := blk_cell KV.out 4
  go_upto_region 6 with (first
    | (go_at_call 16; refine (told16 _ _ _ _ _ _ _ _ _).mono ?_; rintro e w4 ⟨hb, a, b, rfl, ha, hbb⟩; have KV := Aside0.mk (blk_below KV.out hb); have HB := Aside0.mk (below_step HB.out hb); have A1 := Aside0.mk ha; have A2 := Aside0.mk hbb; clear hb ha hbb; clear b0 b1 b2 b3 b4)
    | (go_at_call 11; refine (run_told k i f s A m c ee h1 a b _ A1.out A2.out).mono ?_; rintro e w5 ⟨rfl, hb⟩; have KV := Aside0.mk (blk_below KV.out hb); have HB := Aside0.mk (below_step HB.out hb); clear hb)
    | ((with_reducible refine gate_dst (N := 11) rfl ?_); refine box_event ?hg (N := 11) ?hd (cs := #[.int .i64 0, .int .i64 0, .float .f64 0, .string ⟨#[]⟩, .slice none 0 0]) (t := 31) ?hr ?_; (case hd => rfl); (case hg => rfl); (case hr => first | (go_simp; done) | (go_simp; rfl)); intro gx hg w6 hbox hb; have HG := Aside0.mk (show w.heap.size ≤ gx ∧ gv < gx by (have h1_ := HB.out.size; have h2_ := blk_lt KV.out; omega)); have KV := Aside0.mk (blk_below KV.out hb); have KX := Aside0.mk hbox; have HB := Aside0.mk (below_step HB.out hb); clear hg hbox hb)
    | ((with_reducible refine gate_store (t := 31) (p := 11) rfl ?_); refine put_eventU ?hg (t := 31) (p := 11) (v := .tmp 33) ?ho ?hN (g := gx) (u := .agg #[.int .i64 0, .int .i64 0, .float .f64 0, .string ⟨#[]⟩, .slice none 0 0]) (cs := #[.int .i64 0, .int .i64 0, .float .f64 0, .string ⟨#[]⟩, .slice none 0 0]) ?hp ?hv KX.out ?hs ?hi ?h1 ?hc ?_; (case hs => rfl); (case hi => kernel_rfl); (case h1 => simp [Value.oneCell']); (case hc => simp [Value.cells]); (case hg => rfl); (case ho => rfl); (case hN => rfl); (case hp => rfl); (case hv => rfl); intro w7 hk hs; have HB := Aside0.mk (below_keep HB.out HG.out.1 hs); have KV := Aside0.mk (hs.blk KV.out (by have := HG.out; omega)); have KX := Aside0.mk hk; clear hk hs))
  have x0 : w7.cell? ⟨gx, 0, none⟩ = some (.int .i64 0) := blk_cell KX.out 0
  have x1 : w7.cell? ⟨gx, 1, none⟩ = some (.int .i64 0) := blk_cell KX.out 1
  have x2 : w7.cell? ⟨gx, 2, none⟩ = some (.float .f64 0) := blk_cell KX.out 2
  have x3 : w7.cell? ⟨gx, 3, none⟩ = some (.string ⟨#[]⟩) := blk_cell KX.out 3
  have x4 : w7.cell? ⟨gx, 4, none⟩ = some (.slice none 0 0) := blk_cell KX.out 4
  have b0 : w7.cell? ⟨gv, 0, none⟩ = some (.int .i64 k) := blk_cell KV.out 0
  have b1 : w7.cell? ⟨gv, 1, none⟩ = some (.int .i64 i) := blk_cell KV.out 1
  have b2 : w7.cell? ⟨gv, 2, none⟩ = some (.float .f64 f) := blk_cell KV.out 2
  have b3 : w7.cell? ⟨gv, 3, none⟩ = some (.string s) := blk_cell KV.out 3
  have b4 : w7.cell? ⟨gv, 4, none⟩ = some (.slice A m c) := blk_cell KV.out 4
  refine wp_region_held_drew (S := fun w' => w'.cell? ⟨gx, 0, none⟩ = some (.int .i64 0) ∧ w'.cell? ⟨gx, 1, none⟩ = some (.int .i64 0) ∧ w'.cell? ⟨gx, 2, none⟩ = some (.float .f64 0) ∧ w'.cell? ⟨gx, 3, none⟩ = some (.string ⟨#[]⟩) ∧ w'.cell? ⟨gx, 4, none⟩ = some (.slice none 0 0) ∧ w'.cell? ⟨gv, 0, none⟩ = some (.int .i64 k) ∧ w'.cell? ⟨gv, 1, none⟩ = some (.int .i64 i) ∧ w'.cell? ⟨gv, 2, none⟩ = some (.float .f64 f) ∧ w'.cell? ⟨gv, 3, none⟩ = some (.string s) ∧ w'.cell? ⟨gv, 4, none⟩ = some (.slice A m c)) (by kernel_rfl) ?_ (fun hHeld => ?_)
  · exact ⟨x0, x1, x2, x3, x4, b0, b1, b2, b3, b4⟩
  refine wpAnyH_take (i := 0) (oi := { dst := some 35, op := Go.Op.move (Go.Operand.tmp 12), type := 32, pos := "law.go:63", after := #[], guard := none }) (v := ?_) rfl (by kernel_rfl) (by kernel_rfl) (by kernel_rfl) (fun _ _ _ h => h) (Or.inl ⟨by rfl, ?_⟩) (by assumption) ?_
  rotate_left
  · first | (intro w hSw; (try dsimp only at hSw); go_simp; done) | (intro w hSw; (try dsimp only at hSw); go_simp; with_reducible rfl)
  try simp only [Act.put, List.setIfInBounds_toArray, List.set_cons_zero, List.set_cons_succ]
  refine wpAnyH_take (i := 1) (oi := { dst := some 36, op := Go.Op.move (Go.Operand.tmp 1), type := 39, pos := "law.go:63", after := #[], guard := none }) (v := ?_) rfl (by kernel_rfl) (by kernel_rfl) (by kernel_rfl) (fun _ _ _ h => h) (Or.inl ⟨by rfl, ?_⟩) (by assumption) ?_
  rotate_left
  · first | (intro w hSw; (try dsimp only at hSw); go_simp; done) | (intro w hSw; (try dsimp only at hSw); go_simp; with_reducible rfl)
  try simp only [Act.put, List.setIfInBounds_toArray, List.set_cons_zero, List.set_cons_succ]
  refine wpAnyH_take (i := 2) (oi := { dst := some 37, op := Go.Op.convert 39 3 (Go.Operand.tmp 36), type := 3, pos := "law.go:63", after := #[{ on := 1, ground := Go.Ground.data }], guard := none }) (v := ?_) rfl (by kernel_rfl) (by kernel_rfl) (by kernel_rfl) (fun _ _ _ h => h) (Or.inl ⟨by rfl, ?_⟩) (by assumption) ?_
  rotate_left
  · first | (intro w hSw; (try dsimp only at hSw); go_simp; done) | (intro w hSw; (try dsimp only at hSw); go_simp; with_reducible rfl)
  try simp only [Act.put, List.setIfInBounds_toArray, List.set_cons_zero, List.set_cons_succ]
  refine wpAnyH_take (i := 3) (oi := { dst := some 38, op := Go.Op.binOp Go.BinOp.neq 3 (Go.Operand.tmp 35) (Go.Operand.tmp 37) 3, type := 4, pos := "law.go:63", after := #[{ on := 0, ground := Go.Ground.data }, { on := 2, ground := Go.Ground.data }], guard := none }) (v := ?_) rfl (by kernel_rfl) (by kernel_rfl) (by kernel_rfl) (fun _ _ _ h => h) (Or.inl ⟨by rfl, ?_⟩) (by assumption) ?_
  rotate_left
  · first | (intro w hSw; (try dsimp only at hSw); go_simp; done) | (intro w hSw; (try dsimp only at hSw); go_simp; with_reducible rfl)
  try simp only [Act.put, List.setIfInBounds_toArray, List.set_cons_zero, List.set_cons_succ]
  refine wpAnyH_take (i := 4) (oi := { dst := some 39, op := Go.Op.move (Go.Operand.tmp 38), type := 4, pos := "law.go:63", after := #[{ on := 3, ground := Go.Ground.data }], guard := none }) (v := ?_) rfl (by kernel_rfl) (by kernel_rfl) (by kernel_rfl) (fun _ _ _ h => h) (Or.inl ⟨by rfl, ?_⟩) (by assumption) ?_
  rotate_left
  · first | (intro w hSw; (try dsimp only at hSw); go_simp; done) | (intro w hSw; (try dsimp only at hSw); go_simp; with_reducible rfl)
  try simp only [Act.put, List.setIfInBounds_toArray, List.set_cons_zero, List.set_cons_succ]
  refine wpAnyH_take (i := 5) (oi := { dst := some 40, op := Go.Op.move (Go.Operand.tmp 1), type := 39, pos := "law.go:63", after := #[{ on := 4, ground := Go.Ground.guard }], guard := some (4, false) }) (v := ?_) rfl (by kernel_rfl) (by kernel_rfl) (by kernel_rfl) (fun _ _ _ h => h) (Or.inl ⟨by rfl, ?_⟩) (by assumption) ?_
  rotate_left
  · first | (intro w hSw; (try dsimp only at hSw); go_simp; done) | (intro w hSw; (try dsimp only at hSw); go_simp; with_reducible rfl)
  try simp only [Act.put, List.setIfInBounds_toArray, List.set_cons_zero, List.set_cons_succ]
  refine wpAnyH_take (i := 6) (oi := { dst := some 41, op := Go.Op.binOp Go.BinOp.eql 39 (Go.Operand.tmp 40) (Go.Operand.const (Go.Value.int Go.IntKind.u16 0)) 39, type := 4, pos := "law.go:63", after := #[{ on := 5, ground := Go.Ground.data }, { on := 4, ground := Go.Ground.guard }], guard := some (4, false) }) (v := ?_) rfl (by kernel_rfl) (by kernel_rfl) (by kernel_rfl) (fun _ _ _ h => h) (Or.inl ⟨by rfl, ?_⟩) (by assumption) ?_
  rotate_left
  · first | (intro w hSw; (try dsimp only at hSw); go_simp; done) | (intro w hSw; (try dsimp only at hSw); go_simp; with_reducible rfl)
  try simp only [Act.put, List.setIfInBounds_toArray, List.set_cons_zero, List.set_cons_succ]
  refine wpAnyH_take (i := 7) (oi := { dst := some 42, op := Go.Op.move (Go.Operand.tmp 41), type := 4, pos := "law.go:63", after := #[{ on := 6, ground := Go.Ground.data }, { on := 4, ground := Go.Ground.chain }, { on := 4, ground := Go.Ground.guard }], guard := some (4, false) }) (v := ?_) rfl (by kernel_rfl) (by kernel_rfl) (by kernel_rfl) (fun _ _ _ h => h) (Or.inl ⟨by rfl, ?_⟩) (by assumption) ?_
  rotate_left
  · first | (intro w hSw; (try dsimp only at hSw); go_simp; done) | (intro w hSw; (try dsimp only at hSw); go_simp; with_reducible rfl)
  try simp only [Act.put, List.setIfInBounds_toArray, List.set_cons_zero, List.set_cons_succ]
  refine wpAnyH_take (i := 8) (oi := { dst := some 43, op := Go.Op.load 31 (Go.Operand.tmp 11), type := 31, pos := "law.go:63", after := #[{ on := 7, ground := Go.Ground.guard }], guard := some (7, true) }) (v := undef) rfl (by kernel_rfl) (by kernel_rfl) (by kernel_rfl) (fun _ _ _ h => h) (Or.inr ⟨by rfl, rfl⟩) (by assumption) ?_
  try simp only [Act.put, List.setIfInBounds_toArray, List.set_cons_zero, List.set_cons_succ]
  refine wpAnyH_take (i := 9) (oi := { dst := some 44, op := Go.Op.call { callee := Go.Callee.value (Go.Operand.func 18), args := #[Go.Operand.tmp 43], argTypes := #[31] }, type := 31, pos := "law.go:63", after := #[{ on := 8, ground := Go.Ground.data }, { on := 7, ground := Go.Ground.chain }, { on := 7, ground := Go.Ground.guard }], guard := some (7, true) }) (v := undef) rfl (by kernel_rfl) (by kernel_rfl) (by kernel_rfl) (fun _ _ _ h => h) (Or.inr ⟨by rfl, rfl⟩) (by assumption) ?_
  try simp only [Act.put, List.setIfInBounds_toArray, List.set_cons_zero, List.set_cons_succ]
  refine wpAnyH_take (i := 10) (oi := { dst := some 45, op := Go.Op.load 31 (Go.Operand.tmp 5), type := 31, pos := "law.go:63", after := #[{ on := 7, ground := Go.Ground.guard }], guard := some (7, true) }) (v := undef) rfl (by kernel_rfl) (by kernel_rfl) (by kernel_rfl) (fun _ _ _ h => h) (Or.inr ⟨by rfl, rfl⟩) (by assumption) ?_
  try simp only [Act.put, List.setIfInBounds_toArray, List.set_cons_zero, List.set_cons_succ]
  refine wpAnyH_take (i := 11) (oi := { dst := some 46, op := Go.Op.call { callee := Go.Callee.value (Go.Operand.func 18), args := #[Go.Operand.tmp 45], argTypes := #[31] }, type := 31, pos := "law.go:63", after := #[{ on := 10, ground := Go.Ground.data }, { on := 9, ground := Go.Ground.chain }, { on := 7, ground := Go.Ground.guard }], guard := some (7, true) }) (v := undef) rfl (by kernel_rfl) (by kernel_rfl) (by kernel_rfl) (fun _ _ _ h => h) (Or.inr ⟨by rfl, rfl⟩) (by assumption) ?_
  try simp only [Act.put, List.setIfInBounds_toArray, List.set_cons_zero, List.set_cons_succ]
  refine wpAnyH_take (i := 12) (oi := { dst := some 47, op := Go.Op.call { callee := Go.Callee.value (Go.Operand.func 17), args := #[Go.Operand.tmp 44, Go.Operand.tmp 46], argTypes := #[31, 31] }, type := 4, pos := "law.go:63", after := #[{ on := 9, ground := Go.Ground.data }, { on := 11, ground := Go.Ground.data }, { on := 11, ground := Go.Ground.chain }, { on := 7, ground := Go.Ground.guard }], guard := some (7, true) }) (v := undef) rfl (by kernel_rfl) (by kernel_rfl) (by kernel_rfl) (fun _ _ _ h => h) (Or.inr ⟨by rfl, rfl⟩) (by assumption) ?_
  try simp only [Act.put, List.setIfInBounds_toArray, List.set_cons_zero, List.set_cons_succ]
  refine wpAnyH_take (i := 13) (oi := { dst := some 48, op := Go.Op.unOp Go.UnOp.not 4 (Go.Operand.tmp 47), type := 4, pos := "law.go:63", after := #[{ on := 12, ground := Go.Ground.data }, { on := 7, ground := Go.Ground.guard }], guard := some (7, true) }) (v := undef) rfl (by kernel_rfl) (by kernel_rfl) (by kernel_rfl) (fun _ _ _ h => h) (Or.inr ⟨by rfl, rfl⟩) (by assumption) ?_
  try simp only [Act.put, List.setIfInBounds_toArray, List.set_cons_zero, List.set_cons_succ]
  refine wpAnyH_take (i := 14) (oi := { dst := some 49, op := Go.Op.pick (Go.Operand.tmp 42) (Go.Operand.tmp 48) (Go.Operand.const (Go.Value.bool false)), type := 4, pos := "law.go:63", after := #[{ on := 7, ground := Go.Ground.data }, { on := 13, ground := Go.Ground.data }, { on := 4, ground := Go.Ground.guard }], guard := some (4, false) }) (v := ?_) rfl (by kernel_rfl) (by kernel_rfl) (by kernel_rfl) (fun _ _ _ h => h) (Or.inl ⟨by rfl, ?_⟩) (by assumption) ?_
  rotate_left
  · first | (intro w hSw; (try dsimp only at hSw); go_simp; done) | (intro w hSw; (try dsimp only at hSw); go_simp; with_reducible rfl)
  try simp only [Act.put, List.setIfInBounds_toArray, List.set_cons_zero, List.set_cons_succ]
  refine wpAnyH_take (i := 15) (oi := { dst := some 50, op := Go.Op.pick (Go.Operand.tmp 39) (Go.Operand.const (Go.Value.bool true)) (Go.Operand.tmp 49), type := 4, pos := "law.go:63", after := #[{ on := 4, ground := Go.Ground.data }, { on := 14, ground := Go.Ground.data }], guard := none }) (v := ?_) rfl (by kernel_rfl) (by kernel_rfl) (by kernel_rfl) (fun _ _ _ h => h) (Or.inl ⟨by rfl, ?_⟩) (by assumption) ?_
  rotate_left
  · first | (intro w hSw; (try dsimp only at hSw); go_simp; done) | (intro w hSw; (try dsimp only at hSw); go_simp; with_reducible rfl)
  try simp only [Act.put, List.setIfInBounds_toArray, List.set_cons_zero, List.set_cons_succ]
  refine wpAnyH_take (i := 16) (oi := { dst := some 51, op := Go.Op.move (Go.Operand.tmp 50), type := 4, pos := "law.go:63", after := #[{ on := 15, ground := Go.Ground.data }, { on := 12, ground := Go.Ground.chain }], guard := none }) (v := ?_) rfl (by kernel_rfl) (by kernel_rfl) (by kernel_rfl) (fun _ _ _ h => h) (Or.inl ⟨by rfl, ?_⟩) (by assumption) ?_
  rotate_left
  · first | (intro w hSw; (try dsimp only at hSw); go_simp; done) | (intro w hSw; (try dsimp only at hSw); go_simp; with_reducible rfl)
  try simp only [Act.put, List.setIfInBounds_toArray, List.set_cons_zero, List.set_cons_succ]
  refine wpAnyH_take (i := 17) (oi := { dst := some 52, op := Go.Op.move (Go.Operand.tmp 1), type := 39, pos := "law.go:63", after := #[{ on := 16, ground := Go.Ground.guard }], guard := some (16, false) }) (v := ?_) rfl (by kernel_rfl) (by kernel_rfl) (by kernel_rfl) (fun _ _ _ h => h) (Or.inl ⟨by rfl, ?_⟩) (by assumption) ?_
  rotate_left
  · first | (intro w hSw; (try dsimp only at hSw); go_simp; done) | (intro w hSw; (try dsimp only at hSw); go_simp; with_reducible rfl)
  try simp only [Act.put, List.setIfInBounds_toArray, List.set_cons_zero, List.set_cons_succ]
  refine wpAnyH_take (i := 18) (oi := { dst := some 53, op := Go.Op.binOp Go.BinOp.neq 39 (Go.Operand.tmp 52) (Go.Operand.const (Go.Value.int Go.IntKind.u16 0)) 39, type := 4, pos := "law.go:63", after := #[{ on := 17, ground := Go.Ground.data }, { on := 16, ground := Go.Ground.guard }], guard := some (16, false) }) (v := ?_) rfl (by kernel_rfl) (by kernel_rfl) (by kernel_rfl) (fun _ _ _ h => h) (Or.inl ⟨by rfl, ?_⟩) (by assumption) ?_
  rotate_left
  · first | (intro w hSw; (try dsimp only at hSw); go_simp; done) | (intro w hSw; (try dsimp only at hSw); go_simp; with_reducible rfl)
  try simp only [Act.put, List.setIfInBounds_toArray, List.set_cons_zero, List.set_cons_succ]
  refine wpAnyH_take (i := 19) (oi := { dst := some 54, op := Go.Op.move (Go.Operand.tmp 53), type := 4, pos := "law.go:63", after := #[{ on := 18, ground := Go.Ground.data }, { on := 16, ground := Go.Ground.chain }, { on := 16, ground := Go.Ground.guard }], guard := some (16, false) }) (v := ?_) rfl (by kernel_rfl) (by kernel_rfl) (by kernel_rfl) (fun _ _ _ h => h) (Or.inl ⟨by rfl, ?_⟩) (by assumption) ?_
  rotate_left
  · first | (intro w hSw; (try dsimp only at hSw); go_simp; done) | (intro w hSw; (try dsimp only at hSw); go_simp; with_reducible rfl)
  try simp only [Act.put, List.setIfInBounds_toArray, List.set_cons_zero, List.set_cons_succ]
  refine wpAnyH_take (i := 20) (oi := { dst := some 55, op := Go.Op.load 31 (Go.Operand.tmp 11), type := 31, pos := "law.go:63", after := #[{ on := 19, ground := Go.Ground.guard }], guard := some (19, true) }) (v := ?_) rfl (by kernel_rfl) (by kernel_rfl) (by kernel_rfl) (fun _ _ _ h => h) (Or.inl ⟨by rfl, ?_⟩) (by assumption) ?_
  rotate_left
  · first | (intro w hSw; (try dsimp only at hSw); go_simp; done) | (intro w hSw; (try dsimp only at hSw); go_simp; with_reducible rfl)
  try simp only [Act.put, List.setIfInBounds_toArray, List.set_cons_zero, List.set_cons_succ]
  refine wpAnyH_take (i := 21) (oi := { dst := some 56, op := Go.Op.build 31 #[], type := 31, pos := "law.go:63", after := #[{ on := 19, ground := Go.Ground.guard }], guard := some (19, true) }) (v := ?_) rfl (by kernel_rfl) (by kernel_rfl) (by kernel_rfl) (fun _ _ _ h => h) (Or.inl ⟨by rfl, ?_⟩) (by assumption) ?_
  rotate_left
  · first | (intro w hSw; (try dsimp only at hSw); go_simp; done) | (intro w hSw; (try dsimp only at hSw); go_simp; with_reducible rfl)
  try simp only [Act.put, List.setIfInBounds_toArray, List.set_cons_zero, List.set_cons_succ]
  refine wpAnyH_ready (rs := [22]) (by kernel_rfl) (by simp) ?_
  refine AllReadyH.cons (o := { dst := some 57, op := Go.Op.call { callee := Go.Callee.value (Go.Operand.func 17), args := #[Go.Operand.tmp 55, Go.Operand.tmp 56], argTypes := #[31, 31] }, type := 4, pos := "law.go:63", after := #[{ on := 20, ground := Go.Ground.data }, { on := 21, ground := Go.Ground.data }, { on := 19, ground := Go.Ground.chain }, { on := 19, ground := Go.Ground.guard }], guard := some (19, true) }) rfl (fun K hK => ?_) AllReadyH.nil
  go_simp
  refine (same17 zeroV _ (fun _ => True) _ (zeroRV _) (fun _ => True) _ (zeroRV _)).mono ?_
  rintro e w8 ⟨rfl, hb3⟩
  refine hK.out _ _ ?_ (fun hHeld => ?_)
  · exact tenS2 (W := w7.drew) KX.out KV.out hb3
  clear hK K
  try simp only [Act.put, List.setIfInBounds_toArray, List.set_cons_zero, List.set_cons_succ]
  refine wpAnyH_take (i := 23) (oi := { dst := some 58, op := Go.Op.unOp Go.UnOp.not 4 (Go.Operand.tmp 57), type := 4, pos := "law.go:63", after := #[{ on := 22, ground := Go.Ground.data }, { on := 19, ground := Go.Ground.guard }], guard := some (19, true) }) (v := ?_) rfl (by kernel_rfl) (by kernel_rfl) (by kernel_rfl) (fun _ _ _ h => h) (Or.inl ⟨by rfl, ?_⟩) (by assumption) ?_
  rotate_left
  · first | (intro w hSw; (try dsimp only at hSw); go_simp; done) | (intro w hSw; (try dsimp only at hSw); go_simp; with_reducible rfl)
  try simp only [Act.put, List.setIfInBounds_toArray, List.set_cons_zero, List.set_cons_succ]
  refine wpAnyH_take (i := 24) (oi := { dst := some 59, op := Go.Op.pick (Go.Operand.tmp 54) (Go.Operand.tmp 58) (Go.Operand.const (Go.Value.bool false)), type := 4, pos := "law.go:63", after := #[{ on := 19, ground := Go.Ground.data }, { on := 23, ground := Go.Ground.data }, { on := 16, ground := Go.Ground.guard }], guard := some (16, false) }) (v := ?_) rfl (by kernel_rfl) (by kernel_rfl) (by kernel_rfl) (fun _ _ _ h => h) (Or.inl ⟨by rfl, ?_⟩) (by assumption) ?_
  rotate_left
  · first | (intro w hSw; (try dsimp only at hSw); go_simp; done) | (intro w hSw; (try dsimp only at hSw); go_simp; with_reducible rfl)
  try simp only [Act.put, List.setIfInBounds_toArray, List.set_cons_zero, List.set_cons_succ]
  refine wpAnyH_take (i := 25) (oi := { dst := some 60, op := Go.Op.pick (Go.Operand.tmp 51) (Go.Operand.const (Go.Value.bool true)) (Go.Operand.tmp 59), type := 4, pos := "law.go:63", after := #[{ on := 16, ground := Go.Ground.data }, { on := 24, ground := Go.Ground.data }], guard := none }) (v := ?_) rfl (by kernel_rfl) (by kernel_rfl) (by kernel_rfl) (fun _ _ _ h => h) (Or.inl ⟨by rfl, ?_⟩) (by assumption) ?_
  rotate_left
  · first | (intro w hSw; (try dsimp only at hSw); go_simp; done) | (intro w hSw; (try dsimp only at hSw); go_simp; with_reducible rfl)
  try simp only [Act.put, List.setIfInBounds_toArray, List.set_cons_zero, List.set_cons_succ]
  refine wpAnyH_done (by kernel_rfl) ?_ _
  have HB8 := Aside0.mk (below_step HB.out.drew hb3)
  have HB7 := Aside0.mk hb3
  clear hb3 hHeld x0 x1 x2 x3 x4 b0 b1 b2 b3 b4 HB
  have KX8 := Aside0.mk (blk_below (w := w7.drew) KX.out HB7.out)
  clear KX KV
  go_upto_region 10 with (first
    | (go_at_call 13; refine (rises13 _ _ _ _).mono ?_; rintro e w11 ⟨hb, a', b', c', rfl, ha, hbb, hc⟩; have HB8 := Aside0.mk (below_step HB8.out hb); have A3 := Aside0.mk ha; have A4 := Aside0.mk hbb; have A5 := Aside0.mk hc; clear hb ha hbb hc)
    | (go_at_call 11; (with_reducible refine (run_rises a' b' c' how n t HT.out HH.out.1 _ A3.out A4.out A5.out).mono ?_); rintro e w12 ⟨rfl, hb⟩; have HB8 := Aside0.mk (below_step HB8.out hb); clear hb)
    | (go_at_call 11; (with_reducible refine (run11_nil _).mono ?_); rintro e w15 ⟨rfl, hs, _⟩; have KY := Aside0.mk (blk_below KY.out hs.below); have HB8 := Aside0.mk (below_step HB8.out hs.below); clear hs)
    | ((with_reducible refine gate_dst (N := 13) rfl ?_); refine box_event ?hg (N := 13) ?hd (cs := #[.int .i64 0, .int .i64 0, .float .f64 0, .string ⟨#[]⟩, .slice none 0 0]) (t := 31) ?hr ?_; (case hd => rfl); (case hg => rfl); (case hr => first | (go_simp; done) | (go_simp; rfl)); intro gy hg w13 hbox hb; have HG2 := Aside0.mk (show w.heap.size ≤ gy by (have h1_ := HB8.out.size; omega)); have HB8 := Aside0.mk (below_step HB8.out hb); have KY := Aside0.mk hbox; clear hg hbox hb)
    | ((with_reducible refine gate_store (t := 31) (p := 13) rfl ?_); refine put_eventU ?hg (t := 31) (p := 13) (v := .tmp 67) ?ho ?hN (g := gy) (u := .agg #[.int .i64 0, .int .i64 0, .float .f64 0, .string ⟨#[]⟩, .slice none 0 0]) (cs := #[.int .i64 0, .int .i64 0, .float .f64 0, .string ⟨#[]⟩, .slice none 0 0]) ?hp ?hv KY.out ?hs ?hi ?h1 ?hc ?_; (case hs => rfl); (case hi => kernel_rfl); (case h1 => simp [Value.oneCell']); (case hc => simp [Value.cells]); (case hg => rfl); (case ho => rfl); (case hN => rfl); (case hp => rfl); (case hv => rfl); intro w14 hk hs; have HB8 := Aside0.mk (below_keep HB8.out HG2.out hs); have KY := Aside0.mk hk; clear hk hs)
    | ((with_reducible refine gate_dst (N := 15) rfl ?_); refine box_event ?hg (N := 15) ?hd (cs := #[.int .i64 0, .int .i64 0, .float .f64 0, .string ⟨#[]⟩, .slice none 0 0]) (t := 31) ?hr ?_; (case hd => rfl); (case hg => rfl); (case hr => first | (go_simp; done) | (go_simp; rfl)); intro gz hg w16 hbox hb; have HG3 := Aside0.mk (show w.heap.size ≤ gz ∧ gy ≠ gz by (have h1_ := HB8.out.size; have h2_ := blk_lt KY.out; omega)); have HB8 := Aside0.mk (below_step HB8.out hb); have KY := Aside0.mk (blk_below KY.out hb); have KZ := Aside0.mk hbox; clear hg hbox hb)
    | ((with_reducible refine gate_store (t := 31) (p := 15) rfl ?_); refine put_eventU ?hg (t := 31) (p := 15) (v := .tmp 71) ?ho ?hN (g := gz) (u := .agg #[.int .i64 0, .int .i64 0, .float .f64 0, .string ⟨#[]⟩, .slice none 0 0]) (cs := #[.int .i64 0, .int .i64 0, .float .f64 0, .string ⟨#[]⟩, .slice none 0 0]) ?hp ?hv KZ.out ?hs ?hi ?h1 ?hc ?_; (case hs => rfl); (case hi => kernel_rfl); (case h1 => simp [Value.oneCell']); (case hc => simp [Value.cells]); (case hg => rfl); (case ho => rfl); (case hN => rfl); (case hp => rfl); (case hv => rfl); intro w17 hk hs; have HB8 := Aside0.mk (below_keep HB8.out HG3.out.1 hs); have KY := Aside0.mk (hs.blk KY.out HG3.out.2); have KZ := Aside0.mk hk; clear hk hs))
  have z0 : w17.cell? ⟨gy, 0, none⟩ = some (.int .i64 0) := blk_cell KY.out 0
  have z1 : w17.cell? ⟨gy, 1, none⟩ = some (.int .i64 0) := blk_cell KY.out 1
  have z2 : w17.cell? ⟨gy, 2, none⟩ = some (.float .f64 0) := blk_cell KY.out 2
  have z3 : w17.cell? ⟨gy, 3, none⟩ = some (.string ⟨#[]⟩) := blk_cell KY.out 3
  have z4 : w17.cell? ⟨gy, 4, none⟩ = some (.slice none 0 0) := blk_cell KY.out 4
  go_wp2_with (go_at_call 17; refine (same17 zeroV _ (fun _ => True) _ (zeroRV _) (fun _ => True) _ (zeroRV _)).mono ?_; rintro e w18 ⟨rfl, hb⟩; clear z0 z1 z2 z3 z4; have HB8 := Aside0.mk (below_step HB8.out hb); have KZ := Aside0.mk (blk_below KZ.out hb); clear hb; have z0 : w18.cell? ⟨gz, 0, none⟩ = some (.int .i64 0) := blk_cell KZ.out 0; have z1 : w18.cell? ⟨gz, 1, none⟩ = some (.int .i64 0) := blk_cell KZ.out 1; have z2 : w18.cell? ⟨gz, 2, none⟩ = some (.float .f64 0) := blk_cell KZ.out 2; have z3 : w18.cell? ⟨gz, 3, none⟩ = some (.string ⟨#[]⟩) := blk_cell KZ.out 3; have z4 : w18.cell? ⟨gz, 4, none⟩ = some (.slice none 0 0) := blk_cell KZ.out 4)
  go_ret
  exact ⟨rfl, HB8.out⟩
set_option maxHeartbeats 8000000 in
set_option maxRecDepth 100000 in
theorem runs5_0 (v : Val) (cs : Array Value) (how n : Int) (t : ByteArray) (ok : Nat → Prop) (w : World) (hR : RV w ok v cs) (h40 : (t.size : Int) ≤ 40) (hh : 0 ≤ how ∧ how ≤ 255) :
    Calls Tryd.prog 5 #[.agg cs, .int .u16 0, .int .u8 how, .string t, .int .i64 n] w fun e w' => e = .returned (.bool true) ∧ Below w.heap.size w w' := by
  have hmf : ∀ (fn : Fn) (first cap : Array Value) (w : World), (Instr.makeFunc fn first cap).run Tryd.prog w = .ok (.func fn first cap) w := fun _ _ _ _ => rfl
  obtain ⟨k, i, f, s, A, m, c, rfl⟩ := hR.form
  have HR := Aside0.mk hR
  have HH := Aside0.mk hh
  have HT := Aside0.mk (show t.size ≤ 100 by omega)
  clear hR hh
  go_enter Tryd.func5, Tryd.ntmps5
  go_upto_region 3 with (first
    | ((with_reducible refine gate_dst (N := 5) rfl ?_); refine box_event ?hg (N := 5) ?hd (cs := #[.int .i64 k, .int .i64 i, .float .f64 f, .string s, .slice A m c]) (t := 31) ?hr ?_; (case hd => rfl); (case hg => rfl); (case hr => first | (go_simp; done) | (go_simp; rfl)); intro gv hg w1 hbox hb; have HB := Aside0.mk hb; have KV := Aside0.mk hbox; clear hg hbox hb)
    | (go_at_call 7; refine (known7 _).mono ?_; rintro e w2 ⟨rfl, hb⟩; have KV := Aside0.mk (blk_below KV.out hb); have HB := Aside0.mk (below_step HB.out hb); clear hb))
  have b0 : w2.cell? ⟨gv, 0, none⟩ = some (.int .i64 k) := blk_cell KV.out 0
  have b1 : w2.cell? ⟨gv, 1, none⟩ = some (.int .i64 i) := blk_cell KV.out 1
  have b2 : w2.cell? ⟨gv, 2, none⟩ = some (.float .f64 f) := blk_cell KV.out 2
  have b3 : w2.cell? ⟨gv, 3, none⟩ = some (.string s) := blk_cell KV.out 3
  have b4 : w2.cell? ⟨gv, 4, none⟩ = some (.slice A m c) := blk_cell KV.out 4
  go_upto_region 5 with (first
    | (go_at_call 15; refine (light15 _ _ _ _ (HR.out.kept HB.out)).mono ?_; rintro e w3 ⟨⟨lb, rfl⟩, hb⟩; have KV := Aside0.mk (blk_below KV.out hb); have HB := Aside0.mk (below_step HB.out hb); clear hb; clear b0 b1 b2 b3 b4))
  rotate_left
  · go_ret
    exact ⟨rfl, HB.out⟩
  have b0 : w3.cell? ⟨gv, 0, none⟩ = some (.int .i64 k) := blk_cell KV.out 0
  have b1 : w3.cell? ⟨gv, 1, none⟩ = some (.int .i64 i) := blk_cell KV.out 1
  have b2 : w3.cell? ⟨gv, 2, none⟩ = some (.float .f64 f) := blk_cell KV.out 2
  have b3 : w3.cell? ⟨gv, 3, none⟩ = some (.string s) := blk_cell KV.out 3
  have b4 : w3.cell? ⟨gv, 4, none⟩ = some (.slice A m c) := blk_cell KV.out 4
  go_upto_region 6 with (first
    | (go_at_call 16; refine (told16 _ _ _ _ _ _ _ _ _).mono ?_; rintro e w4 ⟨hb, a, b, rfl, ha, hbb⟩; have KV := Aside0.mk (blk_below KV.out hb); have HB := Aside0.mk (below_step HB.out hb); have A1 := Aside0.mk ha; have A2 := Aside0.mk hbb; clear hb ha hbb; clear b0 b1 b2 b3 b4)
    | (go_at_call 11; refine (run_told0 k i f s A m c a b _ A1.out A2.out).mono ?_; rintro e w5 ⟨rfl, hb⟩; have KV := Aside0.mk (blk_below KV.out hb); have HB := Aside0.mk (below_step HB.out hb); clear hb)
    | ((with_reducible refine gate_dst (N := 11) rfl ?_); refine box_event ?hg (N := 11) ?hd (cs := #[.int .i64 0, .int .i64 0, .float .f64 0, .string ⟨#[]⟩, .slice none 0 0]) (t := 31) ?hr ?_; (case hd => rfl); (case hg => rfl); (case hr => first | (go_simp; done) | (go_simp; rfl)); intro gx hg w6 hbox hb; have HG := Aside0.mk (show w.heap.size ≤ gx ∧ gv < gx by (have h1_ := HB.out.size; have h2_ := blk_lt KV.out; omega)); have KV := Aside0.mk (blk_below KV.out hb); have KX := Aside0.mk hbox; have HB := Aside0.mk (below_step HB.out hb); clear hg hbox hb)
    | ((with_reducible refine gate_store (t := 31) (p := 11) rfl ?_); refine put_eventU ?hg (t := 31) (p := 11) (v := .tmp 33) ?ho ?hN (g := gx) (u := .agg #[.int .i64 k, .int .i64 i, .float .f64 f, .string s, .slice A m c]) (cs := #[.int .i64 k, .int .i64 i, .float .f64 f, .string s, .slice A m c]) ?hp ?hv KX.out ?hs ?hi ?h1 ?hc ?_; (case hs => rfl); (case hi => kernel_rfl); (case h1 => simp [Value.oneCell']); (case hc => simp [Value.cells]); (case hg => rfl); (case ho => rfl); (case hN => rfl); (case hp => rfl); (case hv => rfl); intro w7 hk hs; have HB := Aside0.mk (below_keep HB.out HG.out.1 hs); have KV := Aside0.mk (hs.blk KV.out (by have := HG.out; omega)); have KX := Aside0.mk hk; clear hk hs))
  have x0 : w7.cell? ⟨gx, 0, none⟩ = some (.int .i64 k) := blk_cell KX.out 0
  have x1 : w7.cell? ⟨gx, 1, none⟩ = some (.int .i64 i) := blk_cell KX.out 1
  have x2 : w7.cell? ⟨gx, 2, none⟩ = some (.float .f64 f) := blk_cell KX.out 2
  have x3 : w7.cell? ⟨gx, 3, none⟩ = some (.string s) := blk_cell KX.out 3
  have x4 : w7.cell? ⟨gx, 4, none⟩ = some (.slice A m c) := blk_cell KX.out 4
  have b0 : w7.cell? ⟨gv, 0, none⟩ = some (.int .i64 k) := blk_cell KV.out 0
  have b1 : w7.cell? ⟨gv, 1, none⟩ = some (.int .i64 i) := blk_cell KV.out 1
  have b2 : w7.cell? ⟨gv, 2, none⟩ = some (.float .f64 f) := blk_cell KV.out 2
  have b3 : w7.cell? ⟨gv, 3, none⟩ = some (.string s) := blk_cell KV.out 3
  have b4 : w7.cell? ⟨gv, 4, none⟩ = some (.slice A m c) := blk_cell KV.out 4
  refine wp_region_held_drew (S := fun w' => w'.cell? ⟨gx, 0, none⟩ = some (.int .i64 k) ∧ w'.cell? ⟨gx, 1, none⟩ = some (.int .i64 i) ∧ w'.cell? ⟨gx, 2, none⟩ = some (.float .f64 f) ∧ w'.cell? ⟨gx, 3, none⟩ = some (.string s) ∧ w'.cell? ⟨gx, 4, none⟩ = some (.slice A m c) ∧ w'.cell? ⟨gv, 0, none⟩ = some (.int .i64 k) ∧ w'.cell? ⟨gv, 1, none⟩ = some (.int .i64 i) ∧ w'.cell? ⟨gv, 2, none⟩ = some (.float .f64 f) ∧ w'.cell? ⟨gv, 3, none⟩ = some (.string s) ∧ w'.cell? ⟨gv, 4, none⟩ = some (.slice A m c)) (by kernel_rfl) ?_ (fun hHeld => ?_)
  · exact ⟨x0, x1, x2, x3, x4, b0, b1, b2, b3, b4⟩
  refine wpAnyH_take (i := 0) (oi := { dst := some 35, op := Go.Op.move (Go.Operand.tmp 12), type := 32, pos := "law.go:63", after := #[], guard := none }) (v := ?_) rfl (by kernel_rfl) (by kernel_rfl) (by kernel_rfl) (fun _ _ _ h => h) (Or.inl ⟨by rfl, ?_⟩) (by assumption) ?_
  rotate_left
  · first | (intro w hSw; (try dsimp only at hSw); go_simp; done) | (intro w hSw; (try dsimp only at hSw); go_simp; with_reducible rfl)
  try simp only [Act.put, List.setIfInBounds_toArray, List.set_cons_zero, List.set_cons_succ]
  refine wpAnyH_take (i := 1) (oi := { dst := some 36, op := Go.Op.move (Go.Operand.tmp 1), type := 39, pos := "law.go:63", after := #[], guard := none }) (v := ?_) rfl (by kernel_rfl) (by kernel_rfl) (by kernel_rfl) (fun _ _ _ h => h) (Or.inl ⟨by rfl, ?_⟩) (by assumption) ?_
  rotate_left
  · first | (intro w hSw; (try dsimp only at hSw); go_simp; done) | (intro w hSw; (try dsimp only at hSw); go_simp; with_reducible rfl)
  try simp only [Act.put, List.setIfInBounds_toArray, List.set_cons_zero, List.set_cons_succ]
  refine wpAnyH_take (i := 2) (oi := { dst := some 37, op := Go.Op.convert 39 3 (Go.Operand.tmp 36), type := 3, pos := "law.go:63", after := #[{ on := 1, ground := Go.Ground.data }], guard := none }) (v := ?_) rfl (by kernel_rfl) (by kernel_rfl) (by kernel_rfl) (fun _ _ _ h => h) (Or.inl ⟨by rfl, ?_⟩) (by assumption) ?_
  rotate_left
  · first | (intro w hSw; (try dsimp only at hSw); go_simp; done) | (intro w hSw; (try dsimp only at hSw); go_simp; with_reducible rfl)
  try simp only [Act.put, List.setIfInBounds_toArray, List.set_cons_zero, List.set_cons_succ]
  refine wpAnyH_take (i := 3) (oi := { dst := some 38, op := Go.Op.binOp Go.BinOp.neq 3 (Go.Operand.tmp 35) (Go.Operand.tmp 37) 3, type := 4, pos := "law.go:63", after := #[{ on := 0, ground := Go.Ground.data }, { on := 2, ground := Go.Ground.data }], guard := none }) (v := ?_) rfl (by kernel_rfl) (by kernel_rfl) (by kernel_rfl) (fun _ _ _ h => h) (Or.inl ⟨by rfl, ?_⟩) (by assumption) ?_
  rotate_left
  · first | (intro w hSw; (try dsimp only at hSw); go_simp; done) | (intro w hSw; (try dsimp only at hSw); go_simp; with_reducible rfl)
  try simp only [Act.put, List.setIfInBounds_toArray, List.set_cons_zero, List.set_cons_succ]
  refine wpAnyH_take (i := 4) (oi := { dst := some 39, op := Go.Op.move (Go.Operand.tmp 38), type := 4, pos := "law.go:63", after := #[{ on := 3, ground := Go.Ground.data }], guard := none }) (v := ?_) rfl (by kernel_rfl) (by kernel_rfl) (by kernel_rfl) (fun _ _ _ h => h) (Or.inl ⟨by rfl, ?_⟩) (by assumption) ?_
  rotate_left
  · first | (intro w hSw; (try dsimp only at hSw); go_simp; done) | (intro w hSw; (try dsimp only at hSw); go_simp; with_reducible rfl)
  try simp only [Act.put, List.setIfInBounds_toArray, List.set_cons_zero, List.set_cons_succ]
  refine wpAnyH_take (i := 5) (oi := { dst := some 40, op := Go.Op.move (Go.Operand.tmp 1), type := 39, pos := "law.go:63", after := #[{ on := 4, ground := Go.Ground.guard }], guard := some (4, false) }) (v := ?_) rfl (by kernel_rfl) (by kernel_rfl) (by kernel_rfl) (fun _ _ _ h => h) (Or.inl ⟨by rfl, ?_⟩) (by assumption) ?_
  rotate_left
  · first | (intro w hSw; (try dsimp only at hSw); go_simp; done) | (intro w hSw; (try dsimp only at hSw); go_simp; with_reducible rfl)
  try simp only [Act.put, List.setIfInBounds_toArray, List.set_cons_zero, List.set_cons_succ]
  refine wpAnyH_take (i := 6) (oi := { dst := some 41, op := Go.Op.binOp Go.BinOp.eql 39 (Go.Operand.tmp 40) (Go.Operand.const (Go.Value.int Go.IntKind.u16 0)) 39, type := 4, pos := "law.go:63", after := #[{ on := 5, ground := Go.Ground.data }, { on := 4, ground := Go.Ground.guard }], guard := some (4, false) }) (v := ?_) rfl (by kernel_rfl) (by kernel_rfl) (by kernel_rfl) (fun _ _ _ h => h) (Or.inl ⟨by rfl, ?_⟩) (by assumption) ?_
  rotate_left
  · first | (intro w hSw; (try dsimp only at hSw); go_simp; done) | (intro w hSw; (try dsimp only at hSw); go_simp; with_reducible rfl)
  try simp only [Act.put, List.setIfInBounds_toArray, List.set_cons_zero, List.set_cons_succ]
  refine wpAnyH_take (i := 7) (oi := { dst := some 42, op := Go.Op.move (Go.Operand.tmp 41), type := 4, pos := "law.go:63", after := #[{ on := 6, ground := Go.Ground.data }, { on := 4, ground := Go.Ground.chain }, { on := 4, ground := Go.Ground.guard }], guard := some (4, false) }) (v := ?_) rfl (by kernel_rfl) (by kernel_rfl) (by kernel_rfl) (fun _ _ _ h => h) (Or.inl ⟨by rfl, ?_⟩) (by assumption) ?_
  rotate_left
  · first | (intro w hSw; (try dsimp only at hSw); go_simp; done) | (intro w hSw; (try dsimp only at hSw); go_simp; with_reducible rfl)
  try simp only [Act.put, List.setIfInBounds_toArray, List.set_cons_zero, List.set_cons_succ]
  refine wpAnyH_take (i := 8) (oi := { dst := some 43, op := Go.Op.load 31 (Go.Operand.tmp 11), type := 31, pos := "law.go:63", after := #[{ on := 7, ground := Go.Ground.guard }], guard := some (7, true) }) (v := ?_) rfl (by kernel_rfl) (by kernel_rfl) (by kernel_rfl) (fun _ _ _ h => h) (Or.inl ⟨by rfl, ?_⟩) (by assumption) ?_
  rotate_left
  · first | (intro w hSw; (try dsimp only at hSw); go_simp; done) | (intro w hSw; (try dsimp only at hSw); go_simp; with_reducible rfl)
  try simp only [Act.put, List.setIfInBounds_toArray, List.set_cons_zero, List.set_cons_succ]
  refine wpAnyH_take (i := 10) (oi := { dst := some 45, op := Go.Op.load 31 (Go.Operand.tmp 5), type := 31, pos := "law.go:63", after := #[{ on := 7, ground := Go.Ground.guard }], guard := some (7, true) }) (v := ?_) rfl (by kernel_rfl) (by kernel_rfl) (by kernel_rfl) (fun _ _ _ h => h) (Or.inl ⟨by rfl, ?_⟩) (by assumption) ?_
  rotate_left
  · first | (intro w hSw; (try dsimp only at hSw); go_simp; done) | (intro w hSw; (try dsimp only at hSw); go_simp; with_reducible rfl)
  try simp only [Act.put, List.setIfInBounds_toArray, List.set_cons_zero, List.set_cons_succ]
  refine wpAnyH_ready (rs := [9]) (by kernel_rfl) (by simp) ?_
  refine AllReadyH.cons (o := { dst := some 44, op := Go.Op.call { callee := Go.Callee.value (Go.Operand.func 18), args := #[Go.Operand.tmp 43], argTypes := #[31] }, type := 31, pos := "law.go:63", after := #[{ on := 8, ground := Go.Ground.data }, { on := 7, ground := Go.Ground.chain }, { on := 7, ground := Go.Ground.guard }], guard := some (7, true) }) rfl (fun K hK => ?_) AllReadyH.nil
  · go_simp
    refine (clean18 v _ ok _ (HR.out.kept HB.out.drew)).mono ?_
    rintro e w8 ⟨cs1, rfl, hv1, hb1⟩
    refine hK.out _ _ ?_ (fun hHeld => ?_)
    · exact tenS (W := w7.drew) KX.out KV.out hb1
    clear hK K
    try simp only [Act.put, List.setIfInBounds_toArray, List.set_cons_zero, List.set_cons_succ]
    refine wpAnyH_ready (rs := [11]) (by kernel_rfl) (by simp) ?_
    refine AllReadyH.cons (o := { dst := some 46, op := Go.Op.call { callee := Go.Callee.value (Go.Operand.func 18), args := #[Go.Operand.tmp 45], argTypes := #[31] }, type := 31, pos := "law.go:63", after := #[{ on := 10, ground := Go.Ground.data }, { on := 9, ground := Go.Ground.chain }, { on := 7, ground := Go.Ground.guard }], guard := some (7, true) }) rfl (fun K hK => ?_) AllReadyH.nil
    go_simp
    refine (clean18 v _ ok _ (HR.out.kept (below_step HB.out.drew hb1))).mono ?_
    rintro e w9 ⟨cs2, rfl, hv2, hb2⟩
    refine hK.out _ _ ?_ (fun hHeld => ?_)
    · exact tenS (W := w7.drew) KX.out KV.out (below_step hb1 hb2)
    clear hK K
    try simp only [Act.put, List.setIfInBounds_toArray, List.set_cons_zero, List.set_cons_succ]
    refine wpAnyH_ready (rs := [12]) (by kernel_rfl) (by simp) ?_
    refine AllReadyH.cons (o := { dst := some 47, op := Go.Op.call { callee := Go.Callee.value (Go.Operand.func 17), args := #[Go.Operand.tmp 44, Go.Operand.tmp 46], argTypes := #[31, 31] }, type := 4, pos := "law.go:63", after := #[{ on := 9, ground := Go.Ground.data }, { on := 11, ground := Go.Ground.data }, { on := 11, ground := Go.Ground.chain }, { on := 7, ground := Go.Ground.guard }], guard := some (7, true) }) rfl (fun K hK => ?_) AllReadyH.nil
    go_simp
    refine (same17 _ _ _ _ (hv1.kept hb2) _ _ hv2).mono ?_
    rintro e w10 ⟨rfl, hb3⟩
    refine hK.out _ _ ?_ (fun hHeld => ?_)
    · exact tenS (W := w7.drew) KX.out KV.out (below_step (below_step hb1 hb2) hb3)
    clear hK K
    try simp only [Act.put, List.setIfInBounds_toArray, List.set_cons_zero, List.set_cons_succ]
    refine wpAnyH_take (i := 13) (oi := { dst := some 48, op := Go.Op.unOp Go.UnOp.not 4 (Go.Operand.tmp 47), type := 4, pos := "law.go:63", after := #[{ on := 12, ground := Go.Ground.data }, { on := 7, ground := Go.Ground.guard }], guard := some (7, true) }) (v := ?_) rfl (by kernel_rfl) (by kernel_rfl) (by kernel_rfl) (fun _ _ _ h => h) (Or.inl ⟨by rfl, ?_⟩) (by assumption) ?_
    rotate_left
    · first | (intro w hSw; (try dsimp only at hSw); go_simp; done) | (intro w hSw; (try dsimp only at hSw); go_simp; with_reducible rfl)
    try simp only [Act.put, List.setIfInBounds_toArray, List.set_cons_zero, List.set_cons_succ]
    refine wpAnyH_take (i := 14) (oi := { dst := some 49, op := Go.Op.pick (Go.Operand.tmp 42) (Go.Operand.tmp 48) (Go.Operand.const (Go.Value.bool false)), type := 4, pos := "law.go:63", after := #[{ on := 7, ground := Go.Ground.data }, { on := 13, ground := Go.Ground.data }, { on := 4, ground := Go.Ground.guard }], guard := some (4, false) }) (v := ?_) rfl (by kernel_rfl) (by kernel_rfl) (by kernel_rfl) (fun _ _ _ h => h) (Or.inl ⟨by rfl, ?_⟩) (by assumption) ?_
    rotate_left
    · first | (intro w hSw; (try dsimp only at hSw); go_simp; done) | (intro w hSw; (try dsimp only at hSw); go_simp; with_reducible rfl)
    try simp only [Act.put, List.setIfInBounds_toArray, List.set_cons_zero, List.set_cons_succ]
    refine wpAnyH_take (i := 15) (oi := { dst := some 50, op := Go.Op.pick (Go.Operand.tmp 39) (Go.Operand.const (Go.Value.bool true)) (Go.Operand.tmp 49), type := 4, pos := "law.go:63", after := #[{ on := 4, ground := Go.Ground.data }, { on := 14, ground := Go.Ground.data }], guard := none }) (v := ?_) rfl (by kernel_rfl) (by kernel_rfl) (by kernel_rfl) (fun _ _ _ h => h) (Or.inl ⟨by rfl, ?_⟩) (by assumption) ?_
    rotate_left
    · first | (intro w hSw; (try dsimp only at hSw); go_simp; done) | (intro w hSw; (try dsimp only at hSw); go_simp; with_reducible rfl)
    try simp only [Act.put, List.setIfInBounds_toArray, List.set_cons_zero, List.set_cons_succ]
    refine wpAnyH_take (i := 16) (oi := { dst := some 51, op := Go.Op.move (Go.Operand.tmp 50), type := 4, pos := "law.go:63", after := #[{ on := 15, ground := Go.Ground.data }, { on := 12, ground := Go.Ground.chain }], guard := none }) (v := ?_) rfl (by kernel_rfl) (by kernel_rfl) (by kernel_rfl) (fun _ _ _ h => h) (Or.inl ⟨by rfl, ?_⟩) (by assumption) ?_
    rotate_left
    · first | (intro w hSw; (try dsimp only at hSw); go_simp; done) | (intro w hSw; (try dsimp only at hSw); go_simp; with_reducible rfl)
    try simp only [Act.put, List.setIfInBounds_toArray, List.set_cons_zero, List.set_cons_succ]
    refine wpAnyH_take (i := 17) (oi := { dst := some 52, op := Go.Op.move (Go.Operand.tmp 1), type := 39, pos := "law.go:63", after := #[{ on := 16, ground := Go.Ground.guard }], guard := some (16, false) }) (v := ?_) rfl (by kernel_rfl) (by kernel_rfl) (by kernel_rfl) (fun _ _ _ h => h) (Or.inl ⟨by rfl, ?_⟩) (by assumption) ?_
    rotate_left
    · first | (intro w hSw; (try dsimp only at hSw); go_simp; done) | (intro w hSw; (try dsimp only at hSw); go_simp; with_reducible rfl)
    try simp only [Act.put, List.setIfInBounds_toArray, List.set_cons_zero, List.set_cons_succ]
    refine wpAnyH_take (i := 18) (oi := { dst := some 53, op := Go.Op.binOp Go.BinOp.neq 39 (Go.Operand.tmp 52) (Go.Operand.const (Go.Value.int Go.IntKind.u16 0)) 39, type := 4, pos := "law.go:63", after := #[{ on := 17, ground := Go.Ground.data }, { on := 16, ground := Go.Ground.guard }], guard := some (16, false) }) (v := ?_) rfl (by kernel_rfl) (by kernel_rfl) (by kernel_rfl) (fun _ _ _ h => h) (Or.inl ⟨by rfl, ?_⟩) (by assumption) ?_
    rotate_left
    · first | (intro w hSw; (try dsimp only at hSw); go_simp; done) | (intro w hSw; (try dsimp only at hSw); go_simp; with_reducible rfl)
    try simp only [Act.put, List.setIfInBounds_toArray, List.set_cons_zero, List.set_cons_succ]
    refine wpAnyH_take (i := 19) (oi := { dst := some 54, op := Go.Op.move (Go.Operand.tmp 53), type := 4, pos := "law.go:63", after := #[{ on := 18, ground := Go.Ground.data }, { on := 16, ground := Go.Ground.chain }, { on := 16, ground := Go.Ground.guard }], guard := some (16, false) }) (v := ?_) rfl (by kernel_rfl) (by kernel_rfl) (by kernel_rfl) (fun _ _ _ h => h) (Or.inl ⟨by rfl, ?_⟩) (by assumption) ?_
    rotate_left
    · first | (intro w hSw; (try dsimp only at hSw); go_simp; done) | (intro w hSw; (try dsimp only at hSw); go_simp; with_reducible rfl)
    try simp only [Act.put, List.setIfInBounds_toArray, List.set_cons_zero, List.set_cons_succ]
    refine wpAnyH_take (i := 20) (oi := { dst := some 55, op := Go.Op.load 31 (Go.Operand.tmp 11), type := 31, pos := "law.go:63", after := #[{ on := 19, ground := Go.Ground.guard }], guard := some (19, true) }) (v := undef) rfl (by kernel_rfl) (by kernel_rfl) (by kernel_rfl) (fun _ _ _ h => h) (Or.inr ⟨by rfl, rfl⟩) (by assumption) ?_
    try simp only [Act.put, List.setIfInBounds_toArray, List.set_cons_zero, List.set_cons_succ]
    refine wpAnyH_take (i := 21) (oi := { dst := some 56, op := Go.Op.build 31 #[], type := 31, pos := "law.go:63", after := #[{ on := 19, ground := Go.Ground.guard }], guard := some (19, true) }) (v := undef) rfl (by kernel_rfl) (by kernel_rfl) (by kernel_rfl) (fun _ _ _ h => h) (Or.inr ⟨by rfl, rfl⟩) (by assumption) ?_
    try simp only [Act.put, List.setIfInBounds_toArray, List.set_cons_zero, List.set_cons_succ]
    refine wpAnyH_take (i := 22) (oi := { dst := some 57, op := Go.Op.call { callee := Go.Callee.value (Go.Operand.func 17), args := #[Go.Operand.tmp 55, Go.Operand.tmp 56], argTypes := #[31, 31] }, type := 4, pos := "law.go:63", after := #[{ on := 20, ground := Go.Ground.data }, { on := 21, ground := Go.Ground.data }, { on := 19, ground := Go.Ground.chain }, { on := 19, ground := Go.Ground.guard }], guard := some (19, true) }) (v := undef) rfl (by kernel_rfl) (by kernel_rfl) (by kernel_rfl) (fun _ _ _ h => h) (Or.inr ⟨by rfl, rfl⟩) (by assumption) ?_
    try simp only [Act.put, List.setIfInBounds_toArray, List.set_cons_zero, List.set_cons_succ]
    refine wpAnyH_take (i := 23) (oi := { dst := some 58, op := Go.Op.unOp Go.UnOp.not 4 (Go.Operand.tmp 57), type := 4, pos := "law.go:63", after := #[{ on := 22, ground := Go.Ground.data }, { on := 19, ground := Go.Ground.guard }], guard := some (19, true) }) (v := undef) rfl (by kernel_rfl) (by kernel_rfl) (by kernel_rfl) (fun _ _ _ h => h) (Or.inr ⟨by rfl, rfl⟩) (by assumption) ?_
    try simp only [Act.put, List.setIfInBounds_toArray, List.set_cons_zero, List.set_cons_succ]
    refine wpAnyH_take (i := 24) (oi := { dst := some 59, op := Go.Op.pick (Go.Operand.tmp 54) (Go.Operand.tmp 58) (Go.Operand.const (Go.Value.bool false)), type := 4, pos := "law.go:63", after := #[{ on := 19, ground := Go.Ground.data }, { on := 23, ground := Go.Ground.data }, { on := 16, ground := Go.Ground.guard }], guard := some (16, false) }) (v := ?_) rfl (by kernel_rfl) (by kernel_rfl) (by kernel_rfl) (fun _ _ _ h => h) (Or.inl ⟨by rfl, ?_⟩) (by assumption) ?_
    rotate_left
    · first | (intro w hSw; (try dsimp only at hSw); go_simp; done) | (intro w hSw; (try dsimp only at hSw); go_simp; with_reducible rfl)
    try simp only [Act.put, List.setIfInBounds_toArray, List.set_cons_zero, List.set_cons_succ]
    refine wpAnyH_take (i := 25) (oi := { dst := some 60, op := Go.Op.pick (Go.Operand.tmp 51) (Go.Operand.const (Go.Value.bool true)) (Go.Operand.tmp 59), type := 4, pos := "law.go:63", after := #[{ on := 16, ground := Go.Ground.data }, { on := 24, ground := Go.Ground.data }], guard := none }) (v := ?_) rfl (by kernel_rfl) (by kernel_rfl) (by kernel_rfl) (fun _ _ _ h => h) (Or.inl ⟨by rfl, ?_⟩) (by assumption) ?_
    rotate_left
    · first | (intro w hSw; (try dsimp only at hSw); go_simp; done) | (intro w hSw; (try dsimp only at hSw); go_simp; with_reducible rfl)
    try simp only [Act.put, List.setIfInBounds_toArray, List.set_cons_zero, List.set_cons_succ]
    refine wpAnyH_done (by kernel_rfl) ?_ _
    have HB8 := Aside0.mk (below_step (below_step (below_step HB.out.drew hb1) hb2) hb3)
    clear hb1 hb2 hb3 hHeld hv1 hv2 x0 x1 x2 x3 x4 b0 b1 b2 b3 b4 HB
    clear KX KV
    go_upto_region 10 with (first
      | (go_at_call 13; refine (rises13 _ _ _ _).mono ?_; rintro e w11 ⟨hb, a', b', c', rfl, ha, hbb, hc⟩; have HB8 := Aside0.mk (below_step HB8.out hb); have A3 := Aside0.mk ha; have A4 := Aside0.mk hbb; have A5 := Aside0.mk hc; clear hb ha hbb hc)
      | (go_at_call 11; (with_reducible refine (run_rises a' b' c' how n t HT.out HH.out.1 _ A3.out A4.out A5.out).mono ?_); rintro e w12 ⟨rfl, hb⟩; have HB8 := Aside0.mk (below_step HB8.out hb); clear hb)
      | (go_at_call 11; (with_reducible refine (run11_nil _).mono ?_); rintro e w15 ⟨rfl, hs, _⟩; have KY := Aside0.mk (blk_below KY.out hs.below); have HB8 := Aside0.mk (below_step HB8.out hs.below); clear hs)
      | ((with_reducible refine gate_dst (N := 13) rfl ?_); refine box_event ?hg (N := 13) ?hd (cs := #[.int .i64 0, .int .i64 0, .float .f64 0, .string ⟨#[]⟩, .slice none 0 0]) (t := 31) ?hr ?_; (case hd => rfl); (case hg => rfl); (case hr => first | (go_simp; done) | (go_simp; rfl)); intro gy hg w13 hbox hb; have HG2 := Aside0.mk (show w.heap.size ≤ gy by (have h1_ := HB8.out.size; omega)); have HB8 := Aside0.mk (below_step HB8.out hb); have KY := Aside0.mk hbox; clear hg hbox hb)
      | ((with_reducible refine gate_store (t := 31) (p := 13) rfl ?_); refine put_eventU ?hg (t := 31) (p := 13) (v := .tmp 67) ?ho ?hN (g := gy) (u := .agg #[.int .i64 0, .int .i64 0, .float .f64 0, .string ⟨#[]⟩, .slice none 0 0]) (cs := #[.int .i64 0, .int .i64 0, .float .f64 0, .string ⟨#[]⟩, .slice none 0 0]) ?hp ?hv KY.out ?hs ?hi ?h1 ?hc ?_; (case hs => rfl); (case hi => kernel_rfl); (case h1 => simp [Value.oneCell']); (case hc => simp [Value.cells]); (case hg => rfl); (case ho => rfl); (case hN => rfl); (case hp => rfl); (case hv => rfl); intro w14 hk hs; have HB8 := Aside0.mk (below_keep HB8.out HG2.out hs); have KY := Aside0.mk hk; clear hk hs)
      | ((with_reducible refine gate_dst (N := 15) rfl ?_); refine box_event ?hg (N := 15) ?hd (cs := #[.int .i64 0, .int .i64 0, .float .f64 0, .string ⟨#[]⟩, .slice none 0 0]) (t := 31) ?hr ?_; (case hd => rfl); (case hg => rfl); (case hr => first | (go_simp; done) | (go_simp; rfl)); intro gz hg w16 hbox hb; have HG3 := Aside0.mk (show w.heap.size ≤ gz ∧ gy ≠ gz by (have h1_ := HB8.out.size; have h2_ := blk_lt KY.out; omega)); have HB8 := Aside0.mk (below_step HB8.out hb); have KY := Aside0.mk (blk_below KY.out hb); have KZ := Aside0.mk hbox; clear hg hbox hb)
      | ((with_reducible refine gate_store (t := 31) (p := 15) rfl ?_); refine put_eventU ?hg (t := 31) (p := 15) (v := .tmp 71) ?ho ?hN (g := gz) (u := .agg #[.int .i64 0, .int .i64 0, .float .f64 0, .string ⟨#[]⟩, .slice none 0 0]) (cs := #[.int .i64 0, .int .i64 0, .float .f64 0, .string ⟨#[]⟩, .slice none 0 0]) ?hp ?hv KZ.out ?hs ?hi ?h1 ?hc ?_; (case hs => rfl); (case hi => kernel_rfl); (case h1 => simp [Value.oneCell']); (case hc => simp [Value.cells]); (case hg => rfl); (case ho => rfl); (case hN => rfl); (case hp => rfl); (case hv => rfl); intro w17 hk hs; have HB8 := Aside0.mk (below_keep HB8.out HG3.out.1 hs); have KY := Aside0.mk (hs.blk KY.out HG3.out.2); have KZ := Aside0.mk hk; clear hk hs))
    have z0 : w17.cell? ⟨gy, 0, none⟩ = some (.int .i64 0) := blk_cell KY.out 0
    have z1 : w17.cell? ⟨gy, 1, none⟩ = some (.int .i64 0) := blk_cell KY.out 1
    have z2 : w17.cell? ⟨gy, 2, none⟩ = some (.float .f64 0) := blk_cell KY.out 2
    have z3 : w17.cell? ⟨gy, 3, none⟩ = some (.string ⟨#[]⟩) := blk_cell KY.out 3
    have z4 : w17.cell? ⟨gy, 4, none⟩ = some (.slice none 0 0) := blk_cell KY.out 4
    go_wp2_with (go_at_call 17; refine (same17 zeroV _ (fun _ => True) _ (zeroRV _) (fun _ => True) _ (zeroRV _)).mono ?_; rintro e w18 ⟨rfl, hb⟩; clear z0 z1 z2 z3 z4; have HB8 := Aside0.mk (below_step HB8.out hb); have KZ := Aside0.mk (blk_below KZ.out hb); clear hb; have z0 : w18.cell? ⟨gz, 0, none⟩ = some (.int .i64 0) := blk_cell KZ.out 0; have z1 : w18.cell? ⟨gz, 1, none⟩ = some (.int .i64 0) := blk_cell KZ.out 1; have z2 : w18.cell? ⟨gz, 2, none⟩ = some (.float .f64 0) := blk_cell KZ.out 2; have z3 : w18.cell? ⟨gz, 3, none⟩ = some (.string ⟨#[]⟩) := blk_cell KZ.out 3; have z4 : w18.cell? ⟨gz, 4, none⟩ = some (.slice none 0 0) := blk_cell KZ.out 4)
    go_ret
    exact ⟨rfl, HB8.out⟩
end Go.Proofs.YtpalofbphmjijaaDoor.Gd
