import Derived.Test.YtpalofbphmjijaaDoorGdRun5
namespace Go.Proofs.YtpalofbphmjijaaDoor.Gd
open Go.RowKit Go.Proofs.YtpalofbphmjijaaDoorW.PrintWords
set_option linter.unusedVariables false
set_option linter.unusedSimpArgs false
attribute [local go_sem] store_float

theorem enters34 (args : Array Value) (W : World) : (callFunc 34 args).run Tryd.prog W = .ok (.enter 34 args) W := by kernel_rfl
theorem enters12 (args : Array Value) (W : World) : (callFunc 12 args).run Tryd.prog W = .ok (.enter 12 args) W := by kernel_rfl

/-- One new block. -/
structure One (w : World) (g : Nat) (t : TypeId) (cs : Array Value) (W : World) : Prop where
  b : Below w.heap.size w W
  hg : w.heap.size ≤ g
  k : W.heap[g]? = some (.cells cs t (0, 0))
theorem One.put {w : World} {g : Nat} {t : TypeId} {cs : Array Value} {W : World} (h : One w g t cs W) (i : Nat) (u : Value) : One w g t (cs.setIfInBounds i u) (W.setCell ⟨g, i, none⟩ u) := ⟨h.b.setCell h.hg _, h.hg, blk_set h.k i u⟩
theorem One.drew {w : World} {g : Nat} {t : TypeId} {cs : Array Value} {W : World} (h : One w g t cs W) : One w g t cs W.drew := ⟨h.b.drew, h.hg, h.k⟩

set_option maxHeartbeats 8000000 in
set_option maxRecDepth 100000 in
/-- choirref1.Int. -/
theorem int14 (n : Int) (w : World) : Calls Tryd.prog 14 #[.int .i64 n] w fun e w' => e = .returned (.agg #[.int .i64 1, .int .i64 n, .float .f64 0, .string ⟨#[]⟩, .slice none 0 0]) ∧ Below w.heap.size w w' := by
  have hB := Aside0.mk ((Below.refl w.heap.size w).alloc (Nat.le_refl _) (.cells #[.int .i64 1, .int .i64 n, .float .f64 0, .string ⟨#[]⟩, .slice none 0 0] 31))
  go_enter Tryd.func14, Tryd.ntmps14
  go_wp2
  refine bodyPost_ret (v := .agg #[.int .i64 1, .int .i64 n, .float .f64 0, .string ⟨#[]⟩, .slice none 0 0]) (by simp [results, Tryd.results14, go_sem]) rfl ⟨rfl, ?_⟩
  exact hB.out

set_option maxHeartbeats 8000000 in
set_option maxRecDepth 100000 in
/-- told: the closure, and what lies in its variables. -/
theorem told16 (v0 v1 : Int) (v2 : Nat) (v3 : ByteArray) (va : Option Addr) (vn vc : Nat) (r : Int) (w : World) : Calls Tryd.prog 16 #[.agg #[.int .i64 v0, .int .i64 v1, .float .f64 v2, .string v3, .slice va vn vc], .int .i64 r] w fun e w' =>
    Below w.heap.size w w' ∧ ∃ a b, e = .returned (.func (.func 29) #[] #[.pointer (some ⟨a, 0, none⟩), .pointer (some ⟨b, 0, none⟩)]) ∧ w'.heap[a]? = some (.cells #[.int .i64 v0, .int .i64 v1, .float .f64 v2, .string v3, .slice va vn vc] 31 (0, 0)) ∧ w'.heap[b]? = some (.cells #[.int .i64 r] 3 (0, 0)) := by
  have hmf : ∀ (fn : Fn) (first cap : Array Value) (w : World), (Instr.makeFunc fn first cap).run Tryd.prog w = .ok (.func fn first cap) w := fun _ _ _ _ => rfl
  go_enter Tryd.func16, Tryd.ntmps16
  go_wp2_with (first
    | ((with_reducible refine gate_dst (N := 2) rfl ?_); refine box_event ?hg (N := 2) ?hd (cs := #[.int .i64 v0, .int .i64 v1, .float .f64 v2, .string v3, .slice va vn vc]) (t := 31) ?hr ?_; (case hd => rfl); (case hg => rfl); (case hr => first | (go_simp; done) | (go_simp; rfl)); intro g1 hg w1 hbox hb; have HB := Aside0.mk hb; have K1 := Aside0.mk hbox; clear hg hbox hb)
    | ((with_reducible refine gate_dst (N := 3) rfl ?_); refine box_event ?hg (N := 3) ?hd (cs := #[.int .i64 r]) (t := 3) ?hr ?_; (case hd => rfl); (case hg => rfl); (case hr => first | (go_simp; done) | (go_simp; rfl)); intro g2 hg w2 hbox hb; have K1 := Aside0.mk (blk_below K1.out hb); have K2 := Aside0.mk hbox; have HB := Aside0.mk (below_step HB.out hb); clear hg hbox hb))
  go_ret
  exact ⟨HB.out, g1, g2, rfl, K1.out, K2.out⟩

set_option maxHeartbeats 8000000 in
set_option maxRecDepth 100000 in
/-- told's closure. -/
theorem told29 (v0 v1 : Int) (v2 : Nat) (v3 : ByteArray) (va : Option Addr) (vn vc : Nat) (r : Int) (a b : Nat) (w : World)
    (ha : w.heap[a]? = some (.cells #[.int .i64 v0, .int .i64 v1, .float .f64 v2, .string v3, .slice va vn vc] 31 (0, 0))) (hb : w.heap[b]? = some (.cells #[.int .i64 r] 3 (0, 0))) :
    Calls Tryd.prog 29 #[.pointer (some ⟨a, 0, none⟩), .pointer (some ⟨b, 0, none⟩)] w fun e w' => e = .returned (.tuple #[.agg #[.int .i64 v0, .int .i64 v1, .float .f64 v2, .string v3, .slice va vn vc], .int .i64 r]) ∧ Below w.heap.size w w' := by
  have HA := Aside0.mk ha
  have HB := Aside0.mk hb
  clear ha hb
  go_enter Tryd.func29, Tryd.ntmps29
  go_upto_region 1 with (first
    | ((with_reducible refine gate_dst (N := 2) rfl ?_); refine box_event ?hg (N := 2) ?hd (cs := #[.int .i64 0, .int .i64 0, .float .f64 0, .string ⟨#[]⟩, .slice none 0 0]) (t := 31) ?hr ?_; (case hd => rfl); (case hg => rfl); (case hr => first | (go_simp; done) | (go_simp; rfl)); intro g hg w1 hbox hb; have K := Aside0.mk hbox; have HB1 := Aside0.mk hb; have HG := Aside0.mk (show w.heap.size ≤ g by omega); have HN := Aside0.mk (show a < g ∧ b < g from (by have h1_ := blk_lt HA.out; have h2_ := blk_lt HB.out; omega)); have HA := Aside0.mk (blk_below HA.out hb); have HB := Aside0.mk (blk_below HB.out hb); clear hg hbox hb))
  have q0 : w1.cell? ⟨a, 0, none⟩ = some (.int .i64 v0) := blk_cell HA.out 0
  have q1 : w1.cell? ⟨a, 1, none⟩ = some (.int .i64 v1) := blk_cell HA.out 1
  have q2 : w1.cell? ⟨a, 2, none⟩ = some (.float .f64 v2) := blk_cell HA.out 2
  have q3 : w1.cell? ⟨a, 3, none⟩ = some (.string v3) := blk_cell HA.out 3
  have q4 : w1.cell? ⟨a, 4, none⟩ = some (.slice va vn vc) := blk_cell HA.out 4
  have r0 : w1.cell? ⟨b, 0, none⟩ = some (.int .i64 r) := blk_cell HB.out 0
  have p0 : w1.cell? ⟨g, 0, none⟩ = some (.int .i64 0) := blk_cell K.out 0
  have p1 : w1.cell? ⟨g, 1, none⟩ = some (.int .i64 0) := blk_cell K.out 1
  have p2 : w1.cell? ⟨g, 2, none⟩ = some (.float .f64 0) := blk_cell K.out 2
  have p3 : w1.cell? ⟨g, 3, none⟩ = some (.string ⟨#[]⟩) := blk_cell K.out 3
  have p4 : w1.cell? ⟨g, 4, none⟩ = some (.slice none 0 0) := blk_cell K.out 4
  have f0 : w1.frozen? ⟨g, 0, none⟩ = false := blk_frozen K.out 0
  have f1 : w1.frozen? ⟨g, 1, none⟩ = false := blk_frozen K.out 1
  have f2 : w1.frozen? ⟨g, 2, none⟩ = false := blk_frozen K.out 2
  have f3 : w1.frozen? ⟨g, 3, none⟩ = false := blk_frozen K.out 3
  have f4 : w1.frozen? ⟨g, 4, none⟩ = false := blk_frozen K.out 4
  have n1 : ¬ a = g := by have := HN.out.1; omega
  have n2 : ¬ b = g := by have := HN.out.2; omega
  have n3 : ¬ g = a := by have := HN.out.1; omega
  have n4 : ¬ g = b := by have := HN.out.2; omega
  go_region
  all_goals go_wp2
  all_goals
    generalize hWW : World.drew _ = WW
    have HE : One w g 31 #[.int .i64 v0, .int .i64 v1, .float .f64 v2, .string v3, .slice va vn vc] WW := by
      subst hWW
      exact ((((((One.mk HB1.out HG.out K.out).put 0 (.int .i64 v0)).put 1 (.int .i64 v1)).put 2 (.float .f64 v2)).put 3 (.string v3)).put 4 (.slice va vn vc)).drew
    clear hWW q0 q1 q2 q3 q4 r0 p0 p1 p2 p3 p4 f0 f1 f2 f3 f4 n1 n2 n3 n4 HA HB K
    refine bodyPost_ret (v := .tuple #[.agg #[.int .i64 v0, .int .i64 v1, .float .f64 v2, .string v3, .slice va vn vc], .int .i64 r]) ?_ rfl ⟨rfl, HE.b⟩
    have q0 := blk_cell HE.k 0
    have q1 := blk_cell HE.k 1
    have q2 := blk_cell HE.k 2
    have q3 := blk_cell HE.k 3
    have q4 := blk_cell HE.k 4
    simp at q0 q1 q2 q3 q4
    clear HE HB1 HG HN
    simp [results, Tryd.results29, go_sem, q0, q1, q2, q3, q4]

set_option maxHeartbeats 8000000 in
set_option maxRecDepth 100000 in
/-- rises: the closure, and what lies in its variables. -/
theorem rises13 (how n : Int) (s : ByteArray) (w : World) : Calls Tryd.prog 13 #[.int .u8 how, .string s, .int .i64 n] w fun e w' =>
    Below w.heap.size w w' ∧ ∃ a b c, e = .returned (.func (.func 26) #[] #[.pointer (some ⟨a, 0, none⟩), .pointer (some ⟨b, 0, none⟩), .pointer (some ⟨c, 0, none⟩)]) ∧ w'.heap[a]? = some (.cells #[.int .u8 how] 5 (0, 0)) ∧ w'.heap[b]? = some (.cells #[.string s] 9 (0, 0)) ∧ w'.heap[c]? = some (.cells #[.int .i64 n] 3 (0, 0)) := by
  have hmf : ∀ (fn : Fn) (first cap : Array Value) (w : World), (Instr.makeFunc fn first cap).run Tryd.prog w = .ok (.func fn first cap) w := fun _ _ _ _ => rfl
  go_enter Tryd.func13, Tryd.ntmps13
  go_wp2_with (first
    | ((with_reducible refine gate_dst (N := 3) rfl ?_); refine box_event ?hg (N := 3) ?hd (cs := #[.int .u8 how]) (t := 5) ?hr ?_; (case hd => rfl); (case hg => rfl); (case hr => first | (go_simp; done) | (go_simp; rfl)); intro g1 hg w1 hbox hb; have HB := Aside0.mk hb; have K1 := Aside0.mk hbox; clear hg hbox hb)
    | ((with_reducible refine gate_dst (N := 4) rfl ?_); refine box_event ?hg (N := 4) ?hd (cs := #[.string s]) (t := 9) ?hr ?_; (case hd => rfl); (case hg => rfl); (case hr => first | (go_simp; done) | (go_simp; rfl)); intro g2 hg w2 hbox hb; have K1 := Aside0.mk (blk_below K1.out hb); have K2 := Aside0.mk hbox; have HB := Aside0.mk (below_step HB.out hb); clear hg hbox hb)
    | ((with_reducible refine gate_dst (N := 5) rfl ?_); refine box_event ?hg (N := 5) ?hd (cs := #[.int .i64 n]) (t := 3) ?hr ?_; (case hd => rfl); (case hg => rfl); (case hr => first | (go_simp; done) | (go_simp; rfl)); intro g3 hg w3 hbox hb; have K1 := Aside0.mk (blk_below K1.out hb); have K2 := Aside0.mk (blk_below K2.out hb); have K3 := Aside0.mk hbox; have HB := Aside0.mk (below_step HB.out hb); clear hg hbox hb))
  go_ret
  exact ⟨HB.out, g1, g2, g3, rfl, K1.out, K2.out, K3.out⟩
/-- What rises tells, run. -/
theorem run_rises (a b c : Nat) (how n : Int) (s : ByteArray) (hs : s.size ≤ 100) (hh : 0 ≤ how) (w : World)
    (h0 : w.heap[a]? = some (.cells #[.int .u8 how] 5 (0, 0))) (h1 : w.heap[b]? = some (.cells #[.string s] 9 (0, 0))) (h2 : w.heap[c]? = some (.cells #[.int .i64 n] 3 (0, 0))) :
    Calls Tryd.prog 11 #[.func (.func 26) #[] #[.pointer (some ⟨a, 0, none⟩), .pointer (some ⟨b, 0, none⟩), .pointer (some ⟨c, 0, none⟩)]] w fun e w' => e = .returned (.tuple #[.agg #[.int .i64 0, .int .i64 0, .float .f64 0, .string ⟨#[]⟩, .slice none 0 0], .int .i64 34]) ∧ Below w.heap.size w w' :=
  (run11_pan 26 _ (decide (how % 5 = 1)) w (fun _ => False) (fun _ => True) (fun _ h => h.elim) (fun _ _ _ _ => trivial) enters26 (fun W hW => (rises26 a b c how n s hs hh W (blk_below h0 hW) (blk_below h1 hW) (blk_below h2 hW)).mono fun e W' h => ⟨h.1, Save.of h.2, trivial⟩)).mono fun e w' h => ⟨h.1, h.2.1.below⟩
/-- What told tells, run. -/
theorem run_told0 (v0 v1 : Int) (v2 : Nat) (v3 : ByteArray) (va : Option Addr) (vn vc : Nat) (a b : Nat) (w : World)
    (ha : w.heap[a]? = some (.cells #[.int .i64 v0, .int .i64 v1, .float .f64 v2, .string v3, .slice va vn vc] 31 (0, 0))) (hb : w.heap[b]? = some (.cells #[.int .i64 0] 3 (0, 0))) :
    Calls Tryd.prog 11 #[.func (.func 29) #[] #[.pointer (some ⟨a, 0, none⟩), .pointer (some ⟨b, 0, none⟩)]] w fun e w' => e = .returned (.tuple #[.agg #[.int .i64 v0, .int .i64 v1, .float .f64 v2, .string v3, .slice va vn vc], .int .i64 0]) ∧ Below w.heap.size w w' :=
  (run11_ok 29 _ v0 v1 v2 v3 va vn vc w (fun _ => False) (fun _ => True) (fun _ h => h.elim) (fun _ _ _ _ => trivial) enters29 (fun W hW => (told29 v0 v1 v2 v3 va vn vc 0 a b W (blk_below ha hW) (blk_below hb hW)).mono fun e W' h => ⟨h.1, Save.of h.2, trivial⟩)).mono fun e w' h => ⟨h.1, h.2.1.below⟩
theorem run_told (v0 v1 : Int) (v2 : Nat) (v3 : ByteArray) (va : Option Addr) (vn vc : Nat) (r : Int) (hr : (r != 0) = true) (a b : Nat) (w : World)
    (ha : w.heap[a]? = some (.cells #[.int .i64 v0, .int .i64 v1, .float .f64 v2, .string v3, .slice va vn vc] 31 (0, 0))) (hb : w.heap[b]? = some (.cells #[.int .i64 r] 3 (0, 0))) :
    Calls Tryd.prog 11 #[.func (.func 29) #[] #[.pointer (some ⟨a, 0, none⟩), .pointer (some ⟨b, 0, none⟩)]] w fun e w' => e = .returned (.tuple #[.agg #[.int .i64 0, .int .i64 0, .float .f64 0, .string ⟨#[]⟩, .slice none 0 0], .int .i64 r]) ∧ Below w.heap.size w w' :=
  (run11_err 29 _ v0 v1 v2 v3 va vn vc r hr w (fun _ => False) (fun _ => True) (fun _ h => h.elim) (fun _ _ _ _ => trivial) enters29 (fun W hW => (told29 v0 v1 v2 v3 va vn vc r a b W (blk_below ha hW) (blk_below hb hW)).mono fun e W' h => ⟨h.1, Save.of h.2, trivial⟩)).mono fun e w' h => ⟨h.1, h.2.1.below⟩
end Go.Proofs.YtpalofbphmjijaaDoor.Gd
