import Derived.Test.YtpalofbphmjijaaDoorGdCatch
namespace Go.Proofs.YtpalofbphmjijaaDoor.Gd
open Go.RowKit Go.Proofs.YtpalofbphmjijaaDoorW.PrintWords
set_option linter.unusedVariables false
set_option linter.unusedSimpArgs false

theorem enters9 (args : Array Value) (W : World) : (callFunc 9 args).run Tryd.prog W = .ok (.enter 9 args) W := by kernel_rfl
theorem enters25 (args : Array Value) (W : World) : (callFunc 25 args).run Tryd.prog W = .ok (.enter 25 args) W := by kernel_rfl
theorem enters26 (args : Array Value) (W : World) : (callFunc 26 args).run Tryd.prog W = .ok (.enter 26 args) W := by kernel_rfl
theorem enters29 (args : Array Value) (W : World) : (callFunc 29 args).run Tryd.prog W = .ok (.enter 29 args) W := by kernel_rfl
theorem enters21 (args : Array Value) (W : World) : (callFunc 21 args).run Tryd.prog W = .ok (.enter 21 args) W := by kernel_rfl
theorem enters22 (args : Array Value) (W : World) : (callFunc 22 args).run Tryd.prog W = .ok (.enter 22 args) W := by kernel_rfl

set_option maxHeartbeats 4000000 in
set_option maxRecDepth 100000 in
/-- GuardTells' closure: it raises what its variables say. -/
theorem tells9 (a b c : Addr) (how n : Int) (s : ByteArray) (hs : s.size ≤ 100) (hh : 0 ≤ how) (hn : -9223372036854775808 ≤ n ∧ n ≤ 9223372036854775807) (W : World)
    (h0 : W.cell? a = some (.int .u8 how)) (h1 : W.cell? b = some (.string s)) (h2 : W.cell? c = some (.int .i32 n)) :
    Calls Tryd.prog 9 #[.pointer (some a), .pointer (some b), .pointer (some c)] W (Panics W (decide (how % 5 = 1))) := by
  have hw : IntKind.i64.wrap n = n := by rw [IntKind.wrap_i64]; omega
  have hr := raise10 how n s hs hh W
  clear hs hh hn
  generalize decide (how % 5 = 1) = pl at hr ⊢
  go_enter Tryd.func9, Tryd.ntmps9
  go_wp2_with fail
  refine hr.mono ?_
  rintro e W' ⟨⟨v, rfl, hv⟩, hB⟩
  go_wp2_with fail
  exact ⟨rfl, ⟨_, rfl, hv⟩, hB⟩

set_option maxHeartbeats 4000000 in
set_option maxRecDepth 100000 in
theorem known21 (W : World) : Calls Tryd.prog 21 #[] W (Panics W false) := by
  have hr := raise10 0 0 ⟨#[120]⟩ (by decide) (by decide) W
  rw [show decide ((0 : Int) % 5 = 1) = false from rfl] at hr
  go_enter Tryd.func21, Tryd.ntmps21
  go_wp2_with fail
  refine hr.mono ?_
  rintro e W' ⟨⟨v, rfl, hv⟩, hB⟩
  go_wp2_with fail
  exact ⟨rfl, ⟨_, rfl, hv⟩, hB⟩
set_option maxHeartbeats 4000000 in
set_option maxRecDepth 100000 in
theorem known22 (W : World) : Calls Tryd.prog 22 #[] W fun e W' => e = .returned (.tuple #[]) ∧ W' = W := by
  go_enter Tryd.func22, Tryd.ntmps22
  go_wp2
  go_end0
  exact ⟨rfl, rfl⟩

set_option maxHeartbeats 4000000 in
set_option maxRecDepth 100000 in
/-- rises' closure: it raises what its variables say. -/
theorem rises26 (a b c : Nat) (how n : Int) (s : ByteArray) (hs : s.size ≤ 100) (hh : 0 ≤ how) (W : World)
    (h0 : W.heap[a]? = some (.cells #[.int .u8 how] 5 (0, 0))) (h1 : W.heap[b]? = some (.cells #[.string s] 9 (0, 0))) (h2 : W.heap[c]? = some (.cells #[.int .i64 n] 3 (0, 0))) :
    Calls Tryd.prog 26 #[.pointer (some ⟨a, 0, none⟩), .pointer (some ⟨b, 0, none⟩), .pointer (some ⟨c, 0, none⟩)] W (Panics W (decide (how % 5 = 1))) := by
  have hr := fun W => raise10 how n s hs hh W
  clear hs hh
  generalize decide (how % 5 = 1) = pl at hr ⊢
  have H0 := Aside0.mk h0
  have H1 := Aside0.mk h1
  have H2 := Aside0.mk h2
  clear h0 h1 h2
  go_enter Tryd.func26, Tryd.ntmps26
  go_wp2_with (first
    | ((with_reducible refine gate_dst (N := 3) rfl ?_); refine box_event ?hg (N := 3) ?hd (cs := #[.int .i64 0, .int .i64 0, .float .f64 0, .string ⟨#[]⟩, .slice none 0 0]) (t := 31) ?hr ?_; (case hd => rfl); (case hg => rfl); (case hr => first | (go_simp; done) | (go_simp; rfl)); intro g hg w1 hbox hb; have q0 : w1.cell? ⟨a, 0, none⟩ = some (.int .u8 how) := blk_cell (blk_below H0.out hb) 0; have q1 : w1.cell? ⟨b, 0, none⟩ = some (.string s) := blk_cell (blk_below H1.out hb) 0; have q2 : w1.cell? ⟨c, 0, none⟩ = some (.int .i64 n) := blk_cell (blk_below H2.out hb) 0; have HB := Aside0.mk hb; clear hg hbox hb)
    | (go_at_call 10; refine (hr _).mono ?_; rintro e W' ⟨⟨v, rfl, hv⟩, hB⟩; have HB2 := Aside0.mk (below_step HB.out hB); clear hB))
  exact ⟨rfl, ⟨_, rfl, hv⟩, HB2.out⟩

set_option maxHeartbeats 4000000 in
set_option maxRecDepth 100000 in
/-- Run's closure, where what it calls panics. -/
theorem run25_pan (k : FuncId) (caps : Array Value) (pl : Bool) (a : Addr) (b c : Value) (W : World) (hce : ∀ args W, (callFunc k args).run Tryd.prog W = .ok (.enter k args) W)
    (h0 : W.cell? a = some (.func (.func k) #[] caps)) (hk : Calls Tryd.prog k caps W (Panics W pl)) :
    Calls Tryd.prog 25 #[.pointer (some a), b, c] W (Panics W pl) := by
  go_enter Tryd.func25, Tryd.ntmps25
  go_wp2_with fail
  refine hk.mono ?_
  rintro e W' ⟨⟨v, rfl, hv⟩, hB⟩
  go_wp2_with fail
  exact ⟨rfl, ⟨_, rfl, hv⟩, hB⟩
end Go.Proofs.YtpalofbphmjijaaDoor.Gd
