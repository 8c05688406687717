import Derived.Test.YtpalofbphmjijaaDoorProg
import Derived.Test.YtpalofbphmjijaaDoorWMore
import Derived.Recover
import Derived.Laws.Panics
import Derived.Laws.PanicsMore
namespace Go.Proofs.YtpalofbphmjijaaDoor.Gd
open Go.RowKit Go.Proofs.YtpalofbphmjijaaDoorW.PrintWords
set_option linter.unusedVariables false
set_option linter.unusedSimpArgs false

/-- A run-time panic's value: 'plain' tells a plain error (its text stands alone) from the others ("runtime error: .."). -/
inductive RtV : Bool → Value → Prop
  | bounds (x : Int) (b : Bool) (c : Nat) (hx : 0 ≤ x) (hc : c = 0 ∨ c = 3) : RtV false (.iface Tryd.prog.rt.boundsError (.agg #[.int .i64 x, .int .i64 2, .bool b, .int .u8 c]))
  | error (m : String) : RtV false (.iface Tryd.prog.rt.errorString (strVal m))
  | plain : RtV true (.iface Tryd.prog.rt.plainError (strVal "assignment to entry in nil map"))

theorem bp {α : Type} (x m : Int) (code : BoundsCode) (W : World) (h0 : 0 ≤ x) (h1 : x ≤ 1000) :
    ∃ b W', (boundsPanic (α := α) .i64 x m code).run Tryd.prog W = .halt (.panic (.iface Tryd.prog.rt.boundsError (.agg #[.int .i64 x, .int .i64 m, .bool b, .int .u8 code.toNat]))) W' ∧ (W' = W ∨ W' = W.drew) := by
  have hw : IntKind.i64.wrap x = x := by rw [IntKind.wrap_i64]; omega
  by_cases h31 : x ≤ 31
  · refine ⟨W.tape W.drawn (.extern "runtime.boundsError.signed" 2) % 2 == 1, W.drew, ?_, .inr rfl⟩
    simp [boundsPanic, Question.forced, Question.cut, runtimePanic, goPanic, h0, h31, hw]
  · refine ⟨true, W, ?_, .inl rfl⟩
    simp [boundsPanic, Question.forced, Question.cut, runtimePanic, goPanic, h0, h31, hw]

def Panics (w : World) (pl : Bool) (e : Ending) (w' : World) : Prop := (∃ v, e = .panicked [{ v := v, recovered := false }] ∧ RtV pl v) ∧ Below w.heap.size w w'

set_option maxHeartbeats 4000000 in
set_option maxRecDepth 100000 in
theorem raise_div (how n : Int) (s : ByteArray) (h : Int.tmod how 5 = 2) (w : World) :
    Calls Tryd.prog 10 #[.int .u8 how, .string s, .int .i64 n] w (Panics w false) := by
  have hB := Aside0.mk ((Below.refl w.heap.size w).alloc (Nat.le_refl _) (.cells #[.int .i64 1, .int .i64 2] 3))
  go_enter Tryd.func10, Tryd.ntmps10
  go_wp2
  exact ⟨rfl, ⟨_, rfl, RtV.error _⟩, hB.out⟩
set_option maxHeartbeats 4000000 in
set_option maxRecDepth 100000 in
theorem raise_map (how n : Int) (s : ByteArray) (h : Int.tmod how 5 = 1) (w : World) :
    Calls Tryd.prog 10 #[.int .u8 how, .string s, .int .i64 n] w (Panics w true) := by
  have hB := Aside0.mk ((Below.refl w.heap.size w).alloc (Nat.le_refl _) (.cells #[.int .i64 1, .int .i64 2] 3))
  have hm := fun W => run_mapUpdate_nil (P := Tryd.prog) (w := W) 54 9 3 Tryd.underlying54 (.string s) (.int .i64 n)
  go_enter Tryd.func10, Tryd.ntmps10
  go_wp2
  exact ⟨rfl, ⟨_, rfl, RtV.plain⟩, hB.out⟩
set_option maxHeartbeats 4000000 in
set_option maxRecDepth 100000 in
theorem raise_nil (how n : Int) (s : ByteArray) (h : Int.tmod how 5 = 4) (w : World) :
    Calls Tryd.prog 10 #[.int .u8 how, .string s, .int .i64 n] w (Panics w false) := by
  have hB := Aside0.mk ((Below.refl w.heap.size w).alloc (Nat.le_refl _) (.cells #[.int .i64 1, .int .i64 2] 3))
  go_enter Tryd.func10, Tryd.ntmps10
  go_wp2
  exact ⟨rfl, ⟨_, rfl, RtV.error _⟩, hB.out⟩
set_option maxHeartbeats 4000000 in
set_option maxRecDepth 100000 in
theorem raise_idx (how n : Int) (s : ByteArray) (hs : s.size ≤ 100) (h : Int.tmod how 5 = 0) (w : World) :
    Calls Tryd.prog 10 #[.int .u8 how, .string s, .int .i64 n] w (Panics w false) := by
  have hx : wrap64 ((s.size : Int) + 2) = (s.size : Int) + 2 := by unfold wrap64; omega
  obtain ⟨b, W', hb, hW⟩ := bp (α := Value) ((s.size : Int) + 2) 2 .index (w.alloc (.cells #[.int .i64 1, .int .i64 2] 3)) (by omega) (by omega)
  have hB := Aside0.mk (show Below w.heap.size w W' by
    have h1 := (Below.refl w.heap.size w).alloc (Nat.le_refl _) (.cells #[.int .i64 1, .int .i64 2] 3)
    rcases hW with rfl | rfl
    · exact h1
    · exact h1.drew)
  clear hW
  have n1 : ¬ ((s.size : Int) + 2 < 2) := by omega
  have n2 : (0 : Int) ≤ (s.size : Int) + 2 := by omega
  have n3 : ¬ ((s.size : Int) < 0) := by omega
  go_enter Tryd.func10, Tryd.ntmps10
  go_wp2
  exact ⟨rfl, ⟨_, rfl, RtV.bounds _ _ _ n2 (.inl rfl)⟩, hB.out⟩
set_option maxHeartbeats 4000000 in
set_option maxRecDepth 100000 in
theorem raise_cut (how n : Int) (s : ByteArray) (hs : s.size ≤ 100) (h : Int.tmod how 5 = 3) (w : World) :
    Calls Tryd.prog 10 #[.int .u8 how, .string s, .int .i64 n] w (Panics w false) := by
  have hx : wrap64 ((s.size : Int) + 3) = (s.size : Int) + 3 := by unfold wrap64; omega
  obtain ⟨b, W', hb, hW⟩ := bp (α := Nat) ((s.size : Int) + 3) 2 .sliceB (w.alloc (.cells #[.int .i64 1, .int .i64 2] 3)) (by omega) (by omega)
  have hB := Aside0.mk (show Below w.heap.size w W' by
    have h1 := (Below.refl w.heap.size w).alloc (Nat.le_refl _) (.cells #[.int .i64 1, .int .i64 2] 3)
    rcases hW with rfl | rfl
    · exact h1
    · exact h1.drew)
  clear hW
  have n2 : (0 : Int) ≤ (s.size : Int) + 3 := by omega
  go_enter Tryd.func10, Tryd.ntmps10
  go_wp2
  exact ⟨rfl, ⟨_, rfl, RtV.bounds _ _ _ n2 (.inr rfl)⟩, hB.out⟩

/-- raise: whatever it is asked, it panics. -/
theorem raise10 (how n : Int) (s : ByteArray) (hs : s.size ≤ 100) (hh : 0 ≤ how) (w : World) :
    Calls Tryd.prog 10 #[.int .u8 how, .string s, .int .i64 n] w (Panics w (decide (how % 5 = 1))) := by
  have e : Int.tmod how 5 = how % 5 := Int.tmod_eq_emod_of_nonneg hh
  have h5 : how % 5 = 0 ∨ how % 5 = 1 ∨ how % 5 = 2 ∨ how % 5 = 3 ∨ how % 5 = 4 := by omega
  rcases h5 with h | h | h | h | h
  · rw [show decide (how % 5 = 1) = false by rw [h]; rfl]; exact raise_idx how n s hs (e.trans h) w
  · rw [show decide (how % 5 = 1) = true by rw [h]; rfl]; exact raise_map how n s (e.trans h) w
  · rw [show decide (how % 5 = 1) = false by rw [h]; rfl]; exact raise_div how n s (e.trans h) w
  · rw [show decide (how % 5 = 1) = false by rw [h]; rfl]; exact raise_cut how n s hs (e.trans h) w
  · rw [show decide (how % 5 = 1) = false by rw [h]; rfl]; exact raise_nil how n s (e.trans h) w
end Go.Proofs.YtpalofbphmjijaaDoor.Gd
