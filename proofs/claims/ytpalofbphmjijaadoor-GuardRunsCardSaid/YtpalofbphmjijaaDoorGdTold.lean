import Derived.Test.YtpalofbphmjijaaDoorGdRaise
import Derived.Laws.Externs
namespace Go.Proofs.YtpalofbphmjijaaDoor.Gd
open Go.RowKit Go.Proofs.YtpalofbphmjijaaDoorW.PrintWords
set_option linter.unusedVariables false
set_option linter.unusedSimpArgs false

theorem rt1 : Tryd.prog.rt.boundsError = 8 := by kernel_rfl
theorem rt2 : Tryd.prog.rt.errorString = 10 := by kernel_rfl
theorem rt3 : Tryd.prog.rt.plainError = 11 := by kernel_rfl
theorem as8 (v : Value) (W : World) : (Instr.typeAssert (.iface 8 v) 20 9 true).run Tryd.prog W = .ok (.tuple #[.string ⟨#[]⟩, .bool false]) W := by kernel_rfl
theorem ae8 (v : Value) (W : World) : (Instr.typeAssert (.iface 8 v) 20 69 true).run Tryd.prog W = .ok (.tuple #[.iface 8 v, .bool true]) W := by kernel_rfl
theorem as10 (v : Value) (W : World) : (Instr.typeAssert (.iface 10 v) 20 9 true).run Tryd.prog W = .ok (.tuple #[.string ⟨#[]⟩, .bool false]) W := by kernel_rfl
theorem ae10 (v : Value) (W : World) : (Instr.typeAssert (.iface 10 v) 20 69 true).run Tryd.prog W = .ok (.tuple #[.iface 10 v, .bool true]) W := by kernel_rfl
theorem as11 (v : Value) (W : World) : (Instr.typeAssert (.iface 11 v) 20 9 true).run Tryd.prog W = .ok (.tuple #[.string ⟨#[]⟩, .bool false]) W := by kernel_rfl
theorem ae11 (v : Value) (W : World) : (Instr.typeAssert (.iface 11 v) 20 69 true).run Tryd.prog W = .ok (.tuple #[.iface 11 v, .bool true]) W := by kernel_rfl

theorem cb (v : Value) (W : World) : (callFunc 53 #[v]).run Tryd.prog W = ((Extern.RuntimeError.boundsError #[v]).run Tryd.prog W).andThen fun a W' => .ok (.value a) W' :=
  run_callFunc_extern Tryd.func53 (by kernel_rfl) (by kernel_rfl) (by kernel_rfl) (by kernel_rfl) #[v] W
theorem be (x y c : Int) (b : Bool) (W : World) : (Extern.RuntimeError.boundsError #[.agg #[.int .i64 x, .int .i64 y, .bool b, .int .u8 c]]).run Tryd.prog W =
    (match (if (b && decide (x < 0)) = true then Extern.RuntimeError.boundsNegErrorFmts else Extern.RuntimeError.boundsErrorFmts)[c.toNat]? with
    | some fmt => Extern.RuntimeError.text ("runtime error: " ++ (fmt.replace "%x" (toString (if b = true then x else IntKind.u64.wrap x))).replace "%y" (toString y))
    | none => stuck "boundsError: no such code" : Sem Value).run Tryd.prog W := rfl
theorem c53 (x y : Int) (b : Bool) (c : Nat) (hx : 0 ≤ x) (hc : c = 0 ∨ c = 3) (W : World) :
    ∃ t, (callFunc 53 #[.agg #[.int .i64 x, .int .i64 y, .bool b, .int .u8 c]]).run Tryd.prog W = .ok (.value (strVal ("runtime error: " ++ t))) W := by
  rw [cb, be]
  have hn : (b && decide (x < 0)) = false := by rw [decide_eq_false (by omega), Bool.and_false]
  rw [hn]
  rcases hc with rfl | rfl
  · exact ⟨_, rfl⟩
  · exact ⟨_, rfl⟩
theorem m8 (v : Value) (W : World) : (method 205 8 v "Error").run Tryd.prog W = .ok (53, v) W := by kernel_rfl
theorem m10 (v : Value) (W : World) : (method 205 10 v "Error").run Tryd.prog W = .ok (55, v) W := by kernel_rfl
theorem m11 (v : Value) (W : World) : (method 205 11 v "Error").run Tryd.prog W = .ok (57, v) W := by kernel_rfl
theorem c55 (m : ByteArray) (W : World) : (callFunc 55 #[.string m]).run Tryd.prog W = .ok (.value (.string ("runtime error: ".toUTF8 ++ m))) W := by kernel_rfl
theorem c57 (m : ByteArray) (W : World) : (callFunc 57 #[.string m]).run Tryd.prog W = .ok (.value (.string m)) W := by kernel_rfl

/-- The text that a run-time panic is told by. -/
def Text (pl : Bool) (t : ByteArray) : Prop := (pl = true ∧ t = "assignment to entry in nil map".toUTF8) ∨ (pl = false ∧ ∃ m, t = "runtime error: ".toUTF8 ++ m)

set_option maxHeartbeats 4000000 in
set_option maxRecDepth 100000 in
theorem told_b (x : Int) (b : Bool) (c : Nat) (hx : 0 ≤ x) (hc : c = 0 ∨ c = 3) (w : World) :
    Calls Tryd.prog 24 #[.iface 8 (.agg #[.int .i64 x, .int .i64 2, .bool b, .int .u8 c])] w fun e w' => (∃ t, e = .returned (.string t) ∧ Text false t) ∧ w' = w := by
  obtain ⟨t, ht⟩ := c53 x 2 b c hx hc w
  have h1 := as8 (.agg #[.int .i64 x, .int .i64 2, .bool b, .int .u8 c])
  have h2 := ae8 (.agg #[.int .i64 x, .int .i64 2, .bool b, .int .u8 c])
  have h3 := m8 (.agg #[.int .i64 x, .int .i64 2, .bool b, .int .u8 c])
  have HT := Aside0.mk (show Text false ("runtime error: " ++ t).toUTF8 from .inr ⟨rfl, t.toUTF8, by simp [String.toUTF8]⟩)
  rw [show strVal ("runtime error: " ++ t) = .string ("runtime error: " ++ t).toUTF8 from rfl] at ht
  generalize ("runtime error: " ++ t).toUTF8 = T at ht HT
  clear hx hc
  go_enter Tryd.func24, Tryd.ntmps24
  go_wp2
  go_ret
  exact ⟨⟨_, rfl, HT.out⟩, rfl⟩
set_option maxHeartbeats 4000000 in
set_option maxRecDepth 100000 in
theorem told_e (m : ByteArray) (w : World) :
    Calls Tryd.prog 24 #[.iface 10 (.string m)] w fun e w' => (∃ t, e = .returned (.string t) ∧ Text false t) ∧ w' = w := by
  have h1 := as10 (.string m)
  have h2 := ae10 (.string m)
  have h3 := m10 (.string m)
  have h4 := c55 m
  have HT := Aside0.mk (show Text false ("runtime error: ".toUTF8 ++ m) from .inr ⟨rfl, m, rfl⟩)
  generalize "runtime error: ".toUTF8 ++ m = T at h4 HT
  go_enter Tryd.func24, Tryd.ntmps24
  go_wp2
  go_ret
  exact ⟨⟨_, rfl, HT.out⟩, rfl⟩
set_option maxHeartbeats 4000000 in
set_option maxRecDepth 100000 in
theorem told_p (w : World) :
    Calls Tryd.prog 24 #[.iface 11 (strVal "assignment to entry in nil map")] w fun e w' => (∃ t, e = .returned (.string t) ∧ Text true t) ∧ w' = w := by
  rw [show strVal "assignment to entry in nil map" = .string "assignment to entry in nil map".toUTF8 from rfl]
  have HT := Aside0.mk (show Text true "assignment to entry in nil map".toUTF8 from .inl ⟨rfl, rfl⟩)
  generalize "assignment to entry in nil map".toUTF8 = T at HT ⊢
  have h1 := as11 (.string T)
  have h2 := ae11 (.string T)
  have h3 := m11 (.string T)
  have h4 := c57 T
  go_enter Tryd.func24, Tryd.ntmps24
  go_wp2
  go_ret
  exact ⟨⟨_, rfl, HT.out⟩, rfl⟩

/-- told: the text of a run-time panic's value. -/
theorem told24 (pl : Bool) (v : Value) (h : RtV pl v) (w : World) :
    Calls Tryd.prog 24 #[v] w fun e w' => (∃ t, e = .returned (.string t) ∧ Text pl t) ∧ w' = w := by
  cases h with
  | bounds x b c hx hc => rw [rt1]; exact told_b x b c hx hc w
  | error m => rw [rt2]; exact told_e m.toUTF8 w
  | plain => rw [rt3]; exact told_p w
end Go.Proofs.YtpalofbphmjijaaDoor.Gd
