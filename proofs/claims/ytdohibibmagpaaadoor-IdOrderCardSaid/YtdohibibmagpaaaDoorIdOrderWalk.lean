import Derived.Test.YtdohibibmagpaaaDoorRx6
namespace Go.Proofs.YtdohibibmagpaaaDoor.IdOrderW
open Go.RowKit Go.Proofs.YtdohibibmagpaaaDoorW.PrintWords Go.Proofs.YtdohibibmagpaaaDoor.R
set_option linter.unusedVariables false
set_option linter.unusedSimpArgs false

theorem cmp32 (a b : Int) : cmp_Compare_uint32.f a b = some (if a < b then -1 else if a > b then 1 else 0) := by
  simp only [cmp_Compare_uint32.f, cmp_isNaN_uint32.f, Option.bind_some, bne_self_eq_false, Bool.false_eq_true, if_false]
  split
  · rfl
  · split <;> rfl
theorem cmp16 (a b : Int) : cmp_Compare_uint16.f a b = some (if a < b then -1 else if a > b then 1 else 0) := by
  simp only [cmp_Compare_uint16.f, cmp_isNaN_uint16.f, Option.bind_some, bne_self_eq_false, Bool.false_eq_true, if_false]
  split
  · rfl
  · split <;> rfl
theorem or3 (k : Nat) (x y z : Int) : cmp_Or_int.f (k + 5) [x, y, z] = some (if x = 0 then (if y = 0 then z else y) else x) := by
  have w1 : wrap64 1 = 1 := by kernel_rfl
  have w2 : wrap64 2 = 2 := by kernel_rfl
  have w3 : wrap64 3 = 3 := by kernel_rfl
  by_cases hx : x = 0
  · by_cases hy : y = 0
    · by_cases hz : z = 0
      · simp [cmp_Or_int.f, cmp_Or_int.l0, rd, w1, w2, w3, hx, hy, hz]
      · simp [cmp_Or_int.f, cmp_Or_int.l0, rd, w1, w2, w3, hx, hy, hz]
    · simp [cmp_Or_int.f, cmp_Or_int.l0, rd, w1, w2, w3, hx, hy]
  · simp [cmp_Or_int.f, cmp_Or_int.l0, rd, w1, w2, w3, hx]

/-- The order of the ids. -/
def Lt (a0 a1 a2 b0 b1 b2 : Int) : Prop := a0 < b0 ∨ a0 = b0 ∧ (a1 < b1 ∨ a1 = b1 ∧ a2 < b2)
instance (a0 a1 a2 b0 b1 b2 : Int) : Decidable (Lt a0 a1 a2 b0 b1 b2) := by unfold Lt; infer_instance

theorem less_f (k : Nat) (a0 a1 a2 b0 b1 b2 : Int) : opid_Less.f (k + 5) a0 a1 a2 b0 b1 b2 = some (decide (Lt a0 a1 a2 b0 b1 b2)) := by
  unfold opid_Less.f
  rw [cmp32, Option.bind_some, cmp32, Option.bind_some, cmp16, Option.bind_some, or3, Option.bind_some]
  congr 1
  apply decide_eq_decide.2
  unfold Lt
  split <;> split <;> (try split) <;> (try split) <;> (try split) <;> (try split) <;> omega

theorem rless_f (a0 a1 a2 b0 b1 b2 : Int) : choirref3_IdLess.f a0 a1 a2 b0 b1 b2 = some (decide (Lt a0 a1 a2 b0 b1 b2)) := by
  unfold choirref3_IdLess.f
  split
  · split
    · congr 1; apply decide_eq_decide.2; unfold Lt; omega
    · congr 1; apply decide_eq_decide.2; unfold Lt; omega
  · congr 1; apply decide_eq_decide.2; unfold Lt; omega

theorem nested_f (k : Nat) (a0 a1 a2 n : Int) : opid_Nested.f (k + 1) a0 a1 a2 n = some (if a2 = 0 ∧ 1 ≤ n ∧ n ≤ 8 then (a0, a1, IntKind.u16.wrap n, true) else (0, 0, 0, false)) := by
  unfold opid_Nested.f
  by_cases h0 : a2 = 0
  · by_cases h1 : n < 1
    · rw [if_pos h0, if_pos h1, if_neg (by omega), opid_Nested.j0, if_pos rfl]
    · by_cases h2 : n > 8
      · rw [if_pos h0, if_neg h1, if_neg (by omega), opid_Nested.j0, if_pos (decide_eq_true h2)]
      · rw [if_pos h0, if_neg h1, if_pos (by omega), opid_Nested.j0, if_neg (by simpa using h2)]
  · rw [if_neg h0, if_neg (by omega), opid_Nested.j0, if_pos rfl]

theorem round (k : Nat) (l : List Int) (i a0 a1 a2 : Int) (h0 : 0 ≤ i) (h1 : i < (l.length : Int)) :
    choirlaw5_IdOrder.l0 (k + 3) l (l.length : Int) i a0 a1 a2 = choirlaw5_IdOrder.l0 (k + 1) l (l.length : Int) (wrap64 (i + 1)) a0 a1 a2 := by
  rw [show k + 3 = (k + 2) + 1 from rfl, choirlaw5_IdOrder.l0, if_pos h1, if_pos h0, if_pos h1, show k + 2 = (k + 1) + 1 from rfl, nested_f, Option.bind_some]
  generalize rd l i = n
  by_cases c0 : a2 = 0
  · subst c0
    by_cases c1 : 1 ≤ n
    · by_cases c2 : n ≤ 8
      · simp [c1, c2, opid_Root.f, choirlaw5_IdOrder.j4]
      · simp [c1, c2, opid_Root.f, choirlaw5_IdOrder.j4]
    · simp [c1, opid_Root.f, choirlaw5_IdOrder.j4]
  · simp [c0, opid_Root.f, choirlaw5_IdOrder.j4]

theorem last (k : Nat) (l : List Int) (a0 a1 a2 : Int) : choirlaw5_IdOrder.l0 (k + 1) l (l.length : Int) (l.length : Int) a0 a1 a2 = some true := by
  rw [choirlaw5_IdOrder.l0, if_neg (by omega)]
  simp [opid_Root.f]

theorem j1_true (k : Nat) (n a0 a1 a2 b0 b1 b2 : Int) : choirlaw5_IdOrder.j1 (k + 8) n a0 a1 a2 b0 b1 b2 = some true := by
  have w1 : wrap64 (0 + 1) = 1 := by kernel_rfl
  have w2 : wrap64 (1 + 1) = 2 := by kernel_rfl
  have nl : ¬ Lt a0 a1 a2 a0 a1 a2 := by unfold Lt; omega
  rw [show k + 8 = (k + 7) + 1 from rfl, choirlaw5_IdOrder.j1, show k + 7 = (k + 2) + 5 from rfl, less_f, Option.bind_some, rless_f, Option.bind_some,
    if_neg (by simp), less_f, Option.bind_some, rless_f, Option.bind_some, if_neg (by simp), less_f, Option.bind_some, decide_eq_false nl]
  rw [show k + 2 + 5 = (k + 6) + 1 from rfl, choirlaw5_IdOrder.j2, if_neg (by simp), Option.bind_some]
  have r0 := round (k + 3) [n, Int.tmod n 10] 0 a0 a1 a2 (by omega) (by simp)
  have r1 := round (k + 1) [n, Int.tmod n 10] 1 a0 a1 a2 (by omega) (by simp)
  have r2 := last (k + 1) [n, Int.tmod n 10] a0 a1 a2
  rw [w1] at r0
  rw [w2] at r1
  exact r0.trans (r1.trans r2)

theorem order_f (k : Nat) (a0 a1 a2 b0 b1 b2 n near : Int) : choirlaw5_IdOrder.f (k + 9) a0 a1 a2 b0 b1 b2 n near = some true := by
  have j0t : ∀ x, choirlaw5_IdOrder.j0 (k + 9) n near a0 a1 a2 x b1 b2 = some true := by
    intro x
    rw [show k + 9 = (k + 8) + 1 from rfl, choirlaw5_IdOrder.j0]
    split
    · exact j1_true k n a0 a1 a2 _ _ _
    · exact j1_true k n a0 a1 a2 _ _ _
  unfold choirlaw5_IdOrder.f Q.choirlaw5_known.f
  rw [Option.bind_some, if_pos rfl]
  split
  · exact j0t _
  · exact j0t _

theorem walk (a0 : Int) (w0 : (Lit.int .u32 a0).wf = true) (a1 : Int) (w1 : (Lit.int .u32 a1).wf = true) (a2 : Int) (w2 : (Lit.int .u16 a2).wf = true)
    (b0 : Int) (x0 : (Lit.int .u32 b0).wf = true) (b1 : Int) (x1 : (Lit.int .u32 b1).wf = true) (b2 : Int) (x2 : (Lit.int .u16 b2).wf = true)
    (n : Int) (hn : (Lit.int .i64 n).wf = true) (near : Int) (hnear : (Lit.int .u8 near).wf = true) (W : World) (hT : IdNum.Ok W) :
    Calls Tryd.prog 4 #[.agg #[.int .u32 a0, .int .u32 a1, .int .u16 a2], .agg #[.int .u32 b0, .int .u32 b1, .int .u16 b2], .int .i64 n, .int .u8 near] W fun e W' => e = .returned (.bool true) ∧ Below W.heap.size W W' :=
  choirlaw5_IdOrder.calls 9 a0 a1 a2 b0 b1 b2 n near true W hT rfl (order_f 0 a0 a1 a2 b0 b1 b2 n near)
end Go.Proofs.YtdohibibmagpaaaDoor.IdOrderW
