import Derived.Test.YtdohibibmagpaaaDoorQx6
namespace Go.Proofs.YtdohibibmagpaaaDoor.IdLineW
open Go.RowKit Go.Proofs.YtdohibibmagpaaaDoorW.PrintWords Go.Proofs.YtdohibibmagpaaaDoor.Q
set_option linter.unusedVariables false
set_option linter.unusedSimpArgs false

theorem cmp32 (a b : Int) : cmp_Compare_uint32.f a b = some (if a < b then -1 else if a > b then 1 else 0) := by
  simp only [cmp_Compare_uint32.f, cmp_isNaN_uint32.f, Option.bind_some, bne_self_eq_false, Bool.false_eq_true, if_false]
  split
  · rfl
  · split <;> rfl
theorem cmp16 (a b : Int) : cmp_Compare_uint16.f a b = some (if a < b then -1 else if a > b then 1 else 0) := by
  simp only [cmp_Compare_uint16.f, cmp_isNaN_uint16.f, Option.bind_some, bne_self_eq_false, Bool.false_eq_true, if_false]
  split
  · rfl
  · split <;> rfl
theorem or3 (k : Nat) (x y z : Int) : cmp_Or_int.f (k + 5) [x, y, z] = some (if x = 0 then (if y = 0 then z else y) else x) := by
  have w1 : wrap64 1 = 1 := by kernel_rfl
  have w2 : wrap64 2 = 2 := by kernel_rfl
  have w3 : wrap64 3 = 3 := by kernel_rfl
  by_cases hx : x = 0
  · by_cases hy : y = 0
    · by_cases hz : z = 0
      · simp [cmp_Or_int.f, cmp_Or_int.l0, rd, w1, w2, w3, hx, hy, hz]
      · simp [cmp_Or_int.f, cmp_Or_int.l0, rd, w1, w2, w3, hx, hy, hz]
    · simp [cmp_Or_int.f, cmp_Or_int.l0, rd, w1, w2, w3, hx, hy]
  · simp [cmp_Or_int.f, cmp_Or_int.l0, rd, w1, w2, w3, hx]

/-- The order of the ids. -/
def Lt (a0 a1 a2 b0 b1 b2 : Int) : Prop := a0 < b0 ∨ a0 = b0 ∧ (a1 < b1 ∨ a1 = b1 ∧ a2 < b2)
instance (a0 a1 a2 b0 b1 b2 : Int) : Decidable (Lt a0 a1 a2 b0 b1 b2) := by unfold Lt; infer_instance

theorem less_f (k : Nat) (a0 a1 a2 b0 b1 b2 : Int) : opid_Less.f (k + 5) a0 a1 a2 b0 b1 b2 = some (decide (Lt a0 a1 a2 b0 b1 b2)) := by
  unfold opid_Less.f
  rw [cmp32, Option.bind_some, cmp32, Option.bind_some, cmp16, Option.bind_some, or3, Option.bind_some]
  congr 1
  apply decide_eq_decide.2
  unfold Lt
  split <;> split <;> (try split) <;> (try split) <;> (try split) <;> (try split) <;> omega

theorem j1_true (k : Nat) (n a0 a1 a2 : Int) (hn : 0 ≤ n ∧ n < 256) (h1 : 0 ≤ a1 ∧ a1 < 4294967296) :
    choirlaw5_IdLine.j1 (k + 7) n false a0 a1 a2 = some true := by
  have e8 : wrap64 (wrap64 (Int.tmod n 8) + 1) = n % 8 + 1 := by
    have : Int.tmod n 8 = n % 8 := Int.tmod_eq_emod_of_nonneg hn.1
    rw [this]; unfold wrap64; omega
  have w16 : IntKind.u16.wrap (n % 8 + 1) = n % 8 + 1 := by rw [IntKind.wrap_u16]; omega
  have c1 : ¬ (n % 8 + 1 < 1) := by omega
  have c2 : ¬ (n % 8 + 1 > 8) := by omega
  have en : opid_Nested.f a0 a1 0 (n % 8 + 1) = some (a0, a1, n % 8 + 1, true) := by
    unfold opid_Nested.f
    rw [if_pos rfl, if_neg c1, if_neg c2, w16]
  have l1 : decide (Lt a0 a1 0 a0 a1 (n % 8 + 1)) = true := by apply decide_eq_true; unfold Lt; omega
  rw [show k + 7 = (k + 6) + 1 from rfl]
  rw [choirlaw5_IdLine.j1]
  rw [if_neg (by simp)]
  unfold opid_Root.f
  rw [Option.bind_some]
  dsimp only
  rw [e8, en, Option.bind_some]
  dsimp only
  rw [if_pos rfl, show k + 6 = (k + 1) + 5 from rfl, less_f, l1, Option.bind_some, if_pos rfl]
  split
  · rfl
  · rename_i hne
    rw [less_f, Option.bind_some]
    congr 1
    apply decide_eq_true
    unfold Lt
    omega

theorem line_f (k : Nat) (a0 a1 a2 b0 b1 b2 c0 c1 c2 n : Int) (hn : 0 ≤ n ∧ n < 256) (h1 : 0 ≤ a1 ∧ a1 < 4294967296) :
    choirlaw5_IdLine.f (k + 8) a0 a1 a2 b0 b1 b2 c0 c1 c2 n = some true := by
  have j0t : choirlaw5_IdLine.j0 (k + 8) n false a0 a1 a2 b0 b1 b2 = some true := by
    rw [show k + 8 = (k + 7) + 1 from rfl]
    rw [choirlaw5_IdLine.j0]
    rw [if_neg (by simp), show k + 7 = (k + 2) + 5 from rfl, less_f, Option.bind_some]
    split
    · exact j1_true k n a0 a1 a2 hn h1
    · rename_i h2
      rw [less_f, Option.bind_some]
      split
      · exact j1_true k n a0 a1 a2 hn h1
      · rename_i h3
        have e : (!(a0 == b0) || (!(a1 == b1) || (!(a2 == b2)))) = false := by
          simp only [decide_eq_true_eq] at h2 h3
          unfold Lt at h2 h3
          have : a0 = b0 ∧ a1 = b1 ∧ a2 = b2 := by omega
          simp [this]
        rw [e]
        exact j1_true k n a0 a1 a2 hn h1
  unfold choirlaw5_IdLine.f choirlaw5_known.f
  rw [Option.bind_some, if_pos rfl, show k + 8 = (k + 3) + 5 from rfl, less_f, Option.bind_some]
  split
  · rename_i h2
    rw [less_f, Option.bind_some]
    split
    · rename_i h3
      rw [less_f, Option.bind_some]
      have : decide (Lt a0 a1 a2 c0 c1 c2) = true := by
        simp only [decide_eq_true_eq] at h2 h3 ⊢
        unfold Lt at *
        omega
      rw [this]
      exact j0t
    · exact j0t
  · exact j0t

theorem walk (a0 : Int) (w0 : (Lit.int .u32 a0).wf = true) (a1 : Int) (w1 : (Lit.int .u32 a1).wf = true) (a2 : Int) (w2 : (Lit.int .u16 a2).wf = true)
    (b0 : Int) (x0 : (Lit.int .u32 b0).wf = true) (b1 : Int) (x1 : (Lit.int .u32 b1).wf = true) (b2 : Int) (x2 : (Lit.int .u16 b2).wf = true)
    (c0 : Int) (y0 : (Lit.int .u32 c0).wf = true) (c1 : Int) (y1 : (Lit.int .u32 c1).wf = true) (c2 : Int) (y2 : (Lit.int .u16 c2).wf = true)
    (n : Int) (hn : (Lit.int .u8 n).wf = true) (W : World) (hT : IdNum.Ok W) :
    Calls Tryd.prog 5 #[.agg #[.int .u32 a0, .int .u32 a1, .int .u16 a2], .agg #[.int .u32 b0, .int .u32 b1, .int .u16 b2], .agg #[.int .u32 c0, .int .u32 c1, .int .u16 c2], .int .u8 n] W fun e W' => e = .returned (.bool true) ∧ Below W.heap.size W W' := by
  have h1 : 0 ≤ a1 ∧ a1 < 4294967296 := by simp [Lit.wf, IntKind.min, IntKind.max, IntKind.signed, IntKind.bits] at w1; omega
  have hn' : 0 ≤ n ∧ n < 256 := by simp [Lit.wf, IntKind.min, IntKind.max, IntKind.signed, IntKind.bits] at hn; omega
  exact choirlaw5_IdLine.calls 8 a0 a1 a2 b0 b1 b2 c0 c1 c2 n true W hT (line_f 0 a0 a1 a2 b0 b1 b2 c0 c1 c2 n hn' h1)
end Go.Proofs.YtdohibibmagpaaaDoor.IdLineW
