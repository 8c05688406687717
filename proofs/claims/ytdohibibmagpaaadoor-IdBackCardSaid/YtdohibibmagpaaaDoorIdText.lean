import Derived.Test.YtdohibibmagpaaaDoorIdNum
import Derived.Deep.RegionWith
import Derived.Lib.ItoaLen
import Derived.Test.YtdohibibmagpaaaDoorWMore
namespace Go.Proofs.YtdohibibmagpaaaDoor.IdNum
open Go.Shelf Go.RowKit Go.Sort Go.Lib Go.Proofs.YtdohibibmagpaaaDoorW.PrintWords
set_option linter.unusedVariables false

def str (l : List UInt8) : ByteArray := ⟨l.toArray⟩
/-- opid.Text. -/
def textL (c s n : Nat) : List UInt8 := Lib.decDigits c ++ [45] ++ Lib.decDigits s ++ (if n = 0 then [] else [46] ++ Lib.decDigits n)

/-- The world in which the boxed id still lies. -/
structure Held (w : World) (c s n : Nat) (W : World) : Prop where
  ok : Ok W
  below : Below w.heap.size w W
  cell0 : W.cell? ⟨w.heap.size, 0, none⟩ = some (.int .u32 (c : Int))
  cell1 : W.cell? ⟨w.heap.size, 1, none⟩ = some (.int .u32 (s : Int))
  cell2 : W.cell? ⟨w.heap.size, 2, none⟩ = some (.int .u16 (n : Int))
  size : w.heap.size < W.heap.size

theorem Held.step {w W W' : World} {c s n : Nat} (h : Held w c s n W) (hb : Below W.heap.size W W') : Held w c s n W' :=
  ⟨h.ok.below hb, h.below.trans (hb.mono (by have := h.size; omega)), by rw [hb.cell (by exact h.size)]; exact h.cell0, by rw [hb.cell (by exact h.size)]; exact h.cell1, by rw [hb.cell (by exact h.size)]; exact h.cell2, Nat.lt_of_lt_of_le h.size hb.size⟩
theorem Held.drew {w W : World} {c s n : Nat} (h : Held w c s n W) : Held w c s n W.drew := h.step ((Below.refl _ _).drew)

theorem Held.first {w : World} (hw : Ok w) (c s n : Nat) : Held w c s n (w.alloc (.cells #[.int .u32 (c : Int), .int .u32 (s : Int), .int .u16 (n : Int)] 25)) := by
  have hb := (Below.refl w.heap.size w).alloc (Nat.le_refl _) (.cells #[.int .u32 (c : Int), .int .u32 (s : Int), .int .u16 (n : Int)] 25)
  exact ⟨hw.below hb, hb, by simp [go_sem], by simp [go_sem], by simp [go_sem], by show _ < (w.heap.push _).size; rw [Array.size_push]; omega⟩

theorem held_digits {w W : World} {c s n : Nat} (h : Held w c s n W) (u : Nat) (hu : u < 18446744073709551616) :
    Calls Tryd.prog 15 #[.int .u64 (u : Int)] W fun e W' => e = .returned (.string ⟨(Lib.decDigits u).toArray⟩) ∧ Held w c s n W' :=
  (digits15 u hu W h.ok).mono fun e W' ⟨he, hb⟩ => ⟨he, h.step hb⟩

theorem digits_size (u : Nat) (hu : u < 18446744073709551616) : (ByteArray.mk (Lib.decDigits u).toArray).size ≤ 20 := by
  show (Lib.decDigits u).toArray.size ≤ 20
  rw [List.size_toArray, Lib.decDigits_length]
  exact Lib.nDigits_le20 u hu

set_option maxHeartbeats 4000000 in
set_option maxRecDepth 100000 in
theorem text7_walk (c s n : Nat) (hc : c < 4294967296) (hs : s < 4294967296) (hn : n < 65536) (w : World) (hw : Ok w) (dc ds dn : ByteArray)
    (ec : dc = ⟨(Lib.decDigits c).toArray⟩) (es : ds = ⟨(Lib.decDigits s).toArray⟩) (en : dn = ⟨(Lib.decDigits n).toArray⟩) :
    Calls Tryd.prog 7 #[.agg #[.int .u32 (c : Int), .int .u32 (s : Int), .int .u16 (n : Int)]] w fun e w' => e = .returned (.string (if n = 0 then dc ++ ⟨#[45]⟩ ++ ds else dc ++ ⟨#[45]⟩ ++ ds ++ (⟨#[46]⟩ ++ dn))) ∧ Below w.heap.size w w' := by
  have H0 := Aside0.mk (Held.first hw c s n)
  have wc : IntKind.u64.wrap (c : Int) = (c : Int) := by rw [IntKind.wrap_u64]; omega
  have ws : IntKind.u64.wrap (s : Int) = (s : Int) := by rw [IntKind.wrap_u64]; omega
  have wn : IntKind.u64.wrap (n : Int) = (n : Int) := by rw [IntKind.wrap_u64]; omega
  have hD1 : ∀ W, Held w c s n W → Calls Tryd.prog 15 #[.int .u64 (c : Int)] W fun e W' => e = .returned (.string dc) ∧ Held w c s n W' := fun W h => ec ▸ held_digits h c (by omega)
  have hD2 : ∀ W, Held w c s n W → Calls Tryd.prog 15 #[.int .u64 (s : Int)] W fun e W' => e = .returned (.string ds) ∧ Held w c s n W' := fun W h => es ▸ held_digits h s (by omega)
  have hD3 : ∀ W, Held w c s n W → Calls Tryd.prog 15 #[.int .u64 (n : Int)] W fun e W' => e = .returned (.string dn) ∧ Held w c s n W' := fun W h => en ▸ held_digits h n (by omega)
  have s1 : dc.size ≤ 20 := ec ▸ digits_size c (by omega)
  have s2 : ds.size ≤ 20 := es ▸ digits_size s (by omega)
  have s3 : dn.size ≤ 20 := en ▸ digits_size n (by omega)
  have n1 : ¬ 9223372036854775807 < dc.size + 1 := by omega
  have n1' : ¬ 9223372036854775806 < dc.size := by omega
  have n2 : ¬ 9223372036854775807 < dc.size + 1 + ds.size := by omega
  have n3 : ¬ 9223372036854775807 < 1 + dn.size := by omega
  have n4 : ¬ 9223372036854775807 < dc.size + 1 + ds.size + (1 + dn.size) := by omega
  clear ec es en s1 s2 s3
  by_cases h0 : n = 0
  · subst h0
    rw [if_pos rfl]
    go_enter Tryd.func7, Tryd.ntmps7
    go_wp2
    go_region_with (first
      | (go_at_call_of 15 (Value.int IntKind.u64 (c : Int)); refine (hD1 _ ?_).mono ?_; exact H0.out.drew; rintro e W1 ⟨rfl, h1⟩; have q0 := h1.cell0; have q1 := h1.cell1; have q2 := h1.cell2; have H1 := Aside0.mk h1; clear h1)
      | (go_at_call_of 15 (Value.int IntKind.u64 (s : Int)); refine (hD2 _ ?_).mono ?_; exact H1.out; rintro e W1 ⟨rfl, h1⟩; have q0 := h1.cell0; have q1 := h1.cell1; have q2 := h1.cell2; have H1 := Aside0.mk h1; clear h1))
    all_goals (go_wp2; go_ret; exact ⟨rfl, H1.out.below⟩)
  · rw [if_neg h0]
    have h0' : ¬ (n : Int) = 0 := by omega
    go_enter Tryd.func7, Tryd.ntmps7
    go_wp2
    go_region_with (first
      | (go_at_call_of 15 (Value.int IntKind.u64 (c : Int)); refine (hD1 _ ?_).mono ?_; exact H0.out.drew; rintro e W1 ⟨rfl, h1⟩; have q0 := h1.cell0; have q1 := h1.cell1; have q2 := h1.cell2; have H1 := Aside0.mk h1; clear h1)
      | (go_at_call_of 15 (Value.int IntKind.u64 (s : Int)); refine (hD2 _ ?_).mono ?_; exact H1.out; rintro e W1 ⟨rfl, h1⟩; have q0 := h1.cell0; have q1 := h1.cell1; have q2 := h1.cell2; have H1 := Aside0.mk h1; clear h1))
    all_goals (
      go_wp2_with (go_at_call 15; refine (hD3 _ H1.out).mono ?_; rintro e W2 ⟨rfl, h2⟩; have H2 := Aside0.mk h2; clear h2)
      go_ret
      exact ⟨rfl, H2.out.below⟩)

theorem text7 (c s n : Nat) (hc : c < 4294967296) (hs : s < 4294967296) (hn : n < 65536) (w : World) (hw : Ok w) :
    Calls Tryd.prog 7 #[.agg #[.int .u32 (c : Int), .int .u32 (s : Int), .int .u16 (n : Int)]] w fun e w' => e = .returned (.string (str (textL c s n))) ∧ Below w.heap.size w w' := by
  refine (text7_walk c s n hc hs hn w hw _ _ _ rfl rfl rfl).mono ?_
  rintro e w' ⟨rfl, hB⟩
  refine ⟨?_, hB⟩
  congr 2
  unfold textL str
  by_cases h0 : n = 0
  · simp only [if_pos h0, List.append_nil]
    apply ByteArray.ext
    simp [ByteArray.data_append]
  · simp only [if_neg h0]
    apply ByteArray.ext
    simp [ByteArray.data_append]
end Go.Proofs.YtdohibibmagpaaaDoor.IdNum
