/- A slice of slices of bytes that came in, opened: as a list of lists of bytes that is read. No program is in sight but its table of types. -/
import Derived.Deep.Matrix
import Derived.Test.YtlledjfhpdgbhaaWMore
import Derived.Test.YtlledjfhpdgbhaaFrameMath
import Derived.ProofKit
namespace Go.Proofs.Ytlledjfhpdgbhaa.FR
open Go.RowKit Go.Proofs.Ytlledjfhpdgbhaa.FM Go.Proofs.YtlledjfhpdgbhaaW.PrintWords
theorem byte_wf {l : List Int} (h : ∀ x ∈ l, (Lit.int .u8 x).wf = true) : Bytes l := fun x hx => by
  have := h x hx
  simp [Lit.wf, IntKind.min, IntKind.max, IntKind.signed, IntKind.bits] at this
  exact ⟨by omega, by omega⟩
theorem C_row {w : World} {A : Option Addr} {L C : Nat} {Z : List Int} (hLC : L ≤ C) (hC : C ≤ 9223372036854775807) (hZ : Z.length = C) (h0 : A = none → C = 0)
    (h : ∀ a, A = some a → ∀ c, c < C → w.cell? (a.add c) = some (.int .u8 (Z.getD c 0))) : Kd.C (Kd.int .u8) w A (Z.take L).length (Z.take L) := by
  have hl : (Z.take L).length = L := by simp; omega
  rw [hl]
  refine Kd.C_of_reads (d := (0 : Int)) (h1 := fun _ => rfl) ⟨hl, by omega, fun hp => ?_⟩
  cases A with
  | none => have := h0 rfl; omega
  | some a =>
    refine ⟨a, rfl, fun j hj => ?_⟩
    rw [h a rfl j (by omega)]
    simp [List.getD_eq_getElem?_getD, hj]
theorem rows_open {H : Type} {enc : TypeId × Value → H} {P : Program} {w : World} {base : Nat} {held : Bool} {t e q : TypeId} {fuel len cap : Nat} {a : Option Addr} {x : DataW H × List MemPlace}
    (ht : P.underlying t = some (.slice e)) (he : P.underlying e = some (.slice q)) (hq : P.underlying q = some (.int .u8)) (ce : P.cellsOf e = 1) (cq : P.cellsOf q = 1)
    (h : DataW.trod enc P w base (fun _ => true) held fuel t [.slice a len cap] = some x) :
    ∃ l : List (List Int), l.length = len ∧ len ≤ cap ∧ Kd.C (Kd.slice q (Kd.int .u8)) w a l.length l ∧ ∀ z ∈ l, Bytes z := by
  rcases Go.Deep.open_int_rows ht he hq ce cq h with ⟨hcs, _⟩ | ⟨ad, len', cap', A, L, C, Z, hcs, _, hl, hm, _, hr⟩
  · simp at hcs
    obtain ⟨rfl, rfl, rfl⟩ := hcs
    exact ⟨[], rfl, Nat.le_refl _, Kd.C_nil _ _, fun z hz => by cases hz⟩
  · simp at hcs
    obtain ⟨rfl, rfl, rfl⟩ := hcs
    have hmx : maxLen = 9223372036854775807 := rfl
    refine ⟨(List.range len).map fun r => (Z r).take (L r), by simp, hl, ⟨rfl, by simp; omega, fun _ => ⟨ad, rfl, ?_⟩⟩, ?_⟩
    · intro j p hj
      simp only [List.getElem?_map] at hj
      have hlt : j < len := by
        rcases Nat.lt_or_ge j len with h' | h'
        · exact h'
        · rw [List.getElem?_eq_none (by simp; omega)] at hj
          cases hj
      rw [List.getElem?_range hlt] at hj
      obtain rfl : (Z j).take (L j) = p := by simpa using hj
      obtain ⟨h1, h2, h3, h4, h5, h6, h7⟩ := hr j (by omega)
      have hlen : ((Z j).take (L j)).length = L j := by simp; omega
      refine ⟨[.slice (A j) ((Z j).take (L j)).length (C j)], rfl, ⟨A j, C j, rfl, by omega, C_row h2 (by omega) h4 h6 fun a' ha c hc => (h7 a' ha).2 c hc⟩, ?_⟩
      intro i u hi
      cases i with
      | zero =>
        simp at hi
        subst hi
        rw [show j * (Kd.slice q (Kd.int .u8)).sz + 0 = j by simp [Kd.slice], h1, ← hlen]
        simp
      | succ i => simp at hi
    · intro z hz
      obtain ⟨r, hr', rfl⟩ := List.mem_map.1 hz
      have := hr r (by have := List.mem_range.1 hr'; omega)
      exact bytes_take (byte_wf this.2.2.2.2.1) _
/-- A slice of bytes that came in, as the row hands it over. -/
theorem bytes_open {w : World} {a : Option Addr} {len cap : Nat} {zs : List Int}
    (h : (a = none ∧ len = 0 ∧ cap = 0 ∧ zs = []) ∨ ∃ x, a = some x ∧ len ≤ cap ∧ cap ≤ maxLen ∧ zs.length = cap ∧ (∀ i, i < zs.length → w.cell? (x.add i) = some (.int .u8 (zs.getD i 0))) ∧ ∀ n ∈ zs, (Lit.int .u8 n).wf = true) :
    ∃ l : List Int, l.length = len ∧ len ≤ cap ∧ Kd.C (Kd.int .u8) w a l.length l ∧ Bytes l := by
  obtain ⟨l, rfl, hr, hm, hw, hc⟩ := ReadsInt.ofRowC h
  refine ⟨l, rfl, hc, Kd.C_of_reads (d := (0 : Int)) (h1 := fun _ => rfl) hr, byte_wf hw⟩
end Go.Proofs.Ytlledjfhpdgbhaa.FR
