/- The sum of bytes is the document's, and that one bit turned makes another one; no condition. -/
import Derived.Test.YtlledjfhpdgbhaaQx3
import Derived.Test.YtlledjfhpdgbhaaFrameEv
import Derived.Test.YtlledjfhpdgbhaaFrameTurn
namespace Go.Proofs.Ytlledjfhpdgbhaa.Pure
open Go.RowKit Go.Proofs.Ytlledjfhpdgbhaa.Q Go.Proofs.Ytlledjfhpdgbhaa.FM Go.Proofs.Ytlledjfhpdgbhaa.FE Go.Proofs.YtlledjfhpdgbhaaW.PrintWords Go.Proofs.YtlledjfhpdgbhaaW.PrintLast Go.Proofs.YtlledjfhpdgbhaaW.PrintMore
theorem FrameSums : choirlaw4_FrameSums.Pure := by
  intro l a1 a2 _ _ hw h1 h2
  have hb : Bytes l := fun x hx => by
    have := hw x hx
    simp [Lit.wf, IntKind.min, IntKind.max, IntKind.signed, IntKind.bits] at this
    exact ⟨by omega, by omega⟩
  have h1' : 0 ≤ a1 ∧ a1 < 65536 := by simp [Lit.wf, IntKind.min, IntKind.max, IntKind.signed, IntKind.bits] at h1; omega
  have h2' : 0 ≤ a2 ∧ a2 < 256 := by simp [Lit.wf, IntKind.min, IntKind.max, IntKind.signed, IntKind.bits] at h2; omega
  refine Ev.rounds (g := fun k => choirlaw4_FrameSums.f k l a1 a2) ?_
  unfold choirlaw4_FrameSums.f choirlaw4_known.f
  simp only [Option.bind_some, if_true]
  have yes : ∀ b, b = true → Ev (fun k => choirlaw4_FrameSums.j0 k l a1 a2 b) true := fun b h => by
    subst h
    exact Ev.step (f := fun _ => some true) (fun k => by simp [choirlaw4_FrameSums.j0]) (Ev.now _)
  by_cases hbig : (l.length : Int) > 500
  · simp only [if_pos hbig]
    exact yes _ rfl
  simp only [if_neg hbig]
  by_cases h0 : l.length = 0
  · exact yes _ (by simp [h0])
  rw [show ((l.length : Int) == 0) = false by simp; exact fun h => h0 (by simp [h])]
  refine Ev.step (f := fun k => (frame_Sum.f k l).bind fun t212 => (choirref3_Sum.f k l).bind fun t218 => (if t212 = t218 then ((frame_Sum.f k (l.set (a1 % (l.length : Int)).toNat (Go.bits .xor .u8 (rd l (a1 % (l.length : Int))) (shl .u8 1 (a2 % 8))))).bind fun t219 => ((choirref3_Sum.f k (l.set (a1 % (l.length : Int)).toNat (Go.bits .xor .u8 (rd l (a1 % (l.length : Int))) (shl .u8 1 (a2 % 8))))).bind fun t220 => (if t219 = t220 then (some (t219 != t212)) else (some false)))) else (some false))) (fun k => ?_) ?_
  · simp only [choirlaw4_FrameSums.j0]
    rw [if_neg (by decide)]
    congr 1
    funext t212
    simp only [List.length_nil, List.nil_append, Option.bind_some]
    rw [w64 (i := a1) (by omega) (by omega), Int.tmod_eq_emod_of_nonneg h1'.1, Int.tmod_eq_emod_of_nonneg h2'.1]
    rw [if_pos (by omega), if_neg (by omega), if_pos (Int.emod_nonneg _ (by omega)), if_pos (Int.emod_lt_of_pos _ (by omega)), if_pos (by omega)]
  · have e4 : 0 ≤ a1 % (l.length : Int) ∧ a1 % (l.length : Int) < (l.length : Int) := ⟨Int.emod_nonneg _ (by omega), Int.emod_lt_of_pos _ (by omega)⟩
    generalize a1 % (l.length : Int) = m at *
    obtain ⟨i, rfl⟩ : ∃ i : Nat, (i : Int) = m := ⟨m.toNat, by omega⟩
    have hil : i < l.length := by omega
    obtain ⟨t1, t2⟩ := turned (x := l[i]) (j := a2 % 8) (hb _ (List.getElem_mem hil)) (by omega) (by omega)
    rw [rd_at hil, Int.toNat_natCast]
    generalize Go.bits .xor .u8 l[i] (shl .u8 1 (a2 % 8)) = c at *
    have hc := crc_set (a := []) (fun _ h => by cases h) hb t1 hil t2
    rw [List.nil_append, List.nil_append] at hc
    have hbs := bytes_set hb (i := i) t1
    refine Ev.bind (sum_ev hb (by omega)) (Ev.bind (rsum_ev hb (by omega)) ?_)
    simp only [if_true]
    refine Ev.bind (sum_ev hbs (by simp; omega)) (Ev.bind (rsum_ev hbs (by simp; omega)) ?_)
    simp only [if_true]
    rw [bne_iff_ne.2 hc]
    exact Ev.now _
end Go.Proofs.Ytlledjfhpdgbhaa.Pure
