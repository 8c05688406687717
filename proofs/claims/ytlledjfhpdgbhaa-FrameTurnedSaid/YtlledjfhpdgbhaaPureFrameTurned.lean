/- A frame of which one bit behind its four bytes of length is turned is told by another sum; no condition. -/
import Derived.Test.YtlledjfhpdgbhaaQx2
import Derived.Test.YtlledjfhpdgbhaaFrameEv
import Derived.Test.YtlledjfhpdgbhaaFrameTurn
namespace Go.Proofs.Ytlledjfhpdgbhaa.Pure
open Go.RowKit Go.Proofs.Ytlledjfhpdgbhaa.Q Go.Proofs.Ytlledjfhpdgbhaa.FM Go.Proofs.Ytlledjfhpdgbhaa.FE Go.Proofs.YtlledjfhpdgbhaaW.PrintWords Go.Proofs.YtlledjfhpdgbhaaW.PrintLast Go.Proofs.YtlledjfhpdgbhaaW.PrintMore
theorem bytes_wf {l : List Int} (h : ∀ x ∈ l, (Lit.int .u8 x).wf = true) : Bytes l := fun x hx => by
  have := h x hx
  simp [Lit.wf, IntKind.min, IntKind.max, IntKind.signed, IntKind.bits] at this
  exact ⟨by omega, by omega⟩
theorem FrameTurned : choirlaw4_FrameTurned.Pure := by
  intro l a1 a2 _ _ hw h1 h2
  have hb := bytes_wf hw
  have h1' : 0 ≤ a1 ∧ a1 < 65536 := by simp [Lit.wf, IntKind.min, IntKind.max, IntKind.signed, IntKind.bits] at h1; omega
  have h2' : 0 ≤ a2 ∧ a2 < 256 := by simp [Lit.wf, IntKind.min, IntKind.max, IntKind.signed, IntKind.bits] at h2; omega
  refine Ev.rounds (g := fun k => choirlaw4_FrameTurned.f k l a1 a2) ?_
  unfold choirlaw4_FrameTurned.f choirlaw4_known.f
  simp only [Option.bind_some, if_true]
  by_cases hbig : (l.length : Int) > 500
  · simp only [if_pos hbig]
    exact Ev.now _
  simp only [if_neg hbig]
  refine Ev.bind (wrap_ev (b := []) hb (by omega) (by simp)) ?_
  simp only [List.nil_append]
  have hfl := framed_length l
  have hfb := framed_bytes hb
  have ho := fun i h4 hi b hbb hne => opened_turned hb (by omega) (i := i) h4 hi (b := b) hbb hne
  generalize framed l = f at *
  have e1 : wrap64 ((f.length : Int) - 4) = (f.length : Int) - 4 := w64 (by omega) (by omega)
  have e2 : wrap64 a1 = a1 := w64 (by omega) (by omega)
  have e3 : Int.tmod a1 ((f.length : Int) - 4) = a1 % ((f.length : Int) - 4) := Int.tmod_eq_emod_of_nonneg h1'.1
  have e4 : 0 ≤ a1 % ((f.length : Int) - 4) ∧ a1 % ((f.length : Int) - 4) < (f.length : Int) - 4 := ⟨Int.emod_nonneg _ (by omega), Int.emod_lt_of_pos _ (by omega)⟩
  have e5 : Int.tmod a2 8 = a2 % 8 := Int.tmod_eq_emod_of_nonneg h2'.1
  rw [e1, e2, e3, e5]
  generalize a1 % ((f.length : Int) - 4) = m at *
  rw [w64 (i := 4 + m) (by omega) (by omega)]
  obtain ⟨i, hi⟩ : ∃ i : Nat, (i : Int) = 4 + m := ⟨(4 + m).toNat, by omega⟩
  rw [← hi]
  have hil : i < f.length := by omega
  obtain ⟨t1, t2⟩ := turned (x := f[i]) (j := a2 % 8) (hfb _ (List.getElem_mem hil)) (by omega) (by omega)
  have hs := ho i (by omega) hil _ t1 t2
  rw [rd_at hil]
  simp only [Int.toNat_natCast]
  refine Ev.congr (f := fun k => (frame_Open.f k (f.set i (Go.bits .xor .u8 f[i] (shl .u8 1 (a2 % 8))))).bind fun bt206 => (some (bt206.2.2 == 21))) (fun k => ?_) ?_
  · rw [if_neg (by omega), if_neg (by omega), if_pos (by omega), if_pos (by omega), if_pos (by omega)]
  · have h7 := open_ev (l := f.set i (Go.bits .xor .u8 f[i] (shl .u8 1 (a2 % 8)))) (bytes_set hfb t1) (by simp; omega)
    rw [hs] at h7
    refine Ev.bind h7 ?_
    exact Ev.now _
end Go.Proofs.Ytlledjfhpdgbhaa.Pure
