/- Just how long a payload may be, written and read; no condition. -/
import Derived.Test.YtlledjfhpdgbhaaQx5
import Derived.Test.YtlledjfhpdgbhaaFrameEv
import Derived.Test.YtlledjfhpdgbhaaFrameTurn
namespace Go.Proofs.Ytlledjfhpdgbhaa.Pure
open Go.RowKit Go.Proofs.Ytlledjfhpdgbhaa.Q Go.Proofs.Ytlledjfhpdgbhaa.FM Go.Proofs.Ytlledjfhpdgbhaa.FE Go.Proofs.YtlledjfhpdgbhaaW.PrintWords Go.Proofs.YtlledjfhpdgbhaaW.PrintLast Go.Proofs.YtlledjfhpdgbhaaW.PrintMore
theorem bytes_zeros (n : Nat) : Bytes (List.replicate n 0) := fun x hx => by
  rw [(List.mem_replicate.1 hx).2]
  exact ⟨by decide, by decide⟩
theorem wrap_big {p : List Int} (h : 65536 < p.length) : Ev (fun k => frame_Wrap.f k [] p) ([], 22) := by
  unfold frame_Wrap.f
  exact Ev.congr (f := fun _ => some ([], 22)) (fun k => by rw [if_pos (by omega)]) (Ev.now _)
theorem opened_head {K : Int} (h0 : 0 ≤ K) (h1 : K < 4294967296) (h2 : 65534 ≤ K) : opened (be 4 K ++ List.replicate 20 0) = ([], 0, if K > 65536 then 22 else 23) := by
  have hA : (be 4 K).length = 4 := be_length 4 _
  have t4 : (be 4 K ++ List.replicate 20 0).take 4 = be 4 K := List.take_left' hA
  have hn : num (be 4 K) = K := by rw [num_be]; omega
  have hl : (be 4 K ++ List.replicate 20 (0 : Int)).length = 24 := by simp [hA]
  unfold opened
  rw [if_neg (by omega), t4, hn]
  by_cases hb : K > 65536
  · rw [if_pos hb, if_pos hb]
  · rw [if_neg hb, if_neg hb, if_pos (by omega)]
theorem FrameGreat : choirlaw4_FrameGreat.Pure := by
  intro a h
  have ha : 0 ≤ a ∧ a < 256 := by simp [Lit.wf, IntKind.min, IntKind.max, IntKind.signed, IntKind.bits] at h; omega
  refine Ev.rounds (g := fun k => choirlaw4_FrameGreat.f k a) ?_
  unfold choirlaw4_FrameGreat.f choirlaw4_known.f
  simp only [Option.bind_some, if_true]
  have e1 : wrap64 (65534 + wrap64 (Int.tmod a 5)) = 65534 + a % 5 := by
    rw [Int.tmod_eq_emod_of_nonneg ha.1, w64 (i := a % 5) (by omega) (by omega), w64 (by omega) (by omega)]
  rw [e1]
  obtain ⟨K, hK⟩ : ∃ K : Int, K = 65534 + a % 5 := ⟨_, rfl⟩
  rw [← hK]
  have k0 : 65534 ≤ K := by omega
  have k1 : K ≤ 65538 := by omega
  clear e1 hK
  have eu : IntKind.u64.wrap K = K := wu _ (by omega) (by omega)
  have e8 : wrap64 (K + 8) = K + 8 := w64 (by omega) (by omega)
  rw [eu, e8]
  have hpl : (List.replicate K.toNat (0 : Int)).length = K.toNat := by simp
  have hpb := bytes_zeros K.toNat
  generalize List.replicate K.toNat (0 : Int) = p at *
  have hput := rputu_ev K [] 4 (by omega) (by simp)
  have hhb : Bytes (be 4 K ++ List.replicate 20 0) := bytes_append (be_bytes 4 K) (bytes_zeros 20)
  have hopen := open_ev hhb (by rw [List.length_append, be_length, List.length_replicate]; omega)
  rw [opened_head (by omega) (by omega) k0] at hopen
  rw [List.nil_append] at hput
  by_cases hb : K > 65536
  · rw [if_pos hb] at hopen
    have hw := wrap_big (p := p) (by omega)
    refine Ev.congr (f := fun k => (frame_Wrap.f k [] p).bind fun bt153 => (choirref3_PutU.f k [] K 4).bind fun t157 => if t157.length + 20 < 140737488355328 then ((frame_Open.f k (t157 ++ List.replicate 20 0)).bind fun bt163 => (if bt153.2 = 22 then (if (bt153.1.length : Int) = 0 then (some (bt163.2.2 == 22)) else (some false)) else (some false))) else none) (fun k => ?_) ?_
    · rw [if_pos (by omega), if_pos (by omega)]
      simp only [if_pos hb]
    · refine Ev.bind hw (Ev.bind hput ?_)
      refine Ev.congr (f := fun k => (frame_Open.f k (be 4 K ++ List.replicate 20 0)).bind fun bt163 => some (bt163.2.2 == 22)) (fun k => ?_) (Ev.bind hopen (Ev.now _))
      rw [if_pos (by rw [be_length]; omega)]
      rfl
  · rw [if_neg hb] at hopen
    have hw := wrap_ev (b := []) hpb (by omega) (by simp)
    rw [List.nil_append] at hw
    have hfo := open_ev (framed_bytes hpb) (by rw [framed_length]; omega)
    have hof := opened_framed (more := []) hpb (by omega)
    rw [List.append_nil] at hof
    rw [hof] at hfo
    refine Ev.congr (f := fun k => (frame_Wrap.f k [] p).bind fun bt153 => (choirref3_PutU.f k [] K 4).bind fun t157 => if t157.length + 20 < 140737488355328 then ((frame_Open.f k (t157 ++ List.replicate 20 0)).bind fun bt163 => (frame_Open.f k bt153.1).bind fun bt168 => (if bt153.2 = 0 then (if (bt168.1.length : Int) = K then (if bt168.2.1 = K + 8 then (if bt168.2.2 = 0 then (some (bt163.2.2 == 23)) else (some false)) else (some false)) else (some false)) else (some false))) else none) (fun k => ?_) ?_
    · rw [if_pos (by omega), if_pos (by omega)]
      simp only [if_neg hb]
    · refine Ev.bind hw (Ev.bind hput ?_)
      refine Ev.congr (f := fun k => (frame_Open.f k (be 4 K ++ List.replicate 20 0)).bind fun bt163 => (frame_Open.f k (framed p)).bind fun bt168 => (if (bt168.1.length : Int) = K then (if bt168.2.1 = K + 8 then (if bt168.2.2 = 0 then (some (bt163.2.2 == 23)) else (some false)) else (some false)) else (some false))) (fun k => ?_) (Ev.bind hopen (Ev.bind hfo ?_))
      · rw [if_pos (by rw [be_length]; omega)]
        simp only [if_true]
      · refine Ev.congr (f := fun _ => some true) (fun k => ?_) (Ev.now _)
        dsimp only
        rw [if_pos (by omega), if_pos (by omega), if_pos rfl]
        rfl
end Go.Proofs.Ytlledjfhpdgbhaa.Pure
