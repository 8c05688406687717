/- Any bytes are opened alike by the program and by the reference; then the law, called. -/
import Derived.Test.YtlledjfhpdgbhaaQx5
import Derived.Test.YtlledjfhpdgbhaaFrameEv
import Derived.Test.YtlledjfhpdgbhaaFrameTurn
import Derived.Test.YtlledjfhpdgbhaaFrameRows
namespace Go.Proofs.Ytlledjfhpdgbhaa.FRd
open Go.RowKit Go.Proofs.Ytlledjfhpdgbhaa.Q Go.Proofs.Ytlledjfhpdgbhaa.FM Go.Proofs.Ytlledjfhpdgbhaa.FE Go.Proofs.YtlledjfhpdgbhaaW.PrintWords Go.Proofs.YtlledjfhpdgbhaaW.PrintLast Go.Proofs.YtlledjfhpdgbhaaW.PrintMore
theorem xored {x y : Int} (hx : Byte x) (hy : Byte y) : Byte (Go.bits .xor .u8 x y) := by
  rw [u8_xor x y hx.1 hx.2 hy.1 hy.2]
  refine ⟨by omega, ?_⟩
  have := Nat.xor_lt_two_pow (n := 8) (x := x.toNat) (y := y.toNat) (by have := hx.2; have := hx.1; omega) (by have := hy.2; have := hy.1; omega)
  omega
theorem loop_ev (ls : List (List Int)) (hls : ∀ z ∈ ls, Bytes z ∧ z.length ≤ 1000000) (hn : ls.length ≤ 100) : ∀ (d i : Nat), i + d = ls.length → Ev (fun k => choirlaw4_FrameReads.l0 k ls (ls.length : Int) (i : Int)) true
  | 0, i, h => by
    refine Ev.step (f := fun _ => some true) (fun k => ?_) (Ev.now _)
    simp only [choirlaw4_FrameReads.l0]
    rw [if_neg (by omega)]
  | d + 1, i, h => by
    have hi : i < ls.length := by omega
    have hz : rd_L1 ls (i : Int) = ls[i] := by simp [rd_L1, hi]
    obtain ⟨hb, hl⟩ := hls _ (List.getElem_mem hi)
    have o1 := open_ev hb hl
    have o2 := ropen_ev hb hl
    generalize opened ls[i] = r at o1 o2
    refine Ev.step (f := fun k => (frame_Open.f k ls[i]).bind fun bt198 => ((choirref3_Open.f k ls[i]).bind fun bt203 => (if bt198.2.2 = bt203.2.2 then (if bt198.2.1 = bt203.2.1 then (if (strOfNums bt198.1).toList = (strOfNums bt203.1).toList then (choirlaw4_FrameReads.l0 k ls (ls.length : Int) ((i + 1 : Nat) : Int)) else (some false)) else (some false)) else (some false)))) (fun k => ?_) (Ev.bind o1 (Ev.bind o2 ?_))
    · simp only [choirlaw4_FrameReads.l0]
      rw [if_pos (by omega), if_pos (by omega), if_pos (by omega), hz, w64 (by omega) (by omega)]
      rfl
    · simp only [if_true]
      exact loop_ev ls hls hn d (i + 1) (by omega)
theorem j1_ev {raw b : List Int} (hr : Bytes raw) (hrl : raw.length ≤ 1000000) (hb : Bytes b) (hbl : b.length ≤ 1000000) : Ev (fun k => choirlaw4_FrameReads.j1 k raw b) true := by
  refine Ev.step (f := fun k => choirlaw4_FrameReads.l0 k [raw, b] (([raw, b] : List (List Int)).length : Int) ((0 : Nat) : Int)) (fun k => ?_) (loop_ev [raw, b] (fun z hz => ?_) (by simp) 2 0 rfl)
  · simp only [choirlaw4_FrameReads.j1, Option.bind_some]
    rfl
  · rcases List.mem_cons.1 hz with rfl | hz
    · exact ⟨hr, hrl⟩
    · rcases List.mem_cons.1 hz with rfl | hz
      · exact ⟨hb, hbl⟩
      · cases hz
theorem reads_ev {raw p : List Int} (hr : Bytes raw) (hp : Bytes p) {a x : Int} (ha : 0 ≤ a ∧ a < 65536) (hx : Byte x) (cut : Bool) : Ev (fun k => choirlaw4_FrameReads.f k raw p a x cut) true := by
  unfold choirlaw4_FrameReads.f choirlaw4_known.f
  simp only [Option.bind_some, if_true]
  have yes : ∀ b, b = true → Ev (fun k => choirlaw4_FrameReads.j0 k raw p a x cut b) true := fun b h => by
    subst h
    exact Ev.step (f := fun _ => some true) (fun k => by simp [choirlaw4_FrameReads.j0]) (Ev.now _)
  by_cases h1 : (raw.length : Int) > 300
  · simp only [if_pos h1]
    exact yes _ rfl
  simp only [if_neg h1]
  by_cases h2 : (p.length : Int) > 300
  · exact yes _ (decide_eq_true h2)
  rw [decide_eq_false h2]
  have hw := rwrap_ev (b := []) hp (by omega) (by simp)
  rw [List.nil_append] at hw
  have hfl := framed_length p
  have hfb := framed_bytes hp
  generalize framed p = f at *
  have e4 : 0 ≤ a % (f.length : Int) ∧ a % (f.length : Int) < (f.length : Int) := ⟨Int.emod_nonneg _ (by omega), Int.emod_lt_of_pos _ (by omega)⟩
  obtain ⟨i, hi⟩ : ∃ i : Nat, (i : Int) = a % (f.length : Int) := ⟨(a % (f.length : Int)).toNat, by omega⟩
  have hil : i < f.length := by omega
  have hxb := xored (hfb _ (List.getElem_mem hil)) hx
  have hs := bytes_set hfb (i := i) hxb
  have hsl : (f.set i (Go.bits .xor .u8 f[i] x)).length = f.length := List.length_set
  refine Ev.step (f := fun k => (choirref3_Wrap.f k [] p).bind fun bt185 => (if (bt185.1.length : Int) = 0 then (none) else (if 0 ≤ (Int.tmod (wrap64 a) (bt185.1.length : Int)) then (if (Int.tmod (wrap64 a) (bt185.1.length : Int)) < (bt185.1.length : Int) then ((some (bt185.1.set ((Int.tmod (wrap64 a) (bt185.1.length : Int)) : Int).toNat (Go.bits .xor .u8 (rd bt185.1 (Int.tmod (wrap64 a) (bt185.1.length : Int))) x) : List Int)).bind fun y190 => (if cut = true then (if (Int.tmod (wrap64 a) (bt185.1.length : Int)) ≤ (bt185.1.length : Int) then (choirlaw4_FrameReads.j1 k raw (y190.take ((Int.tmod (wrap64 a) (bt185.1.length : Int)) : Int).toNat)) else (none)) else (choirlaw4_FrameReads.j1 k raw y190))) else (none)) else (none)))) (fun k => ?_) (Ev.bind hw ?_)
  · simp only [choirlaw4_FrameReads.j0]
    rw [if_neg (by decide)]
  · dsimp only
    rw [w64 (i := a) (by omega) (by omega), Int.tmod_eq_emod_of_nonneg ha.1, ← hi, rd_at hil, Int.toNat_natCast]
    generalize f.set i (Go.bits .xor .u8 f[i] x) = g at *
    cases cut with
    | true =>
      refine Ev.congr (f := fun k => choirlaw4_FrameReads.j1 k raw (g.take i)) (fun k => ?_) (j1_ev hr (by omega) (bytes_take hs i) (by simp; omega))
      rw [if_neg (by omega), if_pos (by omega), if_pos (by omega), Option.bind_some, if_pos rfl, if_pos (by omega)]
    | false =>
      refine Ev.congr (f := fun k => choirlaw4_FrameReads.j1 k raw g) (fun k => ?_) (j1_ev hr (by omega) hs (by omega))
      rw [if_neg (by omega), if_pos (by omega), if_pos (by omega), Option.bind_some, if_neg (by decide)]
theorem walk (a0 : Option Addr) (cap0 : Nat) (l0 : List Int) (hc0 : l0.length ≤ cap0) {w : World} (hC0 : Kd.C (Kd.int .u8) w a0 l0.length l0) (hB0 : Bytes l0)
    (a1 : Option Addr) (cap1 : Nat) (l1 : List Int) (hc1 : l1.length ≤ cap1) (hC1 : Kd.C (Kd.int .u8) w a1 l1.length l1) (hB1 : Bytes l1)
    (a2 : Int) (w2 : (Lit.int .u16 a2).wf = true) (a3 : Int) (w3 : (Lit.int .u8 a3).wf = true) (a4 : Bool) (W : World) (hW : W = w := by rfl) :
    Calls Try.prog 4 #[.slice a0 l0.length cap0, .slice a1 l1.length cap1, .int .u16 a2, .int .u8 a3, .bool a4] W fun e w' => e = .returned (.bool true) ∧ Below W.heap.size W w' := by
  subst hW
  have h1 : 0 ≤ a2 ∧ a2 < 65536 := by simp [Lit.wf, IntKind.min, IntKind.max, IntKind.signed, IntKind.bits] at w2; omega
  have h2 : Byte a3 := by simp [Lit.wf, IntKind.min, IntKind.max, IntKind.signed, IntKind.bits] at w3; exact ⟨by omega, by omega⟩
  obtain ⟨k, h⟩ := (reads_ev hB0 hB1 h1 h2 a4).rounds
  exact choirlaw4_FrameReads.calls k (fun k_ => k_ < W.heap.size) a0 cap0 l0 a1 cap1 l1 a2 a3 a4 true W (Kd.V_mk hc0 (Kd.C_F (Kd.heap_int .u8) hC0)) hC1 hc1 h
end Go.Proofs.Ytlledjfhpdgbhaa.FRd
