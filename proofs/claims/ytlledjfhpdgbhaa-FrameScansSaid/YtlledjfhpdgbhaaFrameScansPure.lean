/- Frames, one behind another: both scans tell the same payloads, and go as far; no program's memory is in sight. Then the law, called. -/
import Derived.Test.YtlledjfhpdgbhaaQx4
import Derived.Test.YtlledjfhpdgbhaaFrameEv
import Derived.Test.YtlledjfhpdgbhaaFrameTurn
import Derived.Test.YtlledjfhpdgbhaaFrameRows
namespace Go.Proofs.Ytlledjfhpdgbhaa.FS
open Go.RowKit Go.Proofs.Ytlledjfhpdgbhaa.Q Go.Proofs.Ytlledjfhpdgbhaa.FM Go.Proofs.Ytlledjfhpdgbhaa.FE Go.Proofs.YtlledjfhpdgbhaaW.PrintWords Go.Proofs.YtlledjfhpdgbhaaW.PrintLast Go.Proofs.YtlledjfhpdgbhaaW.PrintMore
theorem opened_took {l : List Int} (hb : Bytes l) (h : (opened l).2.2 = 0) : 8 ≤ (opened l).2.1 ∧ (opened l).2.1 ≤ (l.length : Int) := by
  obtain ⟨n0, n1⟩ := num4 hb
  unfold opened at *
  split at h
  · simp at h
  rename_i h8
  rw [if_neg h8]
  split at h
  · simp at h
  rename_i hbig
  rw [if_neg hbig]
  split at h
  · simp at h
  rename_i hm
  rw [if_neg hm]
  split at h
  · rename_i hc
    rw [if_pos hc]
    exact ⟨by simp only; omega, by simp only; omega⟩
  · simp at h
/-- What a scan comes to, from a place on. -/
def scanned : Nat → List Int → List (List Int) → Int → List (List Int) × Int
  | 0, _, v, n => (v, n)
  | d + 1, l, v, n => if (opened (l.drop n.toNat)).2.2 = 0 then scanned d l (v ++ [(opened (l.drop n.toNat)).1]) (n + (opened (l.drop n.toNat)).2.1) else (v, n)
theorem scan_ev {l : List Int} (hb : Bytes l) (hl : l.length ≤ 1000000) : ∀ (d : Nat) (v : List (List Int)) (n : Int), 0 ≤ n → n ≤ l.length → (l.length : Int) - n < d → v.length + d < 5864062014805 → Ev (fun k => frame_Scan.l0 k l v n) (scanned d l v n)
  | 0, v, n, h0, h1, h2, h3 => by omega
  | d + 1, v, n, h0, h1, h2, h3 => by
    have hd := bytes_drop hb n.toNat
    have hdl : ((l.drop n.toNat).length : Int) = l.length - n := by simp; omega
    refine Ev.step (f := fun k => (frame_Open.f k (l.drop n.toNat)).bind fun bt => if bt.2.2 = 0 then frame_Scan.l0 k l (v ++ [bt.1]) (wrap64 (n + bt.2.1)) else some (v, n)) (fun k => ?_) (Ev.bind (open_ev hd (by omega)) ?_)
    · simp only [frame_Scan.l0]
      rw [if_pos h0, if_pos h1]
      congr 1
      funext bt
      by_cases e : bt.2.2 = 0
      · rw [if_pos e, if_pos e, if_pos (by omega)]
      · rw [if_neg e, if_neg e]
    · simp only [scanned]
      by_cases e : (opened (l.drop n.toNat)).2.2 = 0
      · simp only [if_pos e]
        obtain ⟨t1, t2⟩ := opened_took hd e
        rw [w64 (by omega) (by omega)]
        exact scan_ev hb hl d _ _ (by omega) (by omega) (by omega) (by simp; omega)
      · simp only [if_neg e]
        exact Ev.now _
theorem rscan_ev {l : List Int} (hb : Bytes l) (hl : l.length ≤ 1000000) : ∀ (d : Nat) (v : List (List Int)) (n : Int), 0 ≤ n → n ≤ l.length → (l.length : Int) - n < d → v.length + d < 5864062014805 → Ev (fun k => choirref3_Scan.l0 k l v n) (scanned d l v n)
  | 0, v, n, h0, h1, h2, h3 => by omega
  | d + 1, v, n, h0, h1, h2, h3 => by
    have hd := bytes_drop hb n.toNat
    have hdl : ((l.drop n.toNat).length : Int) = l.length - n := by simp; omega
    refine Ev.step (f := fun k => (choirref3_Open.f k (l.drop n.toNat)).bind fun bt => if bt.2.2 = 0 then choirref3_Scan.l0 k l (v ++ [bt.1]) (wrap64 (n + bt.2.1)) else some (v, n)) (fun k => ?_) (Ev.bind (ropen_ev hd (by omega)) ?_)
    · simp only [choirref3_Scan.l0]
      rw [if_pos h0, if_pos h1]
      congr 1
      funext bt
      by_cases e : bt.2.2 = 0
      · rw [if_pos e, if_pos e, if_pos (by omega)]
      · rw [if_neg e, if_neg e]
    · simp only [scanned]
      by_cases e : (opened (l.drop n.toNat)).2.2 = 0
      · simp only [if_pos e]
        obtain ⟨t1, t2⟩ := opened_took hd e
        rw [w64 (by omega) (by omega)]
        exact rscan_ev hb hl d _ _ (by omega) (by omega) (by omega) (by simp; omega)
      · simp only [if_neg e]
        exact Ev.now _
theorem scanned_len : ∀ (d : Nat) (l : List Int) (v : List (List Int)) (n : Int), (scanned d l v n).1.length ≤ v.length + d
  | 0, _, _, _ => by simp [scanned]
  | d + 1, l, v, n => by
    simp only [scanned]
    split
    · have := scanned_len d l (v ++ [(opened (l.drop n.toNat)).1]) (n + (opened (l.drop n.toNat)).2.1)
      simp at this
      omega
    · simp only; omega
theorem same_ev (v : List (List Int)) (hv : v.length ≤ 2000000) : ∀ (d i : Nat), i + d = v.length → Ev (fun k => choirlaw4_FrameScans.l1 k v v (i : Int)) true
  | 0, i, h => by
    refine Ev.step (f := fun _ => some true) (fun k => ?_) (Ev.now _)
    simp only [choirlaw4_FrameScans.l1]
    rw [if_neg (by omega)]
  | d + 1, i, h => by
    refine Ev.step (f := fun k => choirlaw4_FrameScans.l1 k v v ((i + 1 : Nat) : Int)) (fun k => ?_) (same_ev v hv d (i + 1) (by omega))
    simp only [choirlaw4_FrameScans.l1]
    rw [if_pos (by omega), if_pos (by omega), if_pos (by omega), if_true, w64 (by omega) (by omega)]
    rfl
theorem both_ev {l : List Int} (hb : Bytes l) (hl : l.length ≤ 1000000) : Ev (fun k => choirlaw4_FrameScans.j2 k l) true := by
  have h1 := scan_ev hb hl (l.length + 1) [] 0 (by omega) (by omega) (by omega) (by simp; omega)
  have h2 := rscan_ev hb hl (l.length + 1) [] 0 (by omega) (by omega) (by omega) (by simp; omega)
  have h3 := scanned_len (l.length + 1) l [] 0
  generalize scanned (l.length + 1) l [] 0 = r at *
  refine Ev.step (f := fun k => (frame_Scan.f k l).bind fun bt251 => ((choirref3_Scan.f k l).bind fun bt255 => (if bt251.2 = bt255.2 then (choirlaw4_FrameScans.j3 k bt251.1 bt255.1 ((bt251.1.length : Int) != (bt255.1.length : Int))) else (choirlaw4_FrameScans.j3 k bt251.1 bt255.1 true)))) (fun k => by simp only [choirlaw4_FrameScans.j2]) ?_
  refine Ev.bind (a := r) h1 (Ev.bind (a := r) h2 ?_)
  simp only [if_true, bne_self_eq_false]
  refine Ev.step (f := fun k => choirlaw4_FrameScans.l1 k r.1 r.1 ((0 : Nat) : Int)) (fun k => ?_) (same_ev r.1 (by simp at h3; omega) r.1.length 0 (by omega))
  simp only [choirlaw4_FrameScans.j3]
  rw [if_neg (by decide)]
  rfl
theorem wraps_ev (ls : List (List Int)) (hls : ∀ z ∈ ls, Bytes z) (hn : ls.length ≤ 10) (a1 a2 : Int) (more : List Int) (r : Bool)
    (hr : ∀ b : List Int, Bytes b → b.length ≤ 2000 → Ev (fun k => choirlaw4_FrameScans.l0 k ls a1 a2 more b (ls.length : Int)) r) (ht : r = true) :
    ∀ (d i : Nat) (b : List Int), i + d = ls.length → Bytes b → b.length ≤ 108 * i → Ev (fun k => choirlaw4_FrameScans.l0 k ls a1 a2 more b (i : Int)) r
  | 0, i, b, h, hb, hl => by
    rw [show i = ls.length by omega]
    exact hr b hb (by omega)
  | d + 1, i, b, h, hb, hl => by
    have hi : i < ls.length := by omega
    have hz : rd_L1 ls (i : Int) = ls[i] := by simp [rd_L1, hi]
    have hzb := hls _ (List.getElem_mem hi)
    by_cases h100 : (ls[i].length : Int) > 100
    · subst ht
      refine Ev.step (f := fun _ => some true) (fun k => ?_) (Ev.now _)
      simp only [choirlaw4_FrameScans.l0]
      rw [if_pos (by omega), if_pos (by omega), hz, if_pos h100]
    · refine Ev.step (f := fun k => (choirref3_Wrap.f k b ls[i]).bind fun bt => choirlaw4_FrameScans.l0 k ls a1 a2 more bt.1 ((i + 1 : Nat) : Int)) (fun k => ?_) (Ev.bind (rwrap_ev hzb (by omega) (by omega)) (wraps_ev ls hls hn a1 a2 more r hr ht d (i + 1) _ (by omega) (bytes_append hb (framed_bytes hzb)) (by simp [framed_length]; omega)))
      simp only [choirlaw4_FrameScans.l0]
      rw [if_pos (by omega), if_pos (by omega), hz, if_neg h100, w64 (by omega) (by omega)]
      rfl
theorem xored {x y : Int} (hx : Byte x) (hy : Byte y) : Byte (Go.bits .xor .u8 x y) := by
  rw [u8_xor x y hx.1 hx.2 hy.1 hy.2]
  refine ⟨by omega, ?_⟩
  have := Nat.xor_lt_two_pow (n := 8) (x := x.toNat) (y := y.toNat) (by have := hx.2; have := hx.1; omega) (by have := hy.2; have := hy.1; omega)
  omega
theorem scans_ev (ls : List (List Int)) (hls : ∀ z ∈ ls, Bytes z) (a1 a2 : Int) (h1 : 0 ≤ a1 ∧ a1 < 65536) (h2 : Byte a2) (more : List Int) (hm : Bytes more) : Ev (fun k => choirlaw4_FrameScans.f k ls a1 a2 more) true := by
  unfold choirlaw4_FrameScans.f choirlaw4_known.f
  simp only [Option.bind_some, if_true]
  have yes : ∀ b, b = true → Ev (fun k => choirlaw4_FrameScans.j0 k ls a1 a2 more b) true := fun b h => by
    subst h
    exact Ev.step (f := fun _ => some true) (fun k => by simp [choirlaw4_FrameScans.j0]) (Ev.now _)
  by_cases hbig : (ls.length : Int) > 10
  · simp only [if_pos hbig]
    exact yes _ rfl
  simp only [if_neg hbig]
  by_cases hmore : (more.length : Int) > 100
  · exact yes _ (decide_eq_true hmore)
  rw [decide_eq_false hmore]
  refine Ev.step (f := fun k => choirlaw4_FrameScans.l0 k ls a1 a2 more [] ((0 : Nat) : Int)) (fun k => ?_) (wraps_ev ls hls (by omega) a1 a2 more true (fun b hb hl => ?_) rfl ls.length 0 [] (by omega) (fun _ h => by cases h) (by simp))
  · simp only [choirlaw4_FrameScans.j0]
    rw [if_neg (by decide)]
    rfl
  · have hbm := bytes_append hb hm
    have hbl : (b ++ more).length ≤ 3000 := by simp; omega
    by_cases h0 : ((b ++ more).length : Int) > 0
    · have e4 : 0 ≤ a1 % ((b ++ more).length : Int) ∧ a1 % ((b ++ more).length : Int) < ((b ++ more).length : Int) := ⟨Int.emod_nonneg _ (by omega), Int.emod_lt_of_pos _ (by omega)⟩
      obtain ⟨i, hi⟩ : ∃ i : Nat, (i : Int) = a1 % ((b ++ more).length : Int) := ⟨(a1 % ((b ++ more).length : Int)).toNat, by omega⟩
      have hil : i < (b ++ more).length := by omega
      refine Ev.step (f := fun k => choirlaw4_FrameScans.j2 k ((b ++ more).set i (Go.bits .xor .u8 (b ++ more)[i] a2))) (fun k => ?_) (both_ev (bytes_set hbm (xored (hbm _ (List.getElem_mem hil)) h2)) (by simp only [List.length_set]; omega))
      simp only [choirlaw4_FrameScans.l0]
      rw [if_neg (by omega), if_pos (by simp at hbl; omega)]
      simp only [Option.bind_some]
      rw [if_pos h0, if_neg (by omega), w64 (i := a1) (by omega) (by omega), Int.tmod_eq_emod_of_nonneg h1.1, ← hi, if_pos (by omega), if_pos (by omega), rd_at hil, Int.toNat_natCast]
    · refine Ev.step (f := fun k => choirlaw4_FrameScans.j2 k (b ++ more)) (fun k => ?_) (both_ev hbm (by omega))
      simp only [choirlaw4_FrameScans.l0]
      rw [if_neg (by omega), if_pos (by simp at hbl; omega)]
      simp only [Option.bind_some]
      rw [if_neg h0]
theorem walk (a0 : Option Addr) (cap0 : Nat) (l0 : List (List Int)) (hc0 : l0.length ≤ cap0) {w : World} (hC0 : Kd.C (Kd.slice 5 (Kd.int .u8)) w a0 l0.length l0) (hB0 : ∀ z ∈ l0, Bytes z)
    (a1 : Int) (w1 : (Lit.int .u16 a1).wf = true) (a2 : Int) (w2 : (Lit.int .u8 a2).wf = true)
    (a3 : Option Addr) (cap3 : Nat) (l3 : List Int) (hc3 : l3.length ≤ cap3) (hC3 : Kd.C (Kd.int .u8) w a3 l3.length l3) (hB3 : Bytes l3) (W : World) (hW : W = w := by rfl) :
    Calls Try.prog 8 #[.slice a0 l0.length cap0, .int .u16 a1, .int .u8 a2, .slice a3 l3.length cap3] W fun e w' => e = .returned (.bool true) ∧ Below W.heap.size W w' := by
  subst hW
  have h1 : 0 ≤ a1 ∧ a1 < 65536 := by simp [Lit.wf, IntKind.min, IntKind.max, IntKind.signed, IntKind.bits] at w1; omega
  have h2 : Byte a2 := by simp [Lit.wf, IntKind.min, IntKind.max, IntKind.signed, IntKind.bits] at w2; exact ⟨by omega, by omega⟩
  obtain ⟨k, h⟩ := (scans_ev l0 hB0 a1 a2 h1 h2 l3 hB3).rounds
  exact choirlaw4_FrameScans.calls k a0 cap0 l0 a1 a2 a3 cap3 l3 true W hC0 hc0 hC3 hc3 h
end Go.Proofs.Ytlledjfhpdgbhaa.FS
