/- What the printed functions of wire, frame and their references tell, from some number of rounds on: sums, numbers, frames. Bounds: lengths far below what memory bears. -/
import Derived.Test.YtlledjfhpdgbhaaQx3
import Derived.Test.YtlledjfhpdgbhaaFrameMath
namespace Go.Proofs.Ytlledjfhpdgbhaa.FE
open Go.RowKit Go.Proofs.Ytlledjfhpdgbhaa.Q Go.Proofs.Ytlledjfhpdgbhaa.FM Go.Proofs.YtlledjfhpdgbhaaW.PrintWords Go.Proofs.YtlledjfhpdgbhaaW.PrintLast Go.Proofs.YtlledjfhpdgbhaaW.PrintMore
theorem ev_eq {α : Type} {g : Nat → Option α} {r s : α} (h : Ev g r) (e : r = s) : Ev g s := e ▸ h
theorem w64 {i : Int} (h0 : -9223372036854775808 ≤ i) (h1 : i < 9223372036854775808) : wrap64 i = i := by unfold wrap64; omega
theorem clone_f {l : List Int} (h : l.length < 140737488355328) : slices_Clone_byte_byte.f l = some l := by
  unfold slices_Clone_byte_byte.f
  simp only [Option.bind_some, List.length_nil, List.nil_append]
  rw [if_pos (by omega)]
/-! ### numbers -/
theorem shr_div (v : Int) (m : Nat) (h : m ≤ 8) : shr .u64 v (8 * (m : Int)) = v / 2 ^ (8 * m) := by
  unfold shr
  rw [show min (8 * (m : Int)).toNat IntKind.u64.bits = 8 * m by simp [IntKind.bits]; omega]
theorem putu_l0 (v : Int) : ∀ (m : Nat) (l : List Int), l.length + m < 140737488355328 → m ≤ 8 → Ev (fun k => wire_PutU.l0 k v l ((m : Int) - 1)) (l ++ be m v)
  | 0, l, _, _ => by
    refine Ev.step (f := fun _ => some l) (fun k => ?_) (ev_eq (Ev.now _) (by simp [be]))
    simp only [wire_PutU.l0]
    rw [if_neg (by omega)]
  | m + 1, l, hl, hm => by
    refine Ev.step (f := fun k => wire_PutU.l0 k v (l ++ [v / 2 ^ (8 * m) % 256]) ((m : Int) - 1)) (fun k => ?_) (ev_eq (putu_l0 v m (l ++ [v / 2 ^ (8 * m) % 256]) (by simp; omega) (by omega)) (by simp [be]))
    simp only [wire_PutU.l0]
    have e1 : ((m + 1 : Nat) : Int) - 1 = (m : Int) := by omega
    have e2 : IntKind.u64.wrap (wrap64 (8 * (m : Int))) = 8 * (m : Int) := by rw [w64 (by omega) (by omega), IntKind.wrap_u64]; omega
    rw [e1, if_pos (by omega), e2, if_pos (by omega), if_pos (by omega), shr_div v m (by omega), w64 (by omega) (by omega)]
theorem putu_ev (v : Int) (l : List Int) (m : Nat) (hm : m ≤ 8) (hl : l.length + 8 < 140737488355328) : Ev (fun k => wire_PutU.f k l v (m : Int)) (l ++ be m v) := by
  refine Ev.congr (f := fun k => wire_PutU.l0 k v l ((m : Int) - 1)) (fun k => ?_) (putu_l0 v m l (by omega) hm)
  unfold wire_PutU.f
  rw [clone_f (by omega), Option.bind_some, show mn (mx (m : Int) 0) 8 = (m : Int) by unfold mn mx; omega]
theorem rputu_l0 (v : Int) : ∀ (m : Nat) (l : List Int), l.length + m < 140737488355328 → m ≤ 8 → Ev (fun k => choirref3_PutU.l0 k l v ((m : Int) - 1)) (l ++ be m v)
  | 0, l, _, _ => by
    refine Ev.step (f := fun _ => some l) (fun k => ?_) (ev_eq (Ev.now _) (by simp [be]))
    simp only [choirref3_PutU.l0]
    rw [if_neg (by omega)]
  | m + 1, l, hl, hm => by
    refine Ev.step (f := fun k => choirref3_PutU.l0 k (l ++ [v / 2 ^ (8 * m) % 256]) v ((m : Int) - 1)) (fun k => ?_) (ev_eq (rputu_l0 v m (l ++ [v / 2 ^ (8 * m) % 256]) (by simp; omega) (by omega)) (by simp [be]))
    simp only [choirref3_PutU.l0]
    have e1 : ((m + 1 : Nat) : Int) - 1 = (m : Int) := by omega
    have e2 : wrap64 (8 * (m : Int)) = 8 * (m : Int) := w64 (by omega) (by omega)
    rw [e1, if_pos (by omega), e2, if_pos (by omega), if_pos (by omega), shr_div v m (by omega), w64 (by omega) (by omega)]
theorem rputu_ev (v : Int) (l : List Int) (m : Nat) (hm : m ≤ 8) (hl : l.length + 8 < 140737488355328) : Ev (fun k => choirref3_PutU.f k l v (m : Int)) (l ++ be m v) := by
  refine Ev.congr (f := fun k => choirref3_PutU.l0 k l v ((m : Int) - 1)) (fun k => ?_) (rputu_l0 v m l (by omega) hm)
  unfold choirref3_PutU.f
  rw [show mn (mx (m : Int) 0) 8 = (m : Int) by unfold mn mx; omega]
theorem rd_at {l : List Int} {i : Nat} (h : i < l.length) : rd l (i : Int) = l[i] := by simp [rd, h]
theorem num_snoc (l : List Int) (b : Int) : num (l ++ [b]) = num l * 256 + b := by simp [num]
theorem num_small {l : List Int} (hb : Bytes l) (n : Nat) (hl : l.length ≤ n) (hn : n ≤ 7) : 0 ≤ num l ∧ num l < 72057594037927936 := by
  obtain ⟨h1, h2⟩ := num_range l hb
  refine ⟨h1, Int.lt_of_lt_of_le h2 ?_⟩
  have : (256 : Int) ^ l.length ≤ 256 ^ 7 := pow_mono (by omega)
  simpa using this
theorem readu_l0 {l : List Int} (hb : Bytes l) (hl : l.length ≤ 8) : ∀ (d i : Nat), i + d = l.length → Ev (fun k => wire_ReadU.l0 k (num (l.take i)) l (l.length : Int) (i : Int)) (num l, true)
  | 0, i, h => by
    refine Ev.step (f := fun _ => some (num l, true)) (fun k => ?_) (Ev.now _)
    simp only [wire_ReadU.l0]
    rw [if_neg (by omega), List.take_of_length_le (by omega)]
  | d + 1, i, h => by
    refine Ev.step (f := fun k => wire_ReadU.l0 k (num (l.take (i + 1))) l (l.length : Int) ((i + 1 : Nat) : Int)) (fun k => ?_) (readu_l0 hb hl d (i + 1) (by omega))
    simp only [wire_ReadU.l0]
    have hi : i < l.length := by omega
    obtain ⟨h1, h2⟩ := num_small (bytes_take hb i) i (by simp; omega) (by omega)
    rw [if_pos (by omega), if_pos (by omega), if_pos (by omega), rd_at hi, go_or h1 h2 (hb _ (List.getElem_mem hi)), w64 (by omega) (by omega)]
    rw [List.take_succ_eq_append_getElem hi, num_snoc]
    rfl
theorem readu_ev {l : List Int} (hb : Bytes l) (m : Nat) (hm : m ≤ 8) (hl : m ≤ l.length) : Ev (fun k => wire_ReadU.f k l (m : Int)) (num (l.take m), true) := by
  have ht : (l.take m).length = m := by simp; omega
  refine Ev.congr (f := fun k => wire_ReadU.j0 k l (m : Int) false) (fun k => ?_) (Ev.step (f := fun k => wire_ReadU.l0 k (num ((l.take m).take 0)) (l.take m) ((l.take m).length : Int) ((0 : Nat) : Int)) (fun k => ?_) (readu_l0 (bytes_take hb m) (by omega) m 0 (by omega)))
  · unfold wire_ReadU.f
    rw [if_neg (by omega), if_neg (by omega), decide_eq_false (by omega)]
  · simp only [wire_ReadU.j0]
    rw [if_neg (by decide), if_pos (by omega), if_pos (by omega)]
    rfl
theorem rreadu_l0 {l : List Int} (hb : Bytes l) (m : Nat) (hm : m ≤ 8) (hl : m ≤ l.length) : ∀ (d i : Nat), i + d = m → Ev (fun k => choirref3_ReadU.l0 k l (m : Int) (num (l.take i)) (i : Int)) (num (l.take m), true)
  | 0, i, h => by
    refine Ev.step (f := fun _ => some (num (l.take m), true)) (fun k => ?_) (Ev.now _)
    simp only [choirref3_ReadU.l0]
    rw [if_neg (by omega), show i = m by omega]
  | d + 1, i, h => by
    refine Ev.step (f := fun k => choirref3_ReadU.l0 k l (m : Int) (num (l.take (i + 1))) ((i + 1 : Nat) : Int)) (fun k => ?_) (rreadu_l0 hb m hm hl d (i + 1) (by omega))
    simp only [choirref3_ReadU.l0]
    have hi : i < l.length := by omega
    obtain ⟨h1, h2⟩ := num_small (bytes_take hb i) i (by simp; omega) (by omega)
    rw [if_pos (by omega), if_pos (by omega), if_pos (by omega), rd_at hi, go_or h1 h2 (hb _ (List.getElem_mem hi)), w64 (by omega) (by omega)]
    rw [List.take_succ_eq_append_getElem hi, num_snoc]
    rfl
theorem rreadu_ev {l : List Int} (hb : Bytes l) (m : Nat) (hm : m ≤ 8) (hl : m ≤ l.length) : Ev (fun k => choirref3_ReadU.f k l (m : Int)) (num (l.take m), true) := by
  refine Ev.congr (f := fun k => choirref3_ReadU.j0 k l (m : Int) false) (fun k => ?_) (Ev.step (f := fun k => choirref3_ReadU.l0 k l (m : Int) (num (l.take 0)) ((0 : Nat) : Int)) (fun k => ?_) (rreadu_l0 hb m hm hl m 0 (by omega)))
  · unfold choirref3_ReadU.f
    rw [if_neg (by omega), if_neg (by omega), decide_eq_false (by omega)]
  · simp only [choirref3_ReadU.j0]
    rw [if_neg (by decide)]
    rfl
/-! ### sums -/
theorem sum_l1 (l : List Int) (n i : Int) (r : Int) : ∀ (j : Nat) (c : Nat), j ≤ 8 → c < 4294967296 → Ev (fun k => frame_Sum.l0 k ((bitn j c : Nat) : Int) l n (wrap64 (i + 1))) r → Ev (fun k => frame_Sum.l1 k (c : Int) l n i (8 - (j : Int))) r
  | 0, c, _, _, h => by
    refine Ev.step (f := fun k => frame_Sum.l0 k ((bitn 0 c : Nat) : Int) l n (wrap64 (i + 1))) (fun k => ?_) h
    simp only [frame_Sum.l1]
    rw [if_neg (by omega)]
    rfl
  | j + 1, c, hj, hc, h => by
    refine Ev.step (f := fun k => frame_Sum.l1 k ((bit c : Nat) : Int) l n i (8 - (j : Int))) (fun k => ?_) (sum_l1 l n i r j (bit c) (by omega) (bit_lt hc) h)
    simp only [frame_Sum.l1]
    rw [if_pos (by omega), go_bit hc, show (8 - ((j + 1 : Nat) : Int)) + 1 = 8 - (j : Int) by omega, w64 (by omega) (by omega)]
theorem sum_l0 {l : List Int} (hb : Bytes l) (hl : l.length < 140737488355328) : ∀ (d i c : Nat), i + d = l.length → c < 4294967296 → Ev (fun k => frame_Sum.l0 k (c : Int) l (l.length : Int) (i : Int)) ((4294967295 ^^^ fold c (l.drop i) : Nat) : Int)
  | 0, i, c, h, hc => by
    refine Ev.step (f := fun _ => some ((4294967295 ^^^ fold c (l.drop i) : Nat) : Int)) (fun k => ?_) (Ev.now _)
    simp only [frame_Sum.l0]
    rw [if_neg (by omega), go_not hc, List.drop_of_length_le (by omega)]
    rfl
  | d + 1, i, c, h, hc => by
    have hi : i < l.length := by omega
    have hbi := hb _ (List.getElem_mem hi)
    refine Ev.step (f := fun k => frame_Sum.l1 k ((c ^^^ l[i].toNat : Nat) : Int) l (l.length : Int) (i : Int) (8 - ((8 : Nat) : Int))) (fun k => ?_) (sum_l1 l _ _ _ 8 _ (by omega) (xor_lt hc hbi) ?_)
    · simp only [frame_Sum.l0]
      rw [if_pos (by omega), if_pos (by omega), if_pos (by omega), rd_at hi, go_xor hc hbi]
      rfl
    · rw [w64 (by omega) (by omega)]
      have := sum_l0 hb hl d (i + 1) (up c l[i]) (by omega) (up_lt hc hbi)
      rw [List.drop_eq_getElem_cons hi]
      exact this
theorem sum_ev {l : List Int} (hb : Bytes l) (hl : l.length < 140737488355328) : Ev (fun k => frame_Sum.f k l) (crc l) :=
  sum_l0 hb hl l.length 0 4294967295 (by omega) (by decide)
theorem rsum_l1 (l : List Int) (i : Int) (r : Int) : ∀ (j : Nat) (c : Nat), j ≤ 8 → c < 4294967296 → Ev (fun k => choirref3_Sum.l0 k l ((bitn j c : Nat) : Int) (wrap64 (i + 1))) r → Ev (fun k => choirref3_Sum.l1 k l (c : Int) i (8 - (j : Int))) r
  | 0, c, _, _, h => by
    refine Ev.step (f := fun k => choirref3_Sum.l0 k l ((bitn 0 c : Nat) : Int) (wrap64 (i + 1))) (fun k => ?_) h
    simp only [choirref3_Sum.l1]
    rw [if_neg (by omega)]
    rfl
  | j + 1, c, hj, hc, h => by
    refine Ev.step (f := fun k => choirref3_Sum.l1 k l ((bit c : Nat) : Int) i (8 - (j : Int))) (fun k => ?_) (rsum_l1 l i r j (bit c) (by omega) (bit_lt hc) h)
    simp only [choirref3_Sum.l1]
    rw [if_pos (by omega), show (8 - ((j + 1 : Nat) : Int)) + 1 = 8 - (j : Int) by omega, w64 (by omega) (by omega)]
    by_cases e : c % 2 = 1
    · rw [if_pos ((go_odd hc).2 e), go_bit1 hc e]
    · rw [if_neg (fun x => e ((go_odd hc).1 x)), go_bit0 e]
theorem rsum_l0 {l : List Int} (hb : Bytes l) (hl : l.length < 140737488355328) : ∀ (d i c : Nat), i + d = l.length → c < 4294967296 → Ev (fun k => choirref3_Sum.l0 k l (c : Int) (i : Int)) ((4294967295 ^^^ fold c (l.drop i) : Nat) : Int)
  | 0, i, c, h, hc => by
    refine Ev.step (f := fun _ => some ((4294967295 ^^^ fold c (l.drop i) : Nat) : Int)) (fun k => ?_) (Ev.now _)
    simp only [choirref3_Sum.l0]
    rw [if_neg (by omega), go_not hc, List.drop_of_length_le (by omega)]
    rfl
  | d + 1, i, c, h, hc => by
    have hi : i < l.length := by omega
    have hbi := hb _ (List.getElem_mem hi)
    refine Ev.step (f := fun k => choirref3_Sum.l1 k l ((c ^^^ l[i].toNat : Nat) : Int) (i : Int) (8 - ((8 : Nat) : Int))) (fun k => ?_) (rsum_l1 l _ _ 8 _ (by omega) (xor_lt hc hbi) ?_)
    · simp only [choirref3_Sum.l0]
      rw [if_pos (by omega), if_pos (by omega), rd_at hi, go_xor hc hbi]
      rfl
    · rw [w64 (by omega) (by omega)]
      have := rsum_l0 hb hl d (i + 1) (up c l[i]) (by omega) (up_lt hc hbi)
      rw [List.drop_eq_getElem_cons hi]
      exact this
theorem rsum_ev {l : List Int} (hb : Bytes l) (hl : l.length < 140737488355328) : Ev (fun k => choirref3_Sum.f k l) (crc l) :=
  rsum_l0 hb hl l.length 0 4294967295 (by omega) (by decide)
/-! ### frames -/
theorem wu (n : Int) (h0 : 0 ≤ n) (h1 : n < 18446744073709551616) : IntKind.u64.wrap n = n := by rw [IntKind.wrap_u64]; omega
theorem fsum_ev {p : List Int} (hb : Bytes p) (hl : p.length ≤ 1000000) : Ev (fun k => frame_sum.f k p) (crc (be 4 p.length ++ p)) := by
  have hbb := bytes_append (be_bytes 4 p.length) hb
  have hc := crc_lt hbb
  unfold frame_sum.f
  refine Ev.bind (f := fun k t => if t.length + p.length < 140737488355328 then ((frame_Sum.f k (t ++ p)).bind fun t120 => (some (IntKind.u64.wrap (t120)))) else none) (a := be 4 p.length) ?_ ?_
  · have := putu_ev (p.length : Int) [] 4 (by omega) (by simp)
    rw [wu _ (by omega) (by omega)]
    exact this
  · refine Ev.congr (f := fun k => (frame_Sum.f k (be 4 p.length ++ p)).bind fun t => some (IntKind.u64.wrap t)) (fun k => ?_) (Ev.bind (f := fun _ t => some (IntKind.u64.wrap t)) (sum_ev hbb (by simp [be_length]; omega)) ?_)
    · rw [if_pos (by rw [be_length]; omega)]
    · rw [wu _ hc.1 (by omega)]
      exact Ev.now _
theorem wrap_ev {b p : List Int} (hb : Bytes p) (hl : p.length ≤ 65536) (hbl : b.length ≤ 1000000) : Ev (fun k => frame_Wrap.f k b p) (b ++ framed p, 0) := by
  unfold frame_Wrap.f
  refine Ev.congr (f := fun k => (wire_PutU.f k b (p.length : Int) 4).bind fun t121 => ((frame_sum.f k p).bind fun t124 => ((wire_PutU.f k t121 t124 4).bind fun t125 => (if t125.length + p.length < 140737488355328 then (some ((t125 ++ p), (0 : Int))) else (none))))) (fun k => ?_) ?_
  · rw [if_neg (by omega), wu _ (by omega) (by omega)]
  · refine Ev.bind (putu_ev (p.length : Int) b 4 (by omega) (by omega)) ?_
    refine Ev.bind (fsum_ev hb (by omega)) ?_
    refine Ev.bind (putu_ev _ _ 4 (by omega) (by simp [be_length]; omega)) ?_
    refine Ev.congr (f := fun _ => some (b ++ framed p, (0 : Int))) (fun k => ?_) (Ev.now _)
    rw [if_pos (by simp [be_length]; omega)]
    simp [framed]
theorem rwrap_ev {b p : List Int} (hb : Bytes p) (hl : p.length ≤ 65536) (hbl : b.length ≤ 1000000) : Ev (fun k => choirref3_Wrap.f k b p) (b ++ framed p, 0) := by
  have hbb := bytes_append (be_bytes 4 p.length) hb
  have hc := crc_lt hbb
  unfold choirref3_Wrap.f
  refine Ev.congr (f := fun k => (choirref3_PutU.f k [] (p.length : Int) 4).bind fun t150 => (if b.length + t150.length < 140737488355328 then (if t150.length + p.length < 140737488355328 then ((choirref3_Sum.f k (t150 ++ p)).bind fun t159 => ((choirref3_PutU.f k (b ++ t150) (IntKind.u64.wrap (t159)) 4).bind fun t160 => (if t160.length + p.length < 140737488355328 then (some ((t160 ++ p), (0 : Int))) else (none)))) else (none)) else (none))) (fun k => ?_) ?_
  · rw [if_neg (by omega), wu _ (by omega) (by omega)]
  · refine Ev.bind (rputu_ev (p.length : Int) [] 4 (by omega) (by simp)) ?_
    refine Ev.congr (f := fun k => (choirref3_Sum.f k (be 4 p.length ++ p)).bind fun t159 => ((choirref3_PutU.f k (b ++ be 4 p.length) (IntKind.u64.wrap (t159)) 4).bind fun t160 => (if t160.length + p.length < 140737488355328 then (some ((t160 ++ p), (0 : Int))) else (none)))) (fun k => ?_) ?_
    · rw [List.nil_append, if_pos (by rw [be_length]; omega), if_pos (by rw [be_length]; omega)]
    · refine Ev.bind (rsum_ev hbb (by simp [be_length]; omega)) ?_
      rw [wu _ hc.1 (by omega)]
      refine Ev.bind (rputu_ev _ _ 4 (by omega) (by simp [be_length]; omega)) ?_
      refine Ev.congr (f := fun _ => some (b ++ framed p, (0 : Int))) (fun k => ?_) (Ev.now _)
      rw [if_pos (by simp [be_length]; omega)]
      simp [framed]
theorem num4 {l : List Int} (hb : Bytes l) : 0 ≤ num (l.take 4) ∧ num (l.take 4) < 4294967296 := by
  obtain ⟨h1, h2⟩ := num_range (l.take 4) (bytes_take hb 4)
  refine ⟨h1, Int.lt_of_lt_of_le h2 ?_⟩
  have : (256 : Int) ^ (l.take 4).length ≤ 256 ^ 4 := pow_mono (by simp; omega)
  simpa using this
theorem open_ev {l : List Int} (hb : Bytes l) (hl : l.length ≤ 1000000) : Ev (fun k => frame_Open.f k l) (opened l) := by
  unfold frame_Open.f opened
  by_cases h8 : l.length < 8
  · refine Ev.congr (f := fun _ => some ([], 0, 23)) (fun k => ?_) (ev_eq (Ev.now _) ?_)
    · rw [if_pos (by omega)]
    · rw [if_pos h8]
  rw [if_neg h8]
  obtain ⟨n0, n1⟩ := num4 hb
  have hr := readu_ev hb 4 (by omega) (by omega)
  have hr2 := readu_ev (bytes_drop hb 4) 4 (by omega) (by simp; omega)
  generalize hn : num (l.take 4) = n at *
  generalize hm : num ((l.drop 4).take 4) = m at *
  refine Ev.congr (f := fun k => (wire_ReadU.f k l 4).bind fun bt133 => ((wire_ReadU.f k (l.drop 4) 4).bind fun bt136 => (if bt133.1 > 65536 then (some (([] : List Int), 0, 22)) else (if (IntKind.u64.wrap (wrap64 ((l.length : Int) - 8))) < bt133.1 then (some (([] : List Int), 0, 23)) else (if 8 ≤ (IntKind.u64.wrap (8 + bt133.1)) then (if (IntKind.u64.wrap (8 + bt133.1)) ≤ (l.length : Int) then ((slices_Clone_byte_byte.f ((l.take ((IntKind.u64.wrap (8 + bt133.1)) : Int).toNat).drop 8)).bind fun t139 => ((frame_sum.f k t139).bind fun t142 => (if t142 = bt136.1 then (some (t139, wrap64 (8 + (wrap64 (bt133.1))), 0)) else (some (([] : List Int), 0, 21))))) else (none)) else (none)))))) (fun k => ?_) ?_
  · rw [if_neg (by omega)]
    congr 1
    funext bt
    rw [if_pos (by omega)]
  refine Ev.bind hr (Ev.bind hr2 ?_)
  dsimp only
  by_cases hbig : n > 65536
  · rw [if_pos hbig]
    exact Ev.congr (f := fun _ => some ([], 0, 22)) (fun k => by rw [if_pos hbig]) (Ev.now _)
  rw [if_neg hbig]
  have e1 : IntKind.u64.wrap (wrap64 ((l.length : Int) - 8)) = (l.length : Int) - 8 := by rw [w64 (by omega) (by omega), wu _ (by omega) (by omega)]
  have e2 : IntKind.u64.wrap (8 + n) = 8 + n := wu _ (by omega) (by omega)
  have e3 : wrap64 (8 + wrap64 n) = 8 + n := by rw [w64 (i := n) (by omega) (by omega), w64 (by omega) (by omega)]
  rw [e1, e2, e3]
  by_cases hmore : (l.length : Int) - 8 < n
  · rw [if_pos hmore]
    exact Ev.congr (f := fun _ => some ([], 0, 23)) (fun k => by rw [if_neg hbig, if_pos hmore]) (Ev.now _)
  rw [if_neg hmore]
  have hpl : ((l.take (8 + n).toNat).drop 8).length = n.toNat := by simp; omega
  have hpb : Bytes ((l.take (8 + n).toNat).drop 8) := bytes_drop (bytes_take hb _) 8
  generalize (l.take (8 + n).toNat).drop 8 = p at *
  have hs := fsum_ev hpb (by omega)
  rw [hpl, show ((n.toNat : Nat) : Int) = n by omega] at hs
  refine Ev.congr (f := fun k => (frame_sum.f k p).bind fun t142 => (if t142 = m then (some (p, 8 + n, 0)) else (some (([] : List Int), 0, 21)))) (fun k => ?_) (Ev.bind hs ?_)
  · rw [if_neg hbig, if_neg hmore, if_pos (by omega), if_pos (by omega), clone_f (by omega), Option.bind_some]
  · by_cases hc : crc (be 4 n ++ p) = m
    · simp only [if_pos hc]
      exact Ev.now _
    · simp only [if_neg hc]
      exact Ev.now _
theorem ropen_ev {l : List Int} (hb : Bytes l) (hl : l.length ≤ 1000000) : Ev (fun k => choirref3_Open.f k l) (opened l) := by
  unfold choirref3_Open.f opened
  by_cases h8 : l.length < 8
  · refine Ev.congr (f := fun _ => some ([], 0, 23)) (fun k => ?_) (ev_eq (Ev.now _) ?_)
    · rw [if_pos (by omega)]
    · rw [if_pos h8]
  rw [if_neg h8]
  obtain ⟨n0, n1⟩ := num4 hb
  have hr := rreadu_ev hb 4 (by omega) (by omega)
  have hr2 := rreadu_ev (bytes_drop hb 4) 4 (by omega) (by simp; omega)
  have ht : be 4 (num (l.take 4)) = l.take 4 := by
    have := be_num (l.take 4) (bytes_take hb 4)
    rwa [show (l.take 4).length = 4 by simp; omega] at this
  generalize hn : num (l.take 4) = n at *
  generalize hm : num ((l.drop 4).take 4) = m at *
  refine Ev.congr (f := fun k => (choirref3_ReadU.f k l 4).bind fun bt172 => (if bt172.1 > 65536 then (some (([] : List Int), 0, 22)) else (if (IntKind.u64.wrap (wrap64 ((l.length : Int) - 8))) < bt172.1 then (some (([] : List Int), 0, 23)) else ((choirref3_ReadU.f k (l.drop 4) 4).bind fun bt175 => (if 8 ≤ (IntKind.u64.wrap (8 + bt172.1)) then (if (IntKind.u64.wrap (8 + bt172.1)) ≤ (l.length : Int) then ((choirref3_Sum.f k (l.take 4 ++ (l.take ((IntKind.u64.wrap (8 + bt172.1)) : Int).toNat).drop 8)).bind fun t188 => (if (IntKind.u64.wrap (t188)) = bt175.1 then (some ((l.take ((IntKind.u64.wrap (8 + bt172.1)) : Int).toNat).drop 8, wrap64 (8 + (wrap64 (bt172.1))), 0)) else (some (([] : List Int), 0, 21)))) else (none)) else (none)))))) (fun k => ?_) ?_
  · rw [if_neg (by omega)]
    congr 1
    funext bt
    by_cases g1 : bt.1 > 65536
    · rw [if_pos g1, if_pos g1]
    rw [if_neg g1, if_neg g1]
    by_cases g2 : IntKind.u64.wrap (wrap64 ((l.length : Int) - 8)) < bt.1
    · rw [if_pos g2, if_pos g2]
    rw [if_neg g2, if_neg g2, if_pos (by omega)]
    congr 1
    funext bt2
    by_cases g3 : 8 ≤ IntKind.u64.wrap (8 + bt.1)
    · rw [if_pos g3, if_pos g3]
      by_cases g4 : IntKind.u64.wrap (8 + bt.1) ≤ (l.length : Int)
      · rw [if_pos g4, if_pos g4]
        simp only [List.nil_append, List.length_nil, Option.bind_some]
        rw [if_pos (by simp; omega), if_pos (by simp; omega), if_pos (by simp; omega)]
      · rw [if_neg g4, if_neg g4]
    · rw [if_neg g3, if_neg g3]
  refine Ev.bind hr ?_
  dsimp only
  by_cases hbig : n > 65536
  · rw [if_pos hbig]
    exact Ev.congr (f := fun _ => some ([], 0, 22)) (fun k => by rw [if_pos hbig]) (Ev.now _)
  rw [if_neg hbig]
  have e1 : IntKind.u64.wrap (wrap64 ((l.length : Int) - 8)) = (l.length : Int) - 8 := by rw [w64 (by omega) (by omega), wu _ (by omega) (by omega)]
  have e2 : IntKind.u64.wrap (8 + n) = 8 + n := wu _ (by omega) (by omega)
  have e3 : wrap64 (8 + wrap64 n) = 8 + n := by rw [w64 (i := n) (by omega) (by omega), w64 (by omega) (by omega)]
  rw [e1, e2, e3]
  by_cases hmore : (l.length : Int) - 8 < n
  · rw [if_pos hmore]
    exact Ev.congr (f := fun _ => some ([], 0, 23)) (fun k => by rw [if_neg hbig, if_pos hmore]) (Ev.now _)
  rw [if_neg hmore]
  have hpb : Bytes ((l.take (8 + n).toNat).drop 8) := bytes_drop (bytes_take hb _) 8
  have hpl : ((l.take (8 + n).toNat).drop 8).length = n.toNat := by simp; omega
  have htl : (l.take 4).length = 4 := by simp; omega
  generalize (l.take (8 + n).toNat).drop 8 = p at *
  have hbb : Bytes (l.take 4 ++ p) := bytes_append (bytes_take hb 4) hpb
  have hc := crc_lt hbb
  have hs := rsum_ev hbb (by simp; omega)
  rw [ht]
  refine Ev.congr (f := fun k => (choirref3_ReadU.f k (l.drop 4) 4).bind fun bt175 => ((choirref3_Sum.f k (l.take 4 ++ p)).bind fun t188 => (if (IntKind.u64.wrap (t188)) = bt175.1 then (some (p, 8 + n, 0)) else (some (([] : List Int), 0, 21))))) (fun k => ?_) (Ev.bind hr2 (Ev.bind hs ?_))
  · rw [if_neg hbig, if_neg hmore]
    congr 1
    funext bt
    rw [if_pos (by omega), if_pos (by omega)]
  · rw [wu _ hc.1 (by omega)]
    by_cases hq : crc (l.take 4 ++ p) = m
    · simp only [if_pos hq]
      exact Ev.now _
    · simp only [if_neg hq]
      exact Ev.now _
end Go.Proofs.Ytlledjfhpdgbhaa.FE
