/- The reference's Wrap behind a slice that has no room: it tells that slice's bytes with the frame behind, and leaves memory as it was; then FrameBack, called. -/
import Derived.Test.YtlledjfhpdgbhaaQx3
import Derived.Test.YtlledjfhpdgbhaaFrameEv
import Derived.Test.YtlledjfhpdgbhaaFrameTurn
import Derived.Test.YtlledjfhpdgbhaaFrameRows
import Derived.ArgAppend
namespace Go.Proofs.Ytlledjfhpdgbhaa.FB
open Go.RowKit Go.Proofs.Ytlledjfhpdgbhaa.Q Go.Proofs.Ytlledjfhpdgbhaa.FM Go.Proofs.Ytlledjfhpdgbhaa.FE Go.Proofs.YtlledjfhpdgbhaaW.PrintWords Go.Proofs.YtlledjfhpdgbhaaW.PrintLast Go.Proofs.YtlledjfhpdgbhaaW.PrintMore
theorem two {α β : Type} {g : Nat → Option α} {f : Nat → Option β} {r : α} {s : β} (h : Ev g r) (k : Ev f s) : ∃ K, ∀ n, K ≤ n → g n = some r ∧ f n = some s := by
  obtain ⟨K, h⟩ := h
  obtain ⟨K', k⟩ := k
  exact ⟨max K K', fun n hn => ⟨h n (by omega), k n (by omega)⟩⟩
theorem cells_of {w : World} {A : Option Addr} {l : List Int} (h : Kd.C (Kd.int .u8) w A l.length l) : ∀ b, A = some b → ∀ j u, (nums .u8 l)[j]? = some u → w.cell? (b.add j) = some u := by
  intro b hb j u hu
  have hj : j < l.length := by
    rcases Nat.lt_or_ge j l.length with h' | h'
    · exact h'
    · simp [nums, List.getElem?_eq_none h'] at hu
  obtain ⟨_, _, hc⟩ := Kd.reads_of_C (enc := Value.int .u8) (d := (0 : Int)) (h1 := fun _ => rfl) h
  obtain ⟨ad, e, hc⟩ := hc (by omega)
  rw [hb] at e
  cases e
  rw [hc j hj]
  simp [nums, List.getElem?_eq_getElem hj] at hu
  rw [← hu]
  simp [List.getD_eq_getElem?_getD, List.getElem?_eq_getElem hj]
theorem nil_of {w : World} {A : Option Addr} {l : List Int} (h : Kd.C (Kd.int .u8) w A l.length l) (hA : A = none) : l = [] := by
  rcases Nat.eq_zero_or_pos l.length with h0 | h0
  · exact List.eq_nil_of_length_eq_zero h0
  · obtain ⟨ad, e, _⟩ := h.2.2 h0
    rw [hA] at e
    cases e
set_option maxHeartbeats 4000000 in
set_option maxRecDepth 100000 in
theorem rwrap_full (w : World) (A0 : Option Addr) (l0 : List Int) (A1 : Option Addr) (c1 : Nat) (l1 : List Int) (hC0 : Kd.C (Kd.int .u8) w A0 l0.length l0) (hC1 : Kd.C (Kd.int .u8) w A1 l1.length l1) (hc1 : l1.length ≤ c1)
    (hb1 : Bytes l1) (h0 : l0.length ≤ 1000000) (h1 : l1.length ≤ 65536) :
    Calls Try.prog 11 #[.slice A0 l0.length l0.length, .slice A1 l1.length c1] w fun e w' => ∃ v : Value, e = .returned (.tuple #[v, .int .i64 0]) ∧ Kd.R (Kd.int .u8) 5 w' w.heap.size (fun _ => True) v (l0 ++ framed l1) ∧ Below w.heap.size w w' := by
  have hbb := bytes_append (be_bytes 4 l1.length) hb1
  have hcr := crc_lt hbb
  obtain ⟨K1, q1⟩ := two (rputu_ev (l1.length : Int) [] 4 (by omega) (by simp)) (rsum_ev hbb (by rw [List.length_append, be_length]; omega))
  obtain ⟨K2, q2⟩ := rputu_ev (crc (be 4 l1.length ++ l1)) (l0 ++ be 4 l1.length) 4 (by omega) (by rw [List.length_append, be_length]; omega)
  obtain ⟨e1, e2⟩ := q1 (max K1 K2) (by omega)
  have e3 := q2 (max K1 K2) (by omega)
  generalize max K1 K2 = k at *
  clear q1 q2
  have eu : IntKind.u64.wrap (l1.length : Int) = (l1.length : Int) := wu _ (by omega) (by omega)
  have ec : IntKind.u64.wrap (crc (be 4 l1.length ++ l1)) = crc (be 4 l1.length ++ l1) := wu _ hcr.1 (by omega)
  rw [List.nil_append] at e1
  have hhl : (be 4 l1.length).length = 4 := be_length 4 _
  have hfin : l0 ++ framed l1 = (l0 ++ be 4 l1.length ++ be 4 (crc (be 4 l1.length ++ l1))) ++ l1 := by simp [framed]
  rw [hfin]
  generalize be 4 l1.length = hd at *
  generalize hcc : crc (hd ++ l1) = cc at *
  have hl5 : (l0 ++ hd ++ be 4 cc).length = l0.length + 8 := by rw [List.length_append, List.length_append, be_length, hhl]
  generalize l0 ++ hd ++ be 4 cc = y5 at *
  obtain ⟨y3, n3⟩ : ∃ y : List Int, y = hd ++ l1 := ⟨_, rfl⟩
  obtain ⟨y2, n2⟩ : ∃ y : List Int, y = l0 ++ hd := ⟨_, rfl⟩
  rw [← n3] at e2
  rw [← n2] at e3
  have N3 := Aside0.mk n3; have N2 := Aside0.mk n2
  clear n3 n2
  have E1 := Aside0.mk e1; have E2 := Aside0.mk e2; have E3 := Aside0.mk e3; have EU := Aside0.mk eu; have EC := Aside0.mk ec; have HHL := Aside0.mk hhl; have HL5 := Aside0.mk hl5
  have HC0 := Aside0.mk hC0; have HC1 := Aside0.mk hC1; have Hc1 := Aside0.mk hc1; have H0 := Aside0.mk h0; have H1 := Aside0.mk h1
  have hnb : decide (65536 < l1.length) = false := decide_eq_false (by omega)
  have hnb2 : decide (65536 < (l1.length : Int)) = false := decide_eq_false (by omega)
  clear e1 e2 e3 eu ec hhl hl5 hC0 hC1 hc1 h0 h1 hfin hcc hbb hcr hb1
  go_enter Try.func11, Try.ntmps11
  go_wp2_with fail
  rw [EU.out]
  refine (choirref3_PutU.calls k (fun _ => False) (.slice none 0 0) [] (l1.length : Int) 4 hd w w (Below.refl _ _) (Kd.R_nil _ _ _ _ _) E1.out).mono ?_
  rintro e w1 ⟨v1, rfl, hR1, hB1, hK1⟩
  obtain ⟨A2, c2, rfl⟩ := Kd.R_slice hR1
  have HR1 := Aside0.mk (Kd.R_mono (ok' := fun _ => True) hR1 (fun _ _ => trivial))
  have HB1 := Aside0.mk hB1
  clear hR1 hB1 hK1
  obtain ⟨i0, hi0, hz0, hz1, hz2⟩ := info_parts info5
  have HI := Aside0.mk (And.intro hi0 (And.intro hz0 (And.intro hz1 hz2)))
  clear hi0 hz0 hz1 hz2
  have had : ∃ ad, A2 = some ad := by
    obtain ⟨ad, e, _⟩ := (Kd.R_reads' HR1.out).2.2.2.2 (by have := HHL.out; omega)
    exact ⟨ad, e⟩
  obtain ⟨ad, rfl⟩ := had
  have HD := Aside0.mk (cells_of (Kd.R_reads' HR1.out).2.2 ad rfl)
  have HL0 := Aside0.mk (cells_of (Kd.C_below HC0.out HB1.out))
  go_wp2_with (first | ((with_reducible refine gate_builtin (b := .append) (xs := #[.tmp 14, .tmp 15]) rfl ?_); at_builtin; refine wpList_append_grows _ rfl (.tmp 14) (.tmp 15) 22 rfl 5 i0 (.int .u8 0) 1 1 Try.underlying22 HI.out.1 HI.out.2.1 HI.out.2.2.1 HI.out.2.2.2 rfl (by decide) A0 l0.length l0.length (nums .u8 l0) rfl ?hnone ?hlo ?holds ad hd.length c2 (nums .u8 hd) rfl ?hn ?hc ?h1c ?hfull ?b1 ?b2 ?_; (case hnone => exact (fun hA => by have := nil_of HC0.out hA; subst this; exact ⟨rfl, rfl⟩)); (case hlo => simp [nums]); (case holds => exact HL0.out); (case hn => simp [nums]); (case hc => exact HD.out); (case h1c => exact (fun u hu => by simp only [nums, List.mem_map] at hu; obtain ⟨z, _, rfl⟩ := hu; rfl)); (case hfull => have := HHL.out; omega); (case b1 => have := HHL.out; have := H0.out; have hmx : maxLen = 9223372036854775807 := rfl; omega); (case b2 => have := HHL.out; have := H0.out; omega); intro v2 w2 hown hg; have n1_ := Aside0.mk (Kd.R_of_own (enc := Value.int .u8) (h1 := fun _ => rfl) (ok := fun k_ => some k_ ≠ (Value.slice (some ad) hd.length c2).ownBlock) (xs := y2) (by rw [N2.out, List.length_append, show encs (Value.int .u8) (l0 ++ hd) = nums .u8 l0 ++ nums .u8 hd from by simp [encs, nums]]; exact own_less hown HB1.out.size) (fun k_ hk_ => Kd.fresh' (Kd.R_lt HR1.out) k_ (own_base hown k_ hk_))); have n2_ := Aside0.mk (Kd.R_grown HR1.out hg (fun _ _ => by simp)); have n3_ := Aside0.mk (HB1.out.grown hg HB1.out.size (fun _ h_ => by cases h_)); clear HR1 HB1 hown hg HD HL0; have HV := n1_; have HH := n2_; have HB := n3_; clear n1_ n2_ n3_) | ((with_reducible refine gate_builtin (b := .append) (xs := #[(.tmp 18), (.tmp 19)]) rfl ?_); at_builtin; refine Kd.R_append_rows (Kd.int .u8) (w0 := w) w.heap.size rfl (.tmp 18) (.tmp 19) 22 5 (.int .u8 0) 1 rfl Try.underlying22 info5 rfl (by decide) (by omega) (.slice (some ad) hd.length c2) hd l1 _ _ _ (fun _ => True) (fun _ => False) rfl rfl ?aO ?aR (fun _ _ h => h) (fun _ h => h.elim) ?aF ?aB ?aS ?aL ?_; (case aR => exact Kd.C_below HC1.out HB.out); (case aB => exact HB.out); (case aF => exact (fun _ _ => trivial)); (case aS => exact HB.out.size); (case aO => exact HH.out); (case aL => have := HHL.out; have := H1.out; omega); intro v3 w3 ho hb hg hat; rw [← N3.out] at ho; have n1_ := Aside0.mk (Kd.R_grown HV.out hg (fun _ h_ => h_)); have n2_ := Aside0.mk ho; have n3_ := Aside0.mk hb; clear HV HH HB ho hb hg hat; have HV := n1_; have HH := n2_; have HB := n3_; clear n1_ n2_ n3_; obtain ⟨A3, c3, e3⟩ := Kd.R_slice HH.out; subst e3))
  refine (choirref3_Sum.calls k _ _ y3 cc _ (Kd.R_reads' HH.out).2.2 (Kd.R_reads' HH.out).2.1 E2.out).mono ?_
  rintro e w4 ⟨rfl, ⟨n4, rfl⟩⟩
  have HV4 := Aside0.mk (Kd.R_drewN HV.out n4)
  have HB4 := Aside0.mk (pw_below_drewN HB.out n4)
  clear HV HB HH
  obtain ⟨A5, c5, e5⟩ := Kd.R_slice HV4.out
  subst e5
  go_wp2_with fail
  rw [EC.out]
  refine (choirref3_PutU.calls k (fun k_ => some k_ = (Value.slice A5 y2.length c5).ownBlock) (.slice A5 y2.length c5) y2 cc 4 y5 w _ HB4.out (Kd.R_tight rfl HV4.out) E3.out).mono ?_
  rintro e w5 ⟨v5, rfl, hR5, hB5, hK5⟩
  have HV := Aside0.mk (Kd.R_mono (ok' := fun _ => True) hR5 (fun _ _ => trivial))
  have HB := Aside0.mk hB5
  clear HV4 HB4 hR5 hB5 hK5
  go_wp2_with (first | ((with_reducible refine gate_builtin (b := .append) (xs := #[(.tmp 24), (.tmp 25)]) rfl ?_); at_builtin; refine Kd.R_append_rows (Kd.int .u8) (w0 := w) w.heap.size rfl (.tmp 24) (.tmp 25) 22 5 (.int .u8 0) 1 rfl Try.underlying22 info5 rfl (by decide) (by omega) v5 y5 l1 _ _ _ (fun _ => True) (fun _ => False) rfl rfl ?aO ?aR (fun _ _ h => h) (fun _ h => h.elim) ?aF ?aB ?aS ?aL ?_; (case aR => exact Kd.C_below HC1.out HB.out); (case aB => exact HB.out); (case aF => exact (fun _ _ => trivial)); (case aS => exact HB.out.size); (case aO => exact HV.out); (case aL => have := HL5.out; have := H0.out; have := H1.out; omega); intro v6 w6 ho hb hg hat; have HF := Aside0.mk ho; have HG := Aside0.mk hb; clear ho hb hg hat))
  go_ret2
  exact ⟨_, rfl, HF.out, HG.out⟩

theorem below_none {W W1 : World} (hg : W.grownBy W1 (Value.slice none 0 0).ownBlock) : Below W.heap.size W W1 := ⟨hg.os, hg.tape, hg.output, hg.size, fun i hi => hg.block i hi (by simp [Value.ownBlock])⟩
theorem at_new {W : World} {v : Value} (hat : v.ownBlock = (Value.slice none 0 0).ownBlock ∨ ∃ b, v.ownBlock = some b ∧ W.heap.size ≤ b) : ∀ k, v.ownBlock = some k → W.heap.size ≤ k := by
  intro k hk
  rcases hat with h | ⟨b, h, hle⟩
  · rw [h] at hk
    simp [Value.ownBlock] at hk
  · rw [h] at hk
    cases hk
    exact hle
def Back (w : World) (e : Ending) (w' : World) : Prop := e = .returned (.bool true) ∧ Below w.heap.size w w'
set_option maxHeartbeats 400000 in
set_option maxRecDepth 100000 in
theorem back_early (w : World) (A0 : Option Addr) (n0 c0 : Nat) (A1 : Option Addr) (n1 c1 : Nat) (A2 : Option Addr) (n2 c2 : Nat) (h : 100 < n0 ∨ (¬ 100 < n0 ∧ 500 < n1) ∨ (¬ 100 < n0 ∧ ¬ 500 < n1 ∧ 100 < n2)) :
    Calls Try.prog 3 #[.slice A0 n0 c0, .slice A1 n1 c1, .slice A2 n2 c2] w (Back w) := by
  rcases h with h0 | ⟨h0, h1⟩ | ⟨h0, h1, h2⟩
  · have d0 : decide (100 < (n0 : Int)) = true := decide_eq_true (by omega)
    have d0' : decide (100 < n0) = true := decide_eq_true h0
    clear h0
    go_enter Try.func3, Try.ntmps3
    go_wp2_with fail
    refine (choirlaw4_known.calls true _ rfl).mono ?_
    rintro e w1 ⟨rfl, hb⟩
    go_wp2
    go_ret
    exact ⟨rfl, hb⟩
  · have d0 : decide (100 < (n0 : Int)) = false := decide_eq_false (by omega)
    have d0' : decide (100 < n0) = false := decide_eq_false h0
    have d1 : decide (500 < (n1 : Int)) = true := decide_eq_true (by omega)
    have d1' : decide (500 < n1) = true := decide_eq_true h1
    clear h0 h1
    go_enter Try.func3, Try.ntmps3
    go_wp2_with fail
    refine (choirlaw4_known.calls true _ rfl).mono ?_
    rintro e w1 ⟨rfl, hb⟩
    go_wp2
    go_ret
    exact ⟨rfl, hb⟩
  · have d0 : decide (100 < (n0 : Int)) = false := decide_eq_false (by omega)
    have d0' : decide (100 < n0) = false := decide_eq_false h0
    have d1 : decide (500 < (n1 : Int)) = false := decide_eq_false (by omega)
    have d1' : decide (500 < n1) = false := decide_eq_false h1
    have d2 : decide (100 < (n2 : Int)) = true := decide_eq_true (by omega)
    have d2' : decide (100 < n2) = true := decide_eq_true h2
    clear h0 h1 h2
    go_enter Try.func3, Try.ntmps3
    go_wp2_with fail
    refine (choirlaw4_known.calls true _ rfl).mono ?_
    rintro e w1 ⟨rfl, hb⟩
    go_wp2
    go_ret
    exact ⟨rfl, hb⟩
set_option maxHeartbeats 4000000 in
set_option maxRecDepth 100000 in
theorem back_on (w : World) (A0 : Option Addr) (c0 : Nat) (l0 : List Int) (A1 : Option Addr) (c1 : Nat) (l1 : List Int) (A2 : Option Addr) (c2 : Nat) (l2 : List Int)
    (hC0 : Kd.C (Kd.int .u8) w A0 l0.length l0) (hc0 : l0.length ≤ c0) (hC1 : Kd.C (Kd.int .u8) w A1 l1.length l1) (hc1 : l1.length ≤ c1) (hC2 : Kd.C (Kd.int .u8) w A2 l2.length l2) (hc2 : l2.length ≤ c2)
    (hb1 : Bytes l1) (hb2 : Bytes l2) (h0 : ¬ 100 < l0.length) (h1 : ¬ 500 < l1.length) (h2 : ¬ 100 < l2.length) :
    Calls Try.prog 3 #[.slice A0 l0.length c0, .slice A1 l1.length c1, .slice A2 l2.length c2] w (Back w) := by
  have hob := opened_framed (more := l2) hb1 (by omega)
  have hbf := bytes_append (framed_bytes hb1) hb2
  obtain ⟨K1, q1⟩ := two (wrap_ev (b := l0) hb1 (by omega) (by omega)) (open_ev hbf (by rw [List.length_append, framed_length]; omega))
  obtain ⟨K2, q2⟩ := two (sum_ev hb1 (by omega)) (rsum_ev hb1 (by omega))
  obtain ⟨e1, e2⟩ := q1 (max K1 K2) (by omega)
  obtain ⟨e3, e4⟩ := q2 (max K1 K2) (by omega)
  rw [hob] at e2
  generalize max K1 K2 = k at *
  clear q1 q2 hob hbf
  obtain ⟨y1, n1⟩ : ∃ y : List Int, y = l0 ++ framed l1 := ⟨_, rfl⟩
  obtain ⟨y2, n2⟩ : ∃ y : List Int, y = framed l1 := ⟨_, rfl⟩
  obtain ⟨y3, n3⟩ : ∃ y : List Int, y = framed l1 ++ l2 := ⟨_, rfl⟩
  have hy1 : y1.length = l0.length + l1.length + 8 := by rw [n1, List.length_append, framed_length]; omega
  have hy2 : y2.length = l1.length + 8 := by rw [n2, framed_length]
  have hd : y1.drop l0.length = y2 := by rw [n1, n2]; exact List.drop_left' rfl
  have hn3 : y3 = y2 ++ l2 := by rw [n3, n2]
  rw [← n1] at e1
  rw [← n3] at e2
  have N1 := Aside0.mk n1; have N3 := Aside0.mk hn3; have HY1 := Aside0.mk hy1; have HY2 := Aside0.mk hy2; have HD := Aside0.mk hd
  clear n1 n2 n3 hy1 hy2 hd hn3
  have E1 := Aside0.mk e1; have E2 := Aside0.mk e2; have E3 := Aside0.mk e3; have E4 := Aside0.mk e4
  have HC0 := Aside0.mk hC0; have HC1 := Aside0.mk hC1; have HC2 := Aside0.mk hC2; have Hc0 := Aside0.mk hc0; have Hc1 := Aside0.mk hc1; have Hc2 := Aside0.mk hc2
  have H0 := Aside0.mk h0; have H1 := Aside0.mk h1; have H2 := Aside0.mk h2; have HB1 := Aside0.mk hb1
  have d0 : decide (100 < (l0.length : Int)) = false := decide_eq_false (by omega)
  have d0' : decide (100 < l0.length) = false := decide_eq_false h0
  have d1 : decide (500 < (l1.length : Int)) = false := decide_eq_false (by omega)
  have d1' : decide (500 < l1.length) = false := decide_eq_false h1
  have d2 : decide (100 < (l2.length : Int)) = false := decide_eq_false (by omega)
  have d2' : decide (100 < l2.length) = false := decide_eq_false h2
  clear e1 e2 e3 e4 hC0 hC1 hC2 hc0 hc1 hc2 h0 h1 h2 hb1 hb2
  go_enter Try.func3, Try.ntmps3
  go_wp2_with fail
  refine (choirlaw4_known.calls true _ rfl).mono ?_
  rintro e w1 ⟨rfl, hb⟩
  have HB := Aside0.mk hb
  clear hb
  go_wp2_with fail
  refine (frame_Wrap.calls k A0 c0 l0 A1 c1 l1 y1 0 _ (Kd.C_below HC0.out HB.out) Hc0.out (Kd.C_below HC1.out HB.out) Hc1.out E1.out).mono ?_
  rintro e w2 ⟨v2, rfl, hR2, hb⟩
  obtain ⟨A3, c3, e3⟩ := Kd.R_slice hR2
  subst e3
  have HV := Aside0.mk (Kd.R_reads' hR2).2.2
  have HVc := Aside0.mk (Kd.R_reads' hR2).2.1
  have HB2 := Aside0.mk (below_step HB.out hb)
  clear hb hR2 HB
  have hcx := Hc0.out
  go_wp2_with fail
  clear hcx
  refine (rwrap_full _ A0 l0 A1 c1 l1 (Kd.C_below HC0.out HB2.out) (Kd.C_below HC1.out HB2.out) Hc1.out HB1.out (by have := H0.out; omega) (by have := H1.out; omega)).mono ?_
  rw [← N1.out]
  rintro e w3 ⟨v3, rfl, hR3, hb⟩
  obtain ⟨A4, c4, e4⟩ := Kd.R_slice hR3
  subst e4
  have HW := Aside0.mk (Kd.R_reads' hR3).2.2
  have HV' := Aside0.mk (Kd.C_below HV.out hb)
  have HB3 := Aside0.mk (below_step HB2.out hb)
  clear hb hR3 HB2 HV
  obtain ⟨i0, hi0, _, hsz0, _⟩ := info_parts info5
  obtain ⟨A5, hcut, hA5, hC5⟩ := print_drop_of (P := Try.prog) (Value.int .u8) 0 22 5 .i64 Try.underlying22 hi0 hsz0 A3 c3 y1 (l0.length : Int) (by omega) (by have := HY1.out; omega) HVc.out
  have HX := Aside0.mk (Kd.C_of_reads (h1 := fun _ => rfl) (hA5 _ (Kd.reads_of_C HV'.out)))
  rw [Int.toNat_natCast, HD.out] at HX hcut
  clear hA5 hC5 hi0 hsz0
  have HR := Aside0.mk (Kd.R_nil (Kd.int .u8) 5 w3 w.heap.size (fun _ => True))
  go_wp2_with (first | ((with_reducible refine gate_builtin (b := .append) (xs := #[(.const (.slice none 0 0)), (.tmp 50)]) rfl ?_); at_builtin; refine Kd.R_append_rows (Kd.int .u8) (w0 := w) w.heap.size rfl (.const (.slice none 0 0)) (.tmp 50) 22 5 (.int .u8 0) 1 rfl Try.underlying22 info5 rfl (by decide) (by omega) (.slice none 0 0) [] y2 _ _ _ (fun _ => True) (fun _ => False) rfl rfl ?aO ?aR (fun _ _ h => h) (fun _ h => h.elim) ?aF ?aB ?aS ?aL ?_; (case aR => exact HX.out); (case aB => exact HB3.out); (case aF => exact (fun _ _ => trivial)); (case aS => exact HB3.out.size); (case aO => exact HR.out); (case aL => have h1_ := HY2.out; have h2_ := H1.out; simp only [List.length_nil]; omega); intro v6 w6 ho hb hg hat; rw [List.nil_append] at ho; have n1_ := Aside0.mk ho; have n2_ := Aside0.mk hb; have n3_ := Aside0.mk (below_none hg); have n4_ := Aside0.mk (at_new hat); clear HR HX ho hb hg hat; have HO := n1_; have HB4 := n2_; have HN := n3_; have HA := n4_; clear n1_ n2_ n3_ n4_) | ((with_reducible refine gate_builtin (b := .append) (xs := #[(.tmp 51), (.tmp 52)]) rfl ?_); at_builtin; refine Kd.R_append_rows (Kd.int .u8) (w0 := w) w.heap.size rfl (.tmp 51) (.tmp 52) 22 5 (.int .u8 0) 1 rfl Try.underlying22 info5 rfl (by decide) (by omega) v6 y2 l2 _ _ _ (fun _ => True) (fun _ => False) rfl rfl ?aO ?aR (fun _ _ h => h) (fun _ h => h.elim) ?aF ?aB ?aS ?aL ?_; (case aR => exact Kd.C_below HC2.out HB4.out); (case aB => exact HB4.out); (case aF => exact (fun _ _ => trivial)); (case aS => exact HB4.out.size); (case aO => exact HO.out); (case aL => have := HY2.out; have := H1.out; have := H2.out; omega); intro v7 w7 ho hb hg hat; rw [← N3.out] at ho; have n1_ := Aside0.mk ho; have n2_ := Aside0.mk hb; have n3_ := Aside0.mk (pw_below_grown HN.out _ HN.out.size hg HA.out); clear HO HB4 HN HA ho hb hg hat; have HO := n1_; have HB4 := n2_; have HN := n3_; clear n1_ n2_ n3_; obtain ⟨A7, c7, e7⟩ := Kd.R_slice HO.out; subst e7))
  refine (frame_Open.calls k A7 c7 y3 l1 _ 0 _ (Kd.R_reads' HO.out).2.2 (Kd.R_reads' HO.out).2.1 E2.out).mono ?_
  rintro e w8 ⟨v8, rfl, hR8, hb⟩
  obtain ⟨A8, c8, e8⟩ := Kd.R_slice hR8
  subst e8
  have HN8 := Aside0.mk (below_weaken (Below.refl _ _) (Nat.le_refl _) (HN.out.trans ⟨hb.os, hb.tape, hb.output, hb.size, fun i hi => hb.block i (Nat.lt_of_lt_of_le hi HN.out.size)⟩))
  have HB8 := Aside0.mk (below_step HB4.out hb)
  have s1 := Kd.C_string (P := Try.prog) (A := A3) (c := c3) Try.underlying22 Try.underlying5 Try.underlying9 (Kd.C_below HV'.out HN8.out)
  have s2 := Kd.C_string (P := Try.prog) (A := A4) (c := c4) Try.underlying22 Try.underlying5 Try.underlying9 (Kd.C_below HW.out HN8.out)
  have s3 := Kd.C_string (P := Try.prog) (A := A8) (c := c8) Try.underlying22 Try.underlying5 Try.underlying9 (Kd.R_reads' hR8).2.2
  have s4 := Kd.C_string (P := Try.prog) (A := A1) (c := c1) Try.underlying22 Try.underlying5 Try.underlying9 (Kd.C_below HC1.out HB8.out)
  have e9 : ((8 + (l1.length : Int)) == wrap64 ((l1.length : Int) + 8)) = true := by have := H1.out; rw [w64 (by omega) (by omega), Int.add_comm]; simp
  clear hb hR8 hcut HO HN HV' HW
  go_wp2_with fail
  clear s1 s2 s3 s4 e9
  refine (frame_Sum.calls k A1 c1 l1 _ _ (Kd.C_below HC1.out HB8.out) Hc1.out E3.out).mono ?_
  rintro e w9 ⟨rfl, ⟨n9, rfl⟩⟩
  go_wp2_with fail
  refine (choirref3_Sum.calls k A1 c1 l1 _ _ (Kd.C_drewN (Kd.C_below HC1.out HB8.out) n9) Hc1.out E4.out).mono ?_
  rintro e w10 ⟨rfl, ⟨n10, rfl⟩⟩
  have HB10 := Aside0.mk (pw_below_drewN HB8.out (n9 + n10))
  go_wp2
  go_ret
  exact ⟨by first | rfl | (simp; done), HB10.out⟩
theorem walk (a0 : Option Addr) (cap0 : Nat) (l0 : List Int) (hc0 : l0.length ≤ cap0) {w : World} (hC0 : Kd.C (Kd.int .u8) w a0 l0.length l0) (_hB0 : Bytes l0)
    (a1 : Option Addr) (cap1 : Nat) (l1 : List Int) (hc1 : l1.length ≤ cap1) (hC1 : Kd.C (Kd.int .u8) w a1 l1.length l1) (hB1 : Bytes l1)
    (a2 : Option Addr) (cap2 : Nat) (l2 : List Int) (hc2 : l2.length ≤ cap2) (hC2 : Kd.C (Kd.int .u8) w a2 l2.length l2) (hB2 : Bytes l2) (W : World) (hW : W = w := by rfl) :
    Calls Try.prog 3 #[.slice a0 l0.length cap0, .slice a1 l1.length cap1, .slice a2 l2.length cap2] W fun e w' => e = .returned (.bool true) ∧ Below W.heap.size W w' := by
  subst hW
  by_cases h0 : 100 < l0.length
  · exact back_early W a0 _ cap0 a1 _ cap1 a2 _ cap2 (.inl h0)
  by_cases h1 : 500 < l1.length
  · exact back_early W a0 _ cap0 a1 _ cap1 a2 _ cap2 (.inr (.inl ⟨h0, h1⟩))
  by_cases h2 : 100 < l2.length
  · exact back_early W a0 _ cap0 a1 _ cap1 a2 _ cap2 (.inr (.inr ⟨h0, h1, h2⟩))
  exact back_on W a0 cap0 l0 a1 cap1 l1 a2 cap2 l2 hC0 hc0 hC1 hc1 hC2 hc2 hB1 hB2 h0 h1 h2
end Go.Proofs.Ytlledjfhpdgbhaa.FB
