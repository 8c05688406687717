import Derived.Test.YtdohibibmagpaaaDoorIdBackEv
import Derived.Test.YtdohibibmagpaaaDoorIdKnown
import Derived.LoopTactic
namespace Go.Proofs.YtdohibibmagpaaaDoor.IdBackW
open Go.RowKit Go.Lib Go.Proofs.YtdohibibmagpaaaDoorW.PrintWords Go.Proofs.YtdohibibmagpaaaDoor.IdNum Go.Proofs.YtdohibibmagpaaaDoor.IdPure
set_option linter.unusedVariables false
set_option linter.unusedSimpArgs false
attribute [local go_sem high] Q.eqA25

/-- Both readers tell the same of a text. -/
theorem both (l : List UInt8) (hl : l.length < 4294967281) : ∃ (x0 x1 x2 : Int) (b : Bool),
    (∀ W, Ok W → Calls Tryd.prog 8 #[.string (str l)] W fun e W' => e = .returned (.tuple #[.agg #[.int .u32 x0, .int .u32 x1, .int .u16 x2], .bool b]) ∧ Below W.heap.size W W') ∧
    (∀ W, Calls Tryd.prog 10 #[.string (str l)] W fun e W' => e = .returned (.tuple #[.agg #[.int .u32 x0, .int .u32 x1, .int .u16 x2], .bool b]) ∧ Below W.heap.size W W') := by
  obtain ⟨k, hk⟩ := (idparse_ev l (by omega)).rounds
  rw [readers] at hk
  have hp := fun W hW => parse8 l hl W hW
  by_cases h : parseOk l = true
  · rw [if_pos h] at hk
    refine ⟨((parsed l).1 : Int), ((parsed l).2.1 : Int), ((parsed l).2.2 : Int), true, fun W hW => ?_, fun W => S.choirref3_IdParse.calls k _ _ _ _ _ W hk⟩
    have := hp W hW
    rw [if_pos h, h] at this
    exact this
  · rw [if_neg h] at hk
    have hf : parseOk l = false := by simpa using h
    refine ⟨0, 0, 0, false, fun W hW => ?_, fun W => S.choirref3_IdParse.calls k _ _ _ _ _ W hk⟩
    have := hp W hW
    rw [if_neg h, hf] at this
    exact this

theorem own_text (c q n : Nat) (hc : c < 4294967296) (hq : q < 4294967296) (hn : n < 65536) (W : World) (hW : Ok W) :
    Calls Tryd.prog 8 #[.string (str (textL c q n))] W fun e W' => e = .returned (.tuple #[.agg #[.int .u32 (c : Int), .int .u32 (q : Int), .int .u16 (n : Int)], .bool true]) ∧ Below W.heap.size W W' := by
  have hl : (textL c q n).length < 4294967281 := by
    have l1 := dec_len c (by omega)
    have l2 := dec_len q (by omega)
    have l3 := dec_len n (by omega)
    unfold textL
    split
    · simp; omega
    · simp; omega
  have h := parse8 (textL c q n) hl W hW
  rw [(text_parsed c q n hc hq hn).1, (text_parsed c q n hc hq hn).2] at h
  exact h
theorem ref_text (c q n : Nat) (hc : c < 4294967296) (hq : q < 4294967296) (hn : n < 65536) (W : World) :
    Calls Tryd.prog 9 #[.agg #[.int .u32 (c : Int), .int .u32 (q : Int), .int .u16 (n : Int)]] W fun e W' => e = .returned (.string (str (textL c q n))) ∧ Below W.heap.size W W' := by
  obtain ⟨k, hk⟩ := (idtext_ev c q n hc hq hn).rounds
  exact S.choirref3_IdText.calls k _ _ _ _ W hk

/-- The world in which the boxed id still lies, the rest behind it. -/
structure At (w : World) (g : Nat) (x0 x1 x2 : Int) (W : World) : Prop where
  ok : Ok W
  below : Below w.heap.size w W
  blk : W.heap[g]? = some (.cells #[.int .u32 x0, .int .u32 x1, .int .u16 x2] 25 (0, 0))
theorem At.step {w W W' : World} {g : Nat} {x0 x1 x2 : Int} (h : At w g x0 x1 x2 W) (hb : Below W.heap.size W W') : At w g x0 x1 x2 W' :=
  ⟨h.ok.below hb, h.below.trans (hb.mono h.below.size), blk_below h.blk hb⟩
theorem At.put {w W : World} {g : Nat} {x0 x1 x2 : Int} (h : At w g x0 x1 x2 W) (hw : Ok w) {p : Addr} (hp : w.heap.size ≤ p.block) (hne : g ≠ p.block) (u : Value) : At w g x0 x1 x2 (W.setCell p u) :=
  have hb := h.below.setCell hp u
  ⟨hw.below hb, hb, blk_far h.blk hne u⟩

theorem bytes_facts (W : World) (t : List UInt8) (T : ByteArray) (hT : T = str t) :
    (∀ j (hj : j < t.length), (bytesWorld W 5 T).cell? ⟨W.heap.size, j, none⟩ = some (.int .u8 (t[j].toNat : Int))) ∧ (∀ j, j < t.length → (bytesWorld W 5 T).frozen? ⟨W.heap.size, j, none⟩ = false) := by
  subst hT
  constructor
  · intro j hj
    rw [bytesWorld_cell W 5 (str t) j (by rw [str_size]; exact hj)]
    have : (str t).data.toList = t := rfl
    rw [this]
    simp [hj]
  · intro j hj
    have h := bytesWorld_at_new W 5 (str t)
    have hs : t.length ≤ (bytesCells W 5 (str t)).size := by
      unfold bytesCells
      rw [Array.size_append, Array.size_map]
      have : (str t).data.size = t.length := by simp [str]
      omega
    simp [World.frozen?, h]
    omega

set_option maxHeartbeats 16000000 in
set_option maxRecDepth 100000 in
theorem back_walk (c q n : Nat) (hc : c < 4294967296) (hq : q < 4294967296) (hn : n < 65536) (s : List UInt8) (hs60 : s.length ≤ 60) (pos ch : Nat) (hpos : pos < 256) (hch : ch < 256) (w : World) (hw : Ok w) :
    Calls Tryd.prog 3 #[.agg #[.int .u32 (c : Int), .int .u32 (q : Int), .int .u16 (n : Int)], .string (str s), .int .u8 (pos : Int), .int .u8 (ch : Int)] w fun e w' => e = .returned (.bool true) ∧ Below w.heap.size w w' := by
  obtain ⟨t, ht⟩ : ∃ t, t = textL c q n := ⟨_, rfl⟩
  have l1 := dec_len c (by omega)
  have l2 := dec_len q (by omega)
  have l3 := dec_len n (by omega)
  have tl : 1 ≤ t.length ∧ t.length ≤ 64 := by
    rw [ht]; unfold textL
    split
    · simp; omega
    · simp; omega
  have hT7 : ∀ W, Ok W → Calls Tryd.prog 7 #[.agg #[.int .u32 (c : Int), .int .u32 (q : Int), .int .u16 (n : Int)]] W fun e W' => e = .returned (.string (str t)) ∧ Below W.heap.size W W' := fun W h => ht ▸ text7 c q n hc hq hn W h
  have hP8 : ∀ W, Ok W → Calls Tryd.prog 8 #[.string (str t)] W fun e W' => e = .returned (.tuple #[.agg #[.int .u32 (c : Int), .int .u32 (q : Int), .int .u16 (n : Int)], .bool true]) ∧ Below W.heap.size W W' := fun W h => ht ▸ own_text c q n hc hq hn W h
  have hR9 : ∀ W, Calls Tryd.prog 9 #[.agg #[.int .u32 (c : Int), .int .u32 (q : Int), .int .u16 (n : Int)]] W fun e W' => e = .returned (.string (str t)) ∧ Below W.heap.size W W' := fun W => ht ▸ ref_text c q n hc hq hn W
  clear ht l1 l2 l3
  obtain ⟨T, hTs⟩ : ∃ T, T = str t := ⟨_, rfl⟩
  obtain ⟨S0, hS0⟩ : ∃ S0, S0 = str s := ⟨_, rfl⟩
  have sT : T.size = t.length := by rw [hTs, str_size]
  have sS : S0.size = s.length := by rw [hS0, str_size]
  rw [← hTs] at hT7 hP8 hR9
  rw [← hS0]
  have HT := Aside0.mk hTs
  have HS := Aside0.mk hS0
  have i60 : ¬ (60 < (S0.size : Int)) := by omega
  have HW := Aside0.mk hw
  have hTT : (T.toList == T.toList) = true := beq_self_eq_true _
  clear hTs hS0 hw
  go_enter Tryd.func3, Tryd.ntmps3
  go_upto_region 7 with (first
    | ((with_reducible refine gate_dst (N := 4) rfl ?_); refine box_event ?hg (N := 4) ?hd (cs := #[.int .u32 (c : Int), .int .u32 (q : Int), .int .u16 (n : Int)]) (t := 25) ?hr ?_; (case hd => rfl); (case hg => rfl); (case hr => first | (go_simp; done) | (go_simp; rfl)); intro g4 hg w1 hbox hb; have H1 := Aside0.mk (show At w g4 (c : Int) (q : Int) (n : Int) w1 from ⟨HW.out.below hb, hb, hbox⟩); have G4 := Aside0.mk (show w.heap.size ≤ g4 by omega); clear hg hb hbox)
    | (go_at_call 6; refine (Q.known_walk _ ?_).mono ?_; exact H1.out.ok; rintro e w2 ⟨rfl, h_⟩; have H2 := Aside0.mk (H1.out.step h_); obtain ⟨p0, p1, p2⟩ := three_cells H2.out.blk; clear h_ H1)
    | (go_at_call 7; refine (hT7 _ ?_).mono ?_; exact H2.out.ok; rintro e w3 ⟨rfl, h_⟩; have H3 := Aside0.mk (H2.out.step h_); clear h_ H2 p0 p1 p2)
    | (go_at_call 8; refine (hP8 _ ?_).mono ?_; exact H3.out.ok; rintro e w4 ⟨rfl, h_⟩; have H4 := Aside0.mk (H3.out.step h_); clear h_ H3)
    | ((with_reducible refine gate_dst (N := 10) rfl ?_); refine box_event ?hg (N := 10) ?hd (cs := #[.int .u32 0, .int .u32 0, .int .u16 0]) (t := 25) ?hr ?_; (case hd => rfl); (case hg => rfl); (case hr => first | (go_simp; done) | (go_simp; rfl)); intro g10 hg w5 hbox hb; have H5 := Aside0.mk (H4.out.step hb); have BK := Aside0.mk hbox; have G10 := Aside0.mk (show w.heap.size ≤ g10 ∧ g4 ≠ g10 by (have := blk_lt H4.out.blk; have := H4.out.below.size; omega)); have q0 : w5.cell? ⟨g10, 0, none⟩ = some (.int .u32 0) := blk_cell hbox 0; have q1 : w5.cell? ⟨g10, 1, none⟩ = some (.int .u32 0) := blk_cell hbox 1; have q2 : w5.cell? ⟨g10, 2, none⟩ = some (.int .u16 0) := blk_cell hbox 2; have f0 : w5.frozen? ⟨g10, 0, none⟩ = false := blk_frozen hbox 0; have f1 : w5.frozen? ⟨g10, 1, none⟩ = false := blk_frozen hbox 1; have f2 : w5.frozen? ⟨g10, 2, none⟩ = false := blk_frozen hbox 2; clear hg hb hbox H4))
  have X : Aside0 (At w g4 (c : Int) (q : Int) (n : Int) (((w5.setCell ⟨g10, 0, none⟩ (.int .u32 (c : Int))).setCell ⟨g10, 1, none⟩ (.int .u32 (q : Int))).setCell ⟨g10, 2, none⟩ (.int .u16 (n : Int))) ∧
      (((w5.setCell ⟨g10, 0, none⟩ (.int .u32 (c : Int))).setCell ⟨g10, 1, none⟩ (.int .u32 (q : Int))).setCell ⟨g10, 2, none⟩ (.int .u16 (n : Int))).heap[g10]? = some (.cells #[.int .u32 (c : Int), .int .u32 (q : Int), .int .u16 (n : Int)] 25 (0, 0))) := by
    refine ⟨⟨((H5.out.put HW.out ?_ ?_ _).put HW.out ?_ ?_ _).put HW.out ?_ ?_ _, three_set BK.out _ _ _⟩⟩
    all_goals first | exact G10.out.1 | exact G10.out.2
  clear q0 q1 q2 f0 f1 f2 H5 BK
  generalize (((w5.setCell ⟨g10, 0, none⟩ (.int .u32 (c : Int))).setCell ⟨g10, 1, none⟩ (.int .u32 (q : Int))).setCell ⟨g10, 2, none⟩ (.int .u16 (n : Int))) = W6 at X ⊢
  have H6 := Aside0.mk X.out.1
  have B6 := Aside0.mk X.out.2
  obtain ⟨p0, p1, p2⟩ := three_cells X.out.1.blk
  obtain ⟨r0, r1, r2⟩ := three_cells X.out.2
  clear X
  have kb := fun W => print_bytes (P := Tryd.prog) 9 30 5 Tryd.underlying9 Tryd.underlying30 Tryd.underlying5 T W
  go_upto_region 10 with (first
    | (go_at_call 9; refine (hR9 _).mono ?_; rintro e w7 ⟨rfl, h_⟩; have H7 := Aside0.mk (H6.out.step h_); obtain ⟨p0, p1, p2⟩ := three_cells H7.out.blk; obtain ⟨r0, r1, r2⟩ := three_cells (blk_below B6.out h_); clear h_ H6 B6))
  have F := Aside0.mk (bytes_facts w7 t T HT.out)
  have H8 := Aside0.mk (H7.out.step (Joins.below_bytesWorld w7.heap.size w7 5 T (Nat.le_refl _)))
  have G8 := Aside0.mk (show w.heap.size ≤ w7.heap.size ∧ g4 ≠ w7.heap.size by (have := blk_lt H7.out.blk; have := H7.out.below.size; omega))
  clear H7 kb p0 p1 p2 r0 r1 r2
  generalize w7.heap.size = gB at F H8 G8 ⊢
  generalize grownCap w7 t.length 0 5 = cap at F H8 G8 ⊢
  generalize bytesWorld w7 5 T = W8 at F H8 G8 ⊢
  obtain ⟨i, hi⟩ : ∃ i, i = pos % t.length := ⟨_, rfl⟩
  have hil : i < t.length := by rw [hi]; exact Nat.mod_lt _ (by omega)
  have hrem : Int.tmod (pos : Int) (t.length : Int) = (i : Int) := by rw [Int.tmod_eq_emod_of_nonneg (by omega), hi]; omega
  have hwp : IntKind.i64.wrap (pos : Int) = (pos : Int) := by rw [IntKind.wrap_i64]; omega
  have hwi : IntKind.i64.wrap (i : Int) = (i : Int) := by rw [IntKind.wrap_i64]; omega
  have hne0 : ¬ (t.length : Int) = 0 := by omega
  have hne1 : ¬ t.length = 0 := by omega
  have hne2 : ¬ t = [] := fun e => hne1 (by rw [e]; rfl)
  have hi0 : (0 : Int) ≤ (i : Int) := by omega
  have hi1 : (i : Int) < (t.length : Int) := by omega
  have hcell := F.out.1 i hil
  have hfroz := F.out.2 i hil
  clear hi hpos
  go_upto_region 11 with (fail)
  have H9_ := H8.out.put HW.out (p := ⟨gB, i, none⟩) G8.out.1 G8.out.2 (.int .u8 (ch : Int))
  have hcv_ : (convert 30 9 (.slice (some ⟨gB, 0, none⟩) t.length cap)).run Tryd.prog (W8.setCell ⟨gB, i, none⟩ (.int .u8 (ch : Int))) = .ok (.string (str (t.set i (UInt8.ofNat ch)))) (W8.setCell ⟨gB, i, none⟩ (.int .u8 (ch : Int))) := by
    have h := run_convert_bytes_back (P := Tryd.prog) (W8.setCell ⟨gB, i, none⟩ (.int .u8 (ch : Int))) 30 9 5 ⟨gB, 0, none⟩ cap (t.set i (UInt8.ofNat ch)) Tryd.underlying30 Tryd.underlying5 Tryd.underlying9 (fun j hj => by
      rw [List.length_set] at hj
      rw [Lib.add_plain, Nat.zero_add, List.getElem_set]
      by_cases hij : i = j
      · subst hij
        rw [if_pos rfl, World.cell?_setCell_same _ _ _ (by rw [F.out.1 i hj]), UInt8.toNat_ofNat', Nat.mod_eq_of_lt (show ch < 2 ^ 8 from hch)]
      · rw [if_neg hij, World.cell?_setCell_other _ _ _ _ (by intro e; exact hij (by injection e))]
        exact F.out.1 j hj)
    rw [List.length_set] at h
    exact h
  clear hcell hfroz F H8 G8
  generalize (W8.setCell ⟨gB, i, none⟩ (.int .u8 (ch : Int))) = W9 at H9_ hcv_ ⊢
  have H9 := Aside0.mk H9_
  clear H9_
  have z1 : ¬ (9223372036854775807 < 1 + t.length) := by omega
  have z2 : ¬ (9223372036854775807 < t.length + 1) := by omega
  have z3 : ¬ (9223372036854775807 < t.length + 2) := by omega
  obtain ⟨B1, hB1⟩ : ∃ B1, B1 = str (t.set i (UInt8.ofNat ch)) := ⟨_, rfl⟩
  rw [← hB1] at hcv_
  have HB1 := Aside0.mk hB1
  clear hB1
  go_wp2
  have hT' := HT.out
  have hS' := HS.out
  have hB' := HB1.out
  have e1 : ({ data := #[48] } : ByteArray) ++ T = str ([48] ++ t) := by rw [hT', ← str_app]; rfl
  have e2 : T ++ ({ data := #[48] } : ByteArray) = str (t ++ [48]) := by rw [hT', ← str_app]; rfl
  have e3 : T ++ ({ data := #[46, 48] } : ByteArray) = str (t ++ [46, 48]) := by rw [hT', ← str_app]; rfl
  rw [e1, e2, e3, hS', hB']
  have HY := Aside0.mk (show ∀ l ∈ [s, t.set i (UInt8.ofNat ch), [48] ++ t, t ++ [48], t ++ [46, 48]], l.length < 1000 by
    intro l hl
    simp only [List.mem_cons, List.mem_nil_iff, or_false] at hl
    rcases hl with rfl | rfl | rfl | rfl | rfl
    · omega
    · rw [List.length_set]; omega
    all_goals (simp; omega))
  obtain ⟨ys, hys⟩ : ∃ ys, ys = [s, t.set i (UInt8.ofNat ch), [48] ++ t, t ++ [48], t ++ [46, 48]] := ⟨_, rfl⟩
  have Hlen := Aside0.mk (show ys.length = 5 by rw [hys]; rfl)
  have hcs : (#[Value.string (str s), Value.string (str (t.set i (UInt8.ofNat ch))), Value.string (str ([48] ++ t)), Value.string (str (t ++ [48])), Value.string (str (t ++ [46, 48]))] : Array Value) = (ys.map fun l => Value.string (str l)).toArray := by rw [hys]; rfl
  rw [hcs]
  rw [← hys] at HY
  clear e1 e2 e3 hT' hS' hB' hcs hys z1 z2 z3 hcv_
  have H10 := Aside0.mk (H9.out.step ((Below.refl W9.heap.size W9).alloc (Nat.le_refl _) (.cells ((ys.map fun l => Value.string (str l)).toArray) 9)))
  have B10 := Aside0.mk (blk_new W9 (.cells ((ys.map fun l => Value.string (str l)).toArray) 9 (0, 0)))
  have G10' := Aside0.mk (show w.heap.size ≤ W9.heap.size from H9.out.below.size)
  clear H9
  generalize hW10 : W9.alloc (.cells ((ys.map fun l => Value.string (str l)).toArray) 9) = W10 at H10 B10 ⊢
  clear hW10
  generalize W9.heap.size = gS at B10 G10' ⊢
  go_loopw [65] (fun v wr => ∃ k : Nat, k ≤ 5 ∧ v = .int .i64 (k : Int) ∧ Aside0 (At w g4 (c : Int) (q : Int) (n : Int) wr) ∧ Aside0 (wr.heap[gS]? = some (.cells ((ys.map fun l => Value.string (str l)).toArray) 9 (0, 0)))) (fun v _ => 5 - (RowKit.intOf v).toNat)
  case atStart => exact ⟨0, by omega, rfl, H10, B10⟩
  case round =>
    obtain ⟨k, hk, rfl, HA, HB⟩ := hrel
    by_cases hk5 : k < 5
    · have hk5' : (k : Int) < 5 := by omega
      have hk0 : (0 : Int) ≤ (k : Int) := by omega
      have hky : k < ys.length := by rw [Hlen.out]; exact hk5
      obtain ⟨x0, x1, x2, b, h8, h10⟩ := both (ys[k]'hky) (by have := HY.out _ (List.getElem_mem hky); omega)
      have hcell : wr.cell? ⟨gS, k, none⟩ = some (.string (str (ys[k]'hky))) := by
        rw [blk_cell HB.out k]
        simp [hky]
      have hwk : IntKind.i64.wrap ((k : Int) + 1) = ((k + 1 : Nat) : Int) := by rw [IntKind.wrap_i64]; omega
      generalize str (ys[k]'hky) = y at h8 h10 hcell
      clear hky
      go_upto_region 15 with (first
        | (go_at_call 8; refine (h8 _ ?_).mono ?_; exact HA.out.ok; rintro e v1 ⟨rfl, h_⟩; have HA1 := Aside0.mk (HA.out.step h_); have HB1' := Aside0.mk (blk_below HB.out h_); clear h_ hcell)
        | ((with_reducible refine gate_dst (N := 15) rfl ?_); refine box_event ?hg (N := 15) ?hd (cs := #[.int .u32 0, .int .u32 0, .int .u16 0]) (t := 25) ?hr ?_; (case hd => rfl); (case hg => rfl); (case hr => first | (go_simp; done) | (go_simp; rfl)); intro g15 hg v2 hbox hb; have HA2 := Aside0.mk (HA1.out.step hb); have HB2 := Aside0.mk (blk_below HB1'.out hb); have BK := Aside0.mk hbox; have G15 := Aside0.mk (show w.heap.size ≤ g15 ∧ g4 ≠ g15 ∧ gS ≠ g15 by (have h1_ := blk_lt HA1.out.blk; have h2_ := HA1.out.below.size; have h3_ := blk_lt HB1'.out; omega)); have q0 : v2.cell? ⟨g15, 0, none⟩ = some (.int .u32 0) := blk_cell hbox 0; have q1 : v2.cell? ⟨g15, 1, none⟩ = some (.int .u32 0) := blk_cell hbox 1; have q2 : v2.cell? ⟨g15, 2, none⟩ = some (.int .u16 0) := blk_cell hbox 2; have f0 : v2.frozen? ⟨g15, 0, none⟩ = false := blk_frozen hbox 0; have f1 : v2.frozen? ⟨g15, 1, none⟩ = false := blk_frozen hbox 1; have f2 : v2.frozen? ⟨g15, 2, none⟩ = false := blk_frozen hbox 2; clear hg hb hbox))
      have X : Aside0 ((At w g4 (c : Int) (q : Int) (n : Int) (((v2.setCell ⟨g15, 0, none⟩ (.int .u32 x0)).setCell ⟨g15, 1, none⟩ (.int .u32 x1)).setCell ⟨g15, 2, none⟩ (.int .u16 x2)) ∧ (((v2.setCell ⟨g15, 0, none⟩ (.int .u32 x0)).setCell ⟨g15, 1, none⟩ (.int .u32 x1)).setCell ⟨g15, 2, none⟩ (.int .u16 x2)).heap[gS]? = some (.cells ((ys.map fun l => Value.string (str l)).toArray) 9 (0, 0))) ∧ (((v2.setCell ⟨g15, 0, none⟩ (.int .u32 x0)).setCell ⟨g15, 1, none⟩ (.int .u32 x1)).setCell ⟨g15, 2, none⟩ (.int .u16 x2)).heap[g15]? = some (.cells #[.int .u32 x0, .int .u32 x1, .int .u16 x2] 25 (0, 0))) := by
        refine ⟨⟨⟨((HA2.out.put HW.out ?_ ?_ _).put HW.out ?_ ?_ _).put HW.out ?_ ?_ _, blk_far (blk_far (blk_far HB2.out ?_ _) ?_ _) ?_ _⟩, three_set BK.out _ _ _⟩⟩
        all_goals first | exact G15.out.1 | exact G15.out.2.1 | exact G15.out.2.2
      clear q0 q1 q2 f0 f1 f2 HA2 HB2 BK
      generalize (((v2.setCell ⟨g15, 0, none⟩ (.int .u32 x0)).setCell ⟨g15, 1, none⟩ (.int .u32 x1)).setCell ⟨g15, 2, none⟩ (.int .u16 x2)) = V3 at X ⊢
      have HA3 := Aside0.mk X.out.1.1
      have HB3 := Aside0.mk X.out.1.2
      have BK3 := Aside0.mk X.out.2
      clear X
      go_upto_region 16 with (first
        | (go_at_call 10; refine (h10 _).mono ?_; rintro e v4 ⟨rfl, h_⟩; have HA4 := Aside0.mk (HA3.out.step h_); have HB4 := Aside0.mk (blk_below HB3.out h_); have BK4 := Aside0.mk (blk_below BK3.out h_); clear h_)
        | ((with_reducible refine gate_dst (N := 17) rfl ?_); refine box_event ?hg (N := 17) ?hd (cs := #[.int .u32 0, .int .u32 0, .int .u16 0]) (t := 25) ?hr ?_; (case hd => rfl); (case hg => rfl); (case hr => first | (go_simp; done) | (go_simp; rfl)); intro g17 hg v5 hbox hb; have HA5 := Aside0.mk (HA4.out.step hb); have HB5 := Aside0.mk (blk_below HB4.out hb); have BK5 := Aside0.mk (blk_below BK4.out hb); have BK := Aside0.mk hbox; have G17 := Aside0.mk (show w.heap.size ≤ g17 ∧ g4 ≠ g17 ∧ gS ≠ g17 ∧ g15 ≠ g17 by (have h1_ := blk_lt HA4.out.blk; have h2_ := HA4.out.below.size; have h3_ := blk_lt HB4.out; have h4_ := blk_lt BK4.out; omega)); have q0 : v5.cell? ⟨g17, 0, none⟩ = some (.int .u32 0) := blk_cell hbox 0; have q1 : v5.cell? ⟨g17, 1, none⟩ = some (.int .u32 0) := blk_cell hbox 1; have q2 : v5.cell? ⟨g17, 2, none⟩ = some (.int .u16 0) := blk_cell hbox 2; have f0 : v5.frozen? ⟨g17, 0, none⟩ = false := blk_frozen hbox 0; have f1 : v5.frozen? ⟨g17, 1, none⟩ = false := blk_frozen hbox 1; have f2 : v5.frozen? ⟨g17, 2, none⟩ = false := blk_frozen hbox 2; clear hg hb hbox))
      have X : Aside0 (((At w g4 (c : Int) (q : Int) (n : Int) (((v5.setCell ⟨g17, 0, none⟩ (.int .u32 x0)).setCell ⟨g17, 1, none⟩ (.int .u32 x1)).setCell ⟨g17, 2, none⟩ (.int .u16 x2)) ∧ (((v5.setCell ⟨g17, 0, none⟩ (.int .u32 x0)).setCell ⟨g17, 1, none⟩ (.int .u32 x1)).setCell ⟨g17, 2, none⟩ (.int .u16 x2)).heap[gS]? = some (.cells ((ys.map fun l => Value.string (str l)).toArray) 9 (0, 0))) ∧ (((v5.setCell ⟨g17, 0, none⟩ (.int .u32 x0)).setCell ⟨g17, 1, none⟩ (.int .u32 x1)).setCell ⟨g17, 2, none⟩ (.int .u16 x2)).heap[g15]? = some (.cells #[.int .u32 x0, .int .u32 x1, .int .u16 x2] 25 (0, 0))) ∧ (((v5.setCell ⟨g17, 0, none⟩ (.int .u32 x0)).setCell ⟨g17, 1, none⟩ (.int .u32 x1)).setCell ⟨g17, 2, none⟩ (.int .u16 x2)).heap[g17]? = some (.cells #[.int .u32 x0, .int .u32 x1, .int .u16 x2] 25 (0, 0))) := by
        refine ⟨⟨⟨⟨((HA5.out.put HW.out ?_ ?_ _).put HW.out ?_ ?_ _).put HW.out ?_ ?_ _, blk_far (blk_far (blk_far HB5.out ?_ _) ?_ _) ?_ _⟩, blk_far (blk_far (blk_far BK5.out ?_ _) ?_ _) ?_ _⟩, three_set BK.out _ _ _⟩⟩
        all_goals first | exact G17.out.1 | exact G17.out.2.1 | exact G17.out.2.2.1 | exact G17.out.2.2.2
      clear q0 q1 q2 f0 f1 f2 HA5 HB5 BK5 BK
      generalize (((v5.setCell ⟨g17, 0, none⟩ (.int .u32 x0)).setCell ⟨g17, 1, none⟩ (.int .u32 x1)).setCell ⟨g17, 2, none⟩ (.int .u16 x2)) = V6 at X ⊢
      have HA6 := Aside0.mk X.out.1.1.1
      have HB6 := Aside0.mk X.out.1.1.2
      obtain ⟨r0, r1, r2⟩ := three_cells X.out.1.2
      obtain ⟨u0, u1, u2⟩ := three_cells X.out.2
      clear X
      go_wp2
      go_roundw
      case rel =>
        have R : k + 1 ≤ 5 ∧ Value.int .i64 ((k + 1 : Nat) : Int) = .int .i64 ((k + 1 : Nat) : Int) ∧ Aside0 (At w g4 (c : Int) (q : Int) (n : Int) V6) ∧ Aside0 (V6.heap[gS]? = some (.cells ((ys.map fun l => Value.string (str l)).toArray) 9 (0, 0))) := ⟨by omega, rfl, HA6, HB6⟩
        first
          | exact ⟨k + 1, R⟩
          | exact ⟨k + 1, by omega, by go_num, HA6, HB6⟩
          | ((repeat apply Exists.intro); exact ⟨⟨k + 1, R⟩, rfl⟩)
      case measure => simp [RowKit.intOf]; omega
    · obtain rfl : k = 5 := by omega
      go_wp2
      go_ret
      exact ⟨rfl, HA.out.below⟩

set_option maxHeartbeats 4000000 in
set_option maxRecDepth 100000 in
theorem back_long (x0 x1 x2 pos ch : Int) (S0 : ByteArray) (h60 : 60 < (S0.size : Int)) (w : World) (hw : Ok w) :
    Calls Tryd.prog 3 #[.agg #[.int .u32 x0, .int .u32 x1, .int .u16 x2], .string S0, .int .u8 pos, .int .u8 ch] w fun e w' => e = .returned (.bool true) ∧ Below w.heap.size w w' := by
  have HW := Aside0.mk hw
  clear hw
  go_enter Tryd.func3, Tryd.ntmps3
  go_wp2_with (first
    | ((with_reducible refine gate_dst (N := 4) rfl ?_); refine box_event ?hg (N := 4) ?hd (cs := #[.int .u32 x0, .int .u32 x1, .int .u16 x2]) (t := 25) ?hr ?_; (case hd => rfl); (case hg => rfl); (case hr => first | (go_simp; done) | (go_simp; rfl)); intro g4 hg w1 hbox hb; have H1 := Aside0.mk (show At w g4 x0 x1 x2 w1 from ⟨HW.out.below hb, hb, hbox⟩); clear hg hb hbox)
    | (go_at_call 6; refine (Q.known_walk _ ?_).mono ?_; exact H1.out.ok; rintro e w2 ⟨rfl, h_⟩; have H2 := Aside0.mk (H1.out.step h_); clear h_ H1))
  go_ret
  exact ⟨rfl, H2.out.below⟩

theorem walk (a0 : Int) (w0 : (Lit.int .u32 a0).wf = true) (a1 : Int) (w1 : (Lit.int .u32 a1).wf = true) (a2 : Int) (w2 : (Lit.int .u16 a2).wf = true)
    (sb : ByteArray) {Y : Prop} (y : Y) (pos : Int) (wp : (Lit.int .u8 pos).wf = true) (ch : Int) (wch : (Lit.int .u8 ch).wf = true) (W : World) (hT : IdNum.Ok W) :
    Calls Tryd.prog 3 #[.agg #[.int .u32 a0, .int .u32 a1, .int .u16 a2], .string sb, .int .u8 pos, .int .u8 ch] W fun e W' => e = .returned (.bool true) ∧ Below W.heap.size W W' := by
  by_cases h60 : 60 < (sb.size : Int)
  · exact back_long a0 a1 a2 pos ch sb h60 W hT
  · have h0 : 0 ≤ a0 ∧ a0 < 4294967296 := by simp [Lit.wf, IntKind.min, IntKind.max, IntKind.signed, IntKind.bits] at w0; omega
    have h1 : 0 ≤ a1 ∧ a1 < 4294967296 := by simp [Lit.wf, IntKind.min, IntKind.max, IntKind.signed, IntKind.bits] at w1; omega
    have h2 : 0 ≤ a2 ∧ a2 < 65536 := by simp [Lit.wf, IntKind.min, IntKind.max, IntKind.signed, IntKind.bits] at w2; omega
    have hp : 0 ≤ pos ∧ pos < 256 := by simp [Lit.wf, IntKind.min, IntKind.max, IntKind.signed, IntKind.bits] at wp; omega
    have hc : 0 ≤ ch ∧ ch < 256 := by simp [Lit.wf, IntKind.min, IntKind.max, IntKind.signed, IntKind.bits] at wch; omega
    obtain ⟨c, rfl⟩ : ∃ c : Nat, a0 = (c : Int) := ⟨a0.toNat, by omega⟩
    obtain ⟨q, rfl⟩ : ∃ c : Nat, a1 = (c : Int) := ⟨a1.toNat, by omega⟩
    obtain ⟨n, rfl⟩ : ∃ c : Nat, a2 = (c : Int) := ⟨a2.toNat, by omega⟩
    obtain ⟨p, rfl⟩ : ∃ c : Nat, pos = (c : Int) := ⟨pos.toNat, by omega⟩
    obtain ⟨k, rfl⟩ : ∃ c : Nat, ch = (c : Int) := ⟨ch.toNat, by omega⟩
    obtain ⟨s, rfl⟩ : ∃ s, sb = str s := ⟨sb.data.toList, rfl⟩
    rw [str_size] at h60
    exact back_walk c q n (by omega) (by omega) (by omega) s (by omega) p k (by omega) (by omega) W hT
end Go.Proofs.YtdohibibmagpaaaDoor.IdBackW
