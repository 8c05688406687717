import Derived.Test.YtejfmghjmhiodaaGreatDoorVzFl6
import Derived.StillTailTactics
namespace Go.Proofs.YtejfmghjmhiodaaGreatDoor.Vz
open Go.RowKit Go.Proofs.YtejfmghjmhiodaaGreatDoorW.PrintWords
set_option linter.unusedVariables false
set_option linter.unusedSimpArgs false
attribute [local go_sem] store_float

theorem var_below {n : String} {g : Nat} {cs : Array Value} {w w' : World} (hg : Tryz.prog.globalNamed n = some g) (h : w.var? Tryz.prog n = some cs) (hb : Below w.heap.size w w') : w'.var? Tryz.prog n = some cs := by
  unfold World.var? at h ⊢
  rw [hg] at h ⊢
  simp only [Option.bind_some] at h ⊢
  have hlt : g < w.heap.size := by
    rcases Nat.lt_or_ge g w.heap.size with h' | h'
    · exact h'
    · rw [Array.getElem?_eq_none h'] at h; cases h
  rw [hb.block g hlt]
  exact h

/-- What the writing of 0.5 and of 2 reads of the library's tables. -/
structure Tabs (W : World) : Prop where
  a0 : W.cell? ⟨13, 728, none⟩ = some (.int .u64 10240000000000000000)
  a1 : W.cell? ⟨13, 729, none⟩ = some (.int .u64 0)
  b0 : W.cell? ⟨13, 730, none⟩ = some (.int .u64 12800000000000000000)
  b1 : W.cell? ⟨13, 731, none⟩ = some (.int .u64 0)
  tab : Lib.TabIs Tryz.prog W "internal/strconv.uint64pow10" .u64 Lib.pow10Tab
theorem Tabs.below {W W' : World} (h : Tabs W) (hb : Below W.heap.size W W') : Tabs W' :=
  ⟨(hb.cell (cell_in h.a0)).trans h.a0, (hb.cell (cell_in h.a1)).trans h.a1, (hb.cell (cell_in h.b0)).trans h.b0, (hb.cell (cell_in h.b1)).trans h.b1,
    var_below (g := 2) (by kernel_rfl) h.tab hb⟩

theorem buf_zero {W : World} {g : Nat} {t : TypeId} (h : W.heap[g]? = some (.cells (Array.replicate 32 (.int .u8 0)) t (0, 0))) (j : Nat) (hj : j < 16) : W.cell? ⟨g, j, none⟩ = some (.int .u8 0) ∧ W.frozen? ⟨g, j, none⟩ = false := by
  refine ⟨?_, blk_frozen h j⟩
  rw [blk_cell h j]
  have : j < (Array.replicate 32 (Value.int .u8 0)).size := by simp; omega
  rw [Array.getElem?_eq_getElem this]
  simp
theorem below_two {B : Nat} {w a b : World} (h : Below B w a) (k : Below B a b) : Below B w b :=
  ⟨k.os.trans h.os, k.tape.trans h.tape, k.output.trans h.output, Nat.le_trans h.size k.size, fun i hi => (k.block i hi).trans (h.block i hi)⟩
theorem out_start {base g : Nat} {v : Value} {W w : World} (ho : W.ownsRow base 5 1 v 0 []) (hb : Below W.heap.size W w) (hg : W.heap.size ≤ g) (hl : g < w.heap.size) (hbase : base ≤ W.heap.size) : Out w w base g v [] :=
  ⟨own_save ho (Save.of (S := fun _ => False) hb) (fun _ _ x => x), fun k hk e => by have := (own_under ho k hk).2; omega, Below.refl _ _, rfl, hl, Nat.le_trans hbase hb.size⟩
theorem cal94 (f : Nat) (W : World) : (callFunc 94 #[.float .f64 f]).run Tryz.prog W = .ok (.value (.int .u64 f)) W := by kernel_rfl


theorem nd_half : Lib.nDigits 5000000000000000 = 16 := by decide +kernel
theorem set_half (g : Nat) (W : World) (hz : ∀ j, j < 16 → W.cell? ⟨g, j, none⟩ = some (.int .u8 0) ∧ W.frozen? ⟨g, j, none⟩ = false) (hg : g < W.heap.size) :
    Calls Tryz.prog 99 #[.slice (some ⟨g, 0, none⟩) 32 32, .int .u64 5000000000000000, .int .i64 (-16), .int .i64 16] W fun e w' => e = .returned (.tuple #[.int .i64 0, .int .i64 1]) ∧ w'.cell? ⟨g, 0, none⟩ = some (.int .u8 53) ∧ Save (fun k => k = g) W w' := by
  have h := digits99 g 32 16 5000000000000000 (-16) W (by decide) (by decide) (by decide) (by decide) (by decide) (by decide) hz hg
  refine h.mono ?_
  rintro e w' ⟨k, hk, he, hc, hz, hn, hs⟩
  have k1 : k = 1 := by
    have a : ∀ j : Fin 17, 2 ≤ j.val → Lib.dg 5000000000000000 (16 - j.val) = 48 := by decide +kernel
    have b : Lib.dg 5000000000000000 15 ≠ 48 := by decide +kernel
    rcases Nat.lt_or_ge k 2 with h2 | h2
    · rcases Nat.lt_or_ge 0 k with h0 | h0
      · omega
      · exact absurd (hz 0 (by omega) (by omega)) b
    · exact absurd (a ⟨k, by omega⟩ h2) (hn (by omega))
  subst k1
  exact ⟨he, hc 0 (by decide), hs⟩

set_option maxHeartbeats 8000000 in
set_option maxRecDepth 100000 in
theorem ftoa_half (base : Nat) (v : Value) (W : World) (T : Tabs W) (ho : W.ownsRow base 5 1 v 0 []) (hbase : base ≤ W.heap.size) :
    Calls Tryz.prog 82 #[v, .float .f64 4602678819172646912, .int .u8 103, .int .i64 (-1)] W fun e w' => ∃ v', e = .returned v' ∧ w'.ownsRow base 5 1 v' 3 (nums .u8 [48, 46, 53]) ∧ Below base W w' := by
  have c1 := cal94 4602678819172646912
  have c2 : ∀ W, Calls Tryz.prog 84 #[.int .u64 4503599627370496] W (fun e w' => e = .returned (.int .i64 53) ∧ w' = W) := fun W => by
    have h := Tryz.bits_Len64 4503599627370496 W (by decide) (by decide)
    rwa [show Lib.bitLen (Int.toNat 4503599627370496) = 53 by decide +kernel] at h
  have c3 : ∀ W, Tabs W → Calls Tryz.prog 104 #[.int .u64 9223372036854775808, .int .i64 (-64)] W (fun e w' => e = .returned (.tuple #[.int .u64 5000000000000000, .int .i64 (-16)]) ∧ Below W.heap.size W w') := fun W T => short_half W T.b0 T.b1
  have c4 : ∀ W, Tabs W → Calls Tryz.prog 73 #[.int .u64 5000000000000000] W (fun e w' => e = .returned (.int .i64 16) ∧ w' = W) := fun W T => by
    have h := Tryz.internal_strconv_numDigits 5000000000000000 (by decide) (by decide) W T.tab
    rwa [nd_half] at h
  have f1 : bits .and .i64 1022 2047 = 1022 := by decide +kernel
  have f2 : bits .and .u64 4602678819172646912 4503599627370495 = 0 := by decide +kernel
  have f3 : bits .or .u64 0 4503599627370496 = 4503599627370496 := by decide +kernel
  have HT := Aside0.mk T
  have HO := Aside0.mk ho
  have HC := Aside0.mk c3
  have HC4 := Aside0.mk c4
  have HBs := Aside0.mk hbase
  clear T ho c3 c4 hbase
  go_enter Tryz.func82, Tryz.ntmps82
  go_upto_region 14 with (fail)
  go_quiet (fail)
  obtain ⟨w0, hw0⟩ : ∃ w0, w0 = W.drewN nq := ⟨_, rfl⟩
  rw [← hw0]
  have HB := Aside0.mk (show Below W.heap.size W w0 by rw [hw0]; exact pw_below_drewN (Below.refl _ _) _)
  clear hw0
  go_upto_region 38 with (first
    | ((with_reducible refine gate_dst (N := 16) rfl ?_); refine box_event ?hg (N := 16) ?hd (cs := Array.replicate 32 (.int .u8 0)) (t := 111) ?hr ?_; (case hd => rfl); (case hg => rfl); (case hr => first | (go_simp; done) | (go_simp; rfl)); intro g hg w1 hbox hb; have HG := Aside0.mk (show W.heap.size ≤ g by have := HB.out.size; omega); have K := Aside0.mk hbox; have HB := Aside0.mk (below_step HB.out hb); clear hg hbox hb)
    | (go_at_call 84; with_reducible refine (c2 _).mono ?_; rintro e w1 ⟨rfl, hw⟩; rw [hw]; clear hw w1)
    | (go_at_call 104; with_reducible refine (HC.out _ (HT.out.below HB.out)).mono ?_; rintro e w2 ⟨rfl, hb⟩; have K := Aside0.mk (blk_below K.out hb); have HB := Aside0.mk (below_step HB.out hb); clear hb))
  have KZ := Aside0.mk (show ∀ w' : World, w'.heap[g]? = w2.heap[g]? → (∀ j, j < 16 → w'.cell? ⟨g, j, none⟩ = some (.int .u8 0) ∧ w'.frozen? ⟨g, j, none⟩ = false) from fun w' hw => buf_zero (hw.trans K.out))
  have HL := Aside0.mk (blk_lt K.out)
  go_region_held3 (fun _ => True) (exact trivial) (first
    | (go_at_call 73; refine (HC4.out _ (HT.out.below HB.out)).mono ?_; rintro e w3 ⟨rfl, hw⟩; rw [hw]; clear hw w3)
    | (go_at_call 73; refine (HC4.out _ (HT.out.below HB.out.drew)).mono ?_; rintro e w3 ⟨rfl, hw⟩; rw [hw]; clear hw w3)
    | (go_at_call 99; refine (set_half g w2.drew (KZ.out w2.drew rfl) HL.out).mono ?_; rintro e w4 ⟨rfl, hc, hs⟩; have HQ := Aside0.mk hc; have HB := Aside0.mk (below_keep (HB.out.drew) HG.out hs); clear hc hs))
  go_wp2_with (go_at_call 97; refine (efg_half base g v _ (out_start HO.out HB.out HG.out (cell_in HQ.out) HBs.out) HQ.out).mono ?_; rintro e w5 ⟨v5, rfl, ho⟩; have HF := Aside0.mk ho; clear ho)
  go_ret
  exact ⟨_, rfl, HF.out.own, below_two (HB.out.mono HBs.out) HF.out.below⟩

theorem nd_two : Lib.nDigits 2000000000000000 = 16 := by decide +kernel
theorem set_two (g : Nat) (W : World) (hz : ∀ j, j < 16 → W.cell? ⟨g, j, none⟩ = some (.int .u8 0) ∧ W.frozen? ⟨g, j, none⟩ = false) (hg : g < W.heap.size) :
    Calls Tryz.prog 99 #[.slice (some ⟨g, 0, none⟩) 32 32, .int .u64 2000000000000000, .int .i64 (-15), .int .i64 16] W fun e w' => e = .returned (.tuple #[.int .i64 1, .int .i64 1]) ∧ w'.cell? ⟨g, 0, none⟩ = some (.int .u8 50) ∧ Save (fun k => k = g) W w' := by
  have h := digits99 g 32 16 2000000000000000 (-15) W (by decide) (by decide) (by decide) (by decide) (by decide) (by decide) hz hg
  refine h.mono ?_
  rintro e w' ⟨k, hk, he, hc, hz, hn, hs⟩
  have k1 : k = 1 := by
    have a : ∀ j : Fin 17, 2 ≤ j.val → Lib.dg 2000000000000000 (16 - j.val) = 48 := by decide +kernel
    have b : Lib.dg 2000000000000000 15 ≠ 48 := by decide +kernel
    rcases Nat.lt_or_ge k 2 with h2 | h2
    · rcases Nat.lt_or_ge 0 k with h0 | h0
      · omega
      · exact absurd (hz 0 (by omega) (by omega)) b
    · exact absurd (a ⟨k, by omega⟩ h2) (hn (by omega))
  subst k1
  exact ⟨he, hc 0 (by decide), hs⟩

set_option maxHeartbeats 8000000 in
set_option maxRecDepth 100000 in
theorem ftoa_two (base : Nat) (v : Value) (W : World) (T : Tabs W) (ho : W.ownsRow base 5 1 v 0 []) (hbase : base ≤ W.heap.size) :
    Calls Tryz.prog 82 #[v, .float .f64 4611686018427387904, .int .u8 103, .int .i64 (-1)] W fun e w' => ∃ v', e = .returned v' ∧ w'.ownsRow base 5 1 v' 1 (nums .u8 [50]) ∧ Below base W w' := by
  have c1 := cal94 4611686018427387904
  have c2 : ∀ W, Calls Tryz.prog 84 #[.int .u64 4503599627370496] W (fun e w' => e = .returned (.int .i64 53) ∧ w' = W) := fun W => by
    have h := Tryz.bits_Len64 4503599627370496 W (by decide) (by decide)
    rwa [show Lib.bitLen (Int.toNat 4503599627370496) = 53 by decide +kernel] at h
  have c3 : ∀ W, Tabs W → Calls Tryz.prog 104 #[.int .u64 9223372036854775808, .int .i64 (-62)] W (fun e w' => e = .returned (.tuple #[.int .u64 2000000000000000, .int .i64 (-15)]) ∧ Below W.heap.size W w') := fun W T => short_two W T.a0 T.a1
  have c4 : ∀ W, Tabs W → Calls Tryz.prog 73 #[.int .u64 2000000000000000] W (fun e w' => e = .returned (.int .i64 16) ∧ w' = W) := fun W T => by
    have h := Tryz.internal_strconv_numDigits 2000000000000000 (by decide) (by decide) W T.tab
    rwa [nd_two] at h
  have f1 : bits .and .i64 1024 2047 = 1024 := by decide +kernel
  have f2 : bits .and .u64 4611686018427387904 4503599627370495 = 0 := by decide +kernel
  have f3 : bits .or .u64 0 4503599627370496 = 4503599627370496 := by decide +kernel
  have HT := Aside0.mk T
  have HO := Aside0.mk ho
  have HC := Aside0.mk c3
  have HC4 := Aside0.mk c4
  have HBs := Aside0.mk hbase
  clear T ho c3 c4 hbase
  go_enter Tryz.func82, Tryz.ntmps82
  go_upto_region 14 with (fail)
  go_quiet (fail)
  obtain ⟨w0, hw0⟩ : ∃ w0, w0 = W.drewN nq := ⟨_, rfl⟩
  rw [← hw0]
  have HB := Aside0.mk (show Below W.heap.size W w0 by rw [hw0]; exact pw_below_drewN (Below.refl _ _) _)
  clear hw0
  go_upto_region 38 with (first
    | ((with_reducible refine gate_dst (N := 16) rfl ?_); refine box_event ?hg (N := 16) ?hd (cs := Array.replicate 32 (.int .u8 0)) (t := 111) ?hr ?_; (case hd => rfl); (case hg => rfl); (case hr => first | (go_simp; done) | (go_simp; rfl)); intro g hg w1 hbox hb; have HG := Aside0.mk (show W.heap.size ≤ g by have := HB.out.size; omega); have K := Aside0.mk hbox; have HB := Aside0.mk (below_step HB.out hb); clear hg hbox hb)
    | (go_at_call 84; with_reducible refine (c2 _).mono ?_; rintro e w1 ⟨rfl, hw⟩; rw [hw]; clear hw w1)
    | (go_at_call 104; with_reducible refine (HC.out _ (HT.out.below HB.out)).mono ?_; rintro e w2 ⟨rfl, hb⟩; have K := Aside0.mk (blk_below K.out hb); have HB := Aside0.mk (below_step HB.out hb); clear hb))
  have KZ := Aside0.mk (show ∀ w' : World, w'.heap[g]? = w2.heap[g]? → (∀ j, j < 16 → w'.cell? ⟨g, j, none⟩ = some (.int .u8 0) ∧ w'.frozen? ⟨g, j, none⟩ = false) from fun w' hw => buf_zero (hw.trans K.out))
  have HL := Aside0.mk (blk_lt K.out)
  go_region_held3 (fun _ => True) (exact trivial) (first
    | (go_at_call 73; refine (HC4.out _ (HT.out.below HB.out)).mono ?_; rintro e w3 ⟨rfl, hw⟩; rw [hw]; clear hw w3)
    | (go_at_call 73; refine (HC4.out _ (HT.out.below HB.out.drew)).mono ?_; rintro e w3 ⟨rfl, hw⟩; rw [hw]; clear hw w3)
    | (go_at_call 99; refine (set_two g w2.drew (KZ.out w2.drew rfl) HL.out).mono ?_; rintro e w4 ⟨rfl, hc, hs⟩; have HQ := Aside0.mk hc; have HB := Aside0.mk (below_keep (HB.out.drew) HG.out hs); clear hc hs))
  go_wp2_with (go_at_call 97; refine (efg_two base g v _ (out_start HO.out HB.out HG.out (cell_in HQ.out) HBs.out) HQ.out).mono ?_; rintro e w5 ⟨v5, rfl, ho⟩; have HF := Aside0.mk ho; clear ho)
  go_ret
  exact ⟨_, rfl, HF.out.own, below_two (HB.out.mono HBs.out) HF.out.below⟩
end Go.Proofs.YtejfmghjmhiodaaGreatDoor.Vz
