/- Lemmas of the proof, part 3 of 4. -/
import Derived.Deep.RegionHeld3
import Derived.Laws.StructEq
import Derived.Test.YtejfmghjmhiodaaGreatDoorPkLists1
import Derived.Test.YtejfmghjmhiodaaGreatDoorPkLists2
namespace Go.Proofs.YtejfmghjmhiodaaGreatDoor.Vz
open Go.RowKit Go.Proofs.YtejfmghjmhiodaaGreatDoorW.PrintWords
set_option linter.unusedVariables false
set_option linter.unusedSimpArgs false
attribute [local go_sem] store_float

set_option maxHeartbeats 8000000 in
set_option maxRecDepth 100000 in
theorem equal13_ne (k i : Int) (f : Nat) (s : ByteArray) (l : List Val) (A : Option Addr) (c : Nat) (k2 i2 : Int) (f2 : Nat) (s2 : ByteArray) (l2 : List Val) (A2 : Option Addr) (c2 : Nat) (W : World) (ok ok2 : Nat → Prop)
    (hR : RV W ok (.mk k i f s l) #[.int .i64 k, .int .i64 i, .float .f64 f, .string s, .slice A l.length c]) (hR2 : RV W ok2 (.mk k2 i2 f2 s2 l2) #[.int .i64 k2, .int .i64 i2, .float .f64 f2, .string s2, .slice A2 l2.length c2]) (hc0 : kindV k ≠ kindV k2) :
    Calls Tryz.prog 13 #[.agg #[.int .i64 k, .int .i64 i, .float .f64 f, .string s, .slice A l.length c], .agg #[.int .i64 k2, .int .i64 i2, .float .f64 f2, .string s2, .slice A2 l2.length c2]] W fun e w' => e = .returned (.bool false) ∧ Below W.heap.size W w' := by
  have HR := Aside0.mk hR
  have HR2 := Aside0.mk hR2
  clear hR hR2
  obtain ⟨K, hK⟩ : ∃ K, kindV k = K := ⟨_, rfl⟩
  obtain ⟨K2, hK2⟩ : ∃ K2, kindV k2 = K2 := ⟨_, rfl⟩
  have h31 := fun W => kind31 k i f s A l.length c W
  have h31b := fun W => kind31 k2 i2 f2 s2 A2 l2.length c2 W
  rw [hK] at h31
  rw [hK2] at h31b
  have H31 := Aside0.mk h31
  have H31b := Aside0.mk h31b
  have HK := Aside0.mk hK
  have HK2 := Aside0.mk hK2
  clear h31 h31b
  rw [hK, hK2] at hc0
  have HC0 := Aside0.mk hc0
  clear hK hK2 hc0
  go_enter Tryz.func13, Tryz.ntmps13
  go_upto_region 1 with (first
    | ((with_reducible refine gate_dst (N := 2) rfl ?_); refine box_event ?hg (N := 2) ?hd (cs := #[.int .i64 k, .int .i64 i, .float .f64 f, .string s, .slice A l.length c]) (t := 25) ?hr ?_; (case hd => rfl); (case hg => rfl); (case hr => first | (go_simp; done) | (go_simp; rfl)); intro ga hg w1 hbox hb; have HB := Aside0.mk hb; have KA := Aside0.mk hbox; clear hg hbox hb)
    | ((with_reducible refine gate_dst (N := 3) rfl ?_); refine box_event ?hg (N := 3) ?hd (cs := #[.int .i64 k2, .int .i64 i2, .float .f64 f2, .string s2, .slice A2 l2.length c2]) (t := 25) ?hr ?_; (case hd => rfl); (case hg => rfl); (case hr => first | (go_simp; done) | (go_simp; rfl)); intro gb hg w2 hbox hb; have KA := Aside0.mk (blk_below KA.out hb); have KB := Aside0.mk hbox; have HB := Aside0.mk (below_step HB.out hb); clear hg hbox hb))
  have a0 : w2.cell? ⟨ga, 0, none⟩ = some (.int .i64 k) := blk_cell KA.out 0
  have a1 : w2.cell? ⟨ga, 1, none⟩ = some (.int .i64 i) := blk_cell KA.out 1
  have a2 : w2.cell? ⟨ga, 2, none⟩ = some (.float .f64 f) := blk_cell KA.out 2
  have a3 : w2.cell? ⟨ga, 3, none⟩ = some (.string s) := blk_cell KA.out 3
  have a4 : w2.cell? ⟨ga, 4, none⟩ = some (.slice A l.length c) := blk_cell KA.out 4
  have b0 : w2.cell? ⟨gb, 0, none⟩ = some (.int .i64 k2) := blk_cell KB.out 0
  have b1 : w2.cell? ⟨gb, 1, none⟩ = some (.int .i64 i2) := blk_cell KB.out 1
  have b2 : w2.cell? ⟨gb, 2, none⟩ = some (.float .f64 f2) := blk_cell KB.out 2
  have b3 : w2.cell? ⟨gb, 3, none⟩ = some (.string s2) := blk_cell KB.out 3
  have b4 : w2.cell? ⟨gb, 4, none⟩ = some (.slice A2 l2.length c2) := blk_cell KB.out 4
  go_region_held3 (fun w' => w'.cell? ⟨ga, 0, none⟩ = some (.int .i64 k) ∧ w'.cell? ⟨ga, 1, none⟩ = some (.int .i64 i) ∧ w'.cell? ⟨ga, 2, none⟩ = some (.float .f64 f) ∧ w'.cell? ⟨ga, 3, none⟩ = some (.string s) ∧ w'.cell? ⟨ga, 4, none⟩ = some (.slice A l.length c) ∧ w'.cell? ⟨gb, 0, none⟩ = some (.int .i64 k2) ∧ w'.cell? ⟨gb, 1, none⟩ = some (.int .i64 i2) ∧ w'.cell? ⟨gb, 2, none⟩ = some (.float .f64 f2) ∧ w'.cell? ⟨gb, 3, none⟩ = some (.string s2) ∧ w'.cell? ⟨gb, 4, none⟩ = some (.slice A2 l2.length c2)) (first | exact tenO (W := w2.drew) KA.out KB.out (below_step hb1 hb2) | exact tenO (W := w2.drew) KA.out KB.out hb1 | exact ⟨a0, a1, a2, a3, a4, b0, b1, b2, b3, b4⟩)
    (first
      | (go_at_call 31; have tok := hb1; refine (H31b.out _).mono ?_; clear tok; rintro e w4 ⟨rfl, hb2⟩)
      | (go_at_call 31; refine (H31.out _).mono ?_; rintro e w3 ⟨rfl, hb1⟩))
  have HB4 := Aside0.mk (below_step (below_step HB.out.drew hb1) hb2)
  have KA4 := Aside0.mk (blk_below (w := w2.drew) KA.out (below_step hb1 hb2))
  have KB4 := Aside0.mk (blk_below (w := w2.drew) KB.out (below_step hb1 hb2))
  have H31c := Aside0.mk H31.out
  (try clear hHeld)
  clear hb1 hb2 a0 a1 a2 a3 a4 b0 b1 b2 b3 b4 KA KB HB
  have hc1 : (K != K2) = true := bne_iff_ne.2 HC0.out
  go_wp2
  go_ret
  exact ⟨rfl, HB4.out⟩

set_option maxHeartbeats 8000000 in
set_option maxRecDepth 100000 in
theorem equal13_1 (k i : Int) (f : Nat) (s : ByteArray) (l : List Val) (A : Option Addr) (c : Nat) (k2 i2 : Int) (f2 : Nat) (s2 : ByteArray) (l2 : List Val) (A2 : Option Addr) (c2 : Nat) (W : World) (ok ok2 : Nat → Prop)
    (hR : RV W ok (.mk k i f s l) #[.int .i64 k, .int .i64 i, .float .f64 f, .string s, .slice A l.length c]) (hR2 : RV W ok2 (.mk k2 i2 f2 s2 l2) #[.int .i64 k2, .int .i64 i2, .float .f64 f2, .string s2, .slice A2 l2.length c2]) (hc0 : kindV k = kindV k2) (hkn : kindV k = 1) :
    Calls Tryz.prog 13 #[.agg #[.int .i64 k, .int .i64 i, .float .f64 f, .string s, .slice A l.length c], .agg #[.int .i64 k2, .int .i64 i2, .float .f64 f2, .string s2, .slice A2 l2.length c2]] W fun e w' => e = .returned (.bool (decide (i = i2))) ∧ Below W.heap.size W w' := by
  have HR := Aside0.mk hR
  have HR2 := Aside0.mk hR2
  clear hR hR2
  obtain ⟨K, hK⟩ : ∃ K, kindV k = K := ⟨_, rfl⟩
  obtain ⟨K2, hK2⟩ : ∃ K2, kindV k2 = K2 := ⟨_, rfl⟩
  have h31 := fun W => kind31 k i f s A l.length c W
  have h31b := fun W => kind31 k2 i2 f2 s2 A2 l2.length c2 W
  rw [hK] at h31
  rw [hK2] at h31b
  have H31 := Aside0.mk h31
  have H31b := Aside0.mk h31b
  have HK := Aside0.mk hK
  have HK2 := Aside0.mk hK2
  clear h31 h31b
  rw [hK, hK2] at hc0
  have HC0 := Aside0.mk hc0
  clear hK hK2 hc0
  go_enter Tryz.func13, Tryz.ntmps13
  go_upto_region 1 with (first
    | ((with_reducible refine gate_dst (N := 2) rfl ?_); refine box_event ?hg (N := 2) ?hd (cs := #[.int .i64 k, .int .i64 i, .float .f64 f, .string s, .slice A l.length c]) (t := 25) ?hr ?_; (case hd => rfl); (case hg => rfl); (case hr => first | (go_simp; done) | (go_simp; rfl)); intro ga hg w1 hbox hb; have HB := Aside0.mk hb; have KA := Aside0.mk hbox; clear hg hbox hb)
    | ((with_reducible refine gate_dst (N := 3) rfl ?_); refine box_event ?hg (N := 3) ?hd (cs := #[.int .i64 k2, .int .i64 i2, .float .f64 f2, .string s2, .slice A2 l2.length c2]) (t := 25) ?hr ?_; (case hd => rfl); (case hg => rfl); (case hr => first | (go_simp; done) | (go_simp; rfl)); intro gb hg w2 hbox hb; have KA := Aside0.mk (blk_below KA.out hb); have KB := Aside0.mk hbox; have HB := Aside0.mk (below_step HB.out hb); clear hg hbox hb))
  have a0 : w2.cell? ⟨ga, 0, none⟩ = some (.int .i64 k) := blk_cell KA.out 0
  have a1 : w2.cell? ⟨ga, 1, none⟩ = some (.int .i64 i) := blk_cell KA.out 1
  have a2 : w2.cell? ⟨ga, 2, none⟩ = some (.float .f64 f) := blk_cell KA.out 2
  have a3 : w2.cell? ⟨ga, 3, none⟩ = some (.string s) := blk_cell KA.out 3
  have a4 : w2.cell? ⟨ga, 4, none⟩ = some (.slice A l.length c) := blk_cell KA.out 4
  have b0 : w2.cell? ⟨gb, 0, none⟩ = some (.int .i64 k2) := blk_cell KB.out 0
  have b1 : w2.cell? ⟨gb, 1, none⟩ = some (.int .i64 i2) := blk_cell KB.out 1
  have b2 : w2.cell? ⟨gb, 2, none⟩ = some (.float .f64 f2) := blk_cell KB.out 2
  have b3 : w2.cell? ⟨gb, 3, none⟩ = some (.string s2) := blk_cell KB.out 3
  have b4 : w2.cell? ⟨gb, 4, none⟩ = some (.slice A2 l2.length c2) := blk_cell KB.out 4
  go_region_held3 (fun w' => w'.cell? ⟨ga, 0, none⟩ = some (.int .i64 k) ∧ w'.cell? ⟨ga, 1, none⟩ = some (.int .i64 i) ∧ w'.cell? ⟨ga, 2, none⟩ = some (.float .f64 f) ∧ w'.cell? ⟨ga, 3, none⟩ = some (.string s) ∧ w'.cell? ⟨ga, 4, none⟩ = some (.slice A l.length c) ∧ w'.cell? ⟨gb, 0, none⟩ = some (.int .i64 k2) ∧ w'.cell? ⟨gb, 1, none⟩ = some (.int .i64 i2) ∧ w'.cell? ⟨gb, 2, none⟩ = some (.float .f64 f2) ∧ w'.cell? ⟨gb, 3, none⟩ = some (.string s2) ∧ w'.cell? ⟨gb, 4, none⟩ = some (.slice A2 l2.length c2)) (first | exact tenO (W := w2.drew) KA.out KB.out (below_step hb1 hb2) | exact tenO (W := w2.drew) KA.out KB.out hb1 | exact ⟨a0, a1, a2, a3, a4, b0, b1, b2, b3, b4⟩)
    (first
      | (go_at_call 31; have tok := hb1; refine (H31b.out _).mono ?_; clear tok; rintro e w4 ⟨rfl, hb2⟩)
      | (go_at_call 31; refine (H31.out _).mono ?_; rintro e w3 ⟨rfl, hb1⟩))
  have HB4 := Aside0.mk (below_step (below_step HB.out.drew hb1) hb2)
  have KA4 := Aside0.mk (blk_below (w := w2.drew) KA.out (below_step hb1 hb2))
  have KB4 := Aside0.mk (blk_below (w := w2.drew) KB.out (below_step hb1 hb2))
  have H31c := Aside0.mk H31.out
  (try clear hHeld)
  clear hb1 hb2 a0 a1 a2 a3 a4 b0 b1 b2 b3 b4 KA KB HB
  have hc1 : (K != K2) = false := by rw [HC0.out]; simp
  have a0 : w4.cell? ⟨ga, 0, none⟩ = some (.int .i64 k) := blk_cell KA4.out 0
  have a1 : w4.cell? ⟨ga, 1, none⟩ = some (.int .i64 i) := blk_cell KA4.out 1
  have a2 : w4.cell? ⟨ga, 2, none⟩ = some (.float .f64 f) := blk_cell KA4.out 2
  have a3 : w4.cell? ⟨ga, 3, none⟩ = some (.string s) := blk_cell KA4.out 3
  have a4 : w4.cell? ⟨ga, 4, none⟩ = some (.slice A l.length c) := blk_cell KA4.out 4
  have b0 : w4.cell? ⟨gb, 0, none⟩ = some (.int .i64 k2) := blk_cell KB4.out 0
  have b1 : w4.cell? ⟨gb, 1, none⟩ = some (.int .i64 i2) := blk_cell KB4.out 1
  have b2 : w4.cell? ⟨gb, 2, none⟩ = some (.float .f64 f2) := blk_cell KB4.out 2
  have b3 : w4.cell? ⟨gb, 3, none⟩ = some (.string s2) := blk_cell KB4.out 3
  have b4 : w4.cell? ⟨gb, 4, none⟩ = some (.slice A2 l2.length c2) := blk_cell KB4.out 4
  go_upto_region 4 with (first
    | (go_at_call 31; refine (H31c.out _).mono ?_; rintro e w6 ⟨rfl, hb⟩; have HB6 := Aside0.mk (below_step HB4.out hb); have KA6 := Aside0.mk (blk_below KA4.out hb); have KB6 := Aside0.mk (blk_below KB4.out hb); clear hb))
  clear a0 a1 a2 a3 a4 b0 b1 b2 b3 b4
  have a0 : w6.cell? ⟨ga, 0, none⟩ = some (.int .i64 k) := blk_cell KA6.out 0
  have a1 : w6.cell? ⟨ga, 1, none⟩ = some (.int .i64 i) := blk_cell KA6.out 1
  have a2 : w6.cell? ⟨ga, 2, none⟩ = some (.float .f64 f) := blk_cell KA6.out 2
  have a3 : w6.cell? ⟨ga, 3, none⟩ = some (.string s) := blk_cell KA6.out 3
  have a4 : w6.cell? ⟨ga, 4, none⟩ = some (.slice A l.length c) := blk_cell KA6.out 4
  have b0 : w6.cell? ⟨gb, 0, none⟩ = some (.int .i64 k2) := blk_cell KB6.out 0
  have b1 : w6.cell? ⟨gb, 1, none⟩ = some (.int .i64 i2) := blk_cell KB6.out 1
  have b2 : w6.cell? ⟨gb, 2, none⟩ = some (.float .f64 f2) := blk_cell KB6.out 2
  have b3 : w6.cell? ⟨gb, 3, none⟩ = some (.string s2) := blk_cell KB6.out 3
  have b4 : w6.cell? ⟨gb, 4, none⟩ = some (.slice A2 l2.length c2) := blk_cell KB6.out 4
  obtain rfl : K = 1 := HK.out.symm.trans hkn
  clear hkn
  go_wp2
  go_ret
  exact ⟨by first | rfl | (simp [Value.oneCell']; done) | (congr 2; simp [BEq.beq]), HB6.out⟩

set_option maxHeartbeats 8000000 in
set_option maxRecDepth 100000 in
theorem equal13_2a (k i : Int) (f : Nat) (s : ByteArray) (l : List Val) (A : Option Addr) (c : Nat) (k2 i2 : Int) (f2 : Nat) (s2 : ByteArray) (l2 : List Val) (A2 : Option Addr) (c2 : Nat) (W : World) (ok ok2 : Nat → Prop)
    (hR : RV W ok (.mk k i f s l) #[.int .i64 k, .int .i64 i, .float .f64 f, .string s, .slice A l.length c]) (hR2 : RV W ok2 (.mk k2 i2 f2 s2 l2) #[.int .i64 k2, .int .i64 i2, .float .f64 f2, .string s2, .slice A2 l2.length c2]) (hc0 : kindV k = kindV k2) (hkn : kindV k = 2) (he : (FloatKind.f64.format.order f f2 == some Ordering.eq) = true) :
    Calls Tryz.prog 13 #[.agg #[.int .i64 k, .int .i64 i, .float .f64 f, .string s, .slice A l.length c], .agg #[.int .i64 k2, .int .i64 i2, .float .f64 f2, .string s2, .slice A2 l2.length c2]] W fun e w' => e = .returned (.bool (true)) ∧ Below W.heap.size W w' := by
  have HR := Aside0.mk hR
  have HR2 := Aside0.mk hR2
  clear hR hR2
  obtain ⟨K, hK⟩ : ∃ K, kindV k = K := ⟨_, rfl⟩
  obtain ⟨K2, hK2⟩ : ∃ K2, kindV k2 = K2 := ⟨_, rfl⟩
  have h31 := fun W => kind31 k i f s A l.length c W
  have h31b := fun W => kind31 k2 i2 f2 s2 A2 l2.length c2 W
  rw [hK] at h31
  rw [hK2] at h31b
  have H31 := Aside0.mk h31
  have H31b := Aside0.mk h31b
  have HK := Aside0.mk hK
  have HK2 := Aside0.mk hK2
  clear h31 h31b
  rw [hK, hK2] at hc0
  have HC0 := Aside0.mk hc0
  clear hK hK2 hc0
  go_enter Tryz.func13, Tryz.ntmps13
  go_upto_region 1 with (first
    | ((with_reducible refine gate_dst (N := 2) rfl ?_); refine box_event ?hg (N := 2) ?hd (cs := #[.int .i64 k, .int .i64 i, .float .f64 f, .string s, .slice A l.length c]) (t := 25) ?hr ?_; (case hd => rfl); (case hg => rfl); (case hr => first | (go_simp; done) | (go_simp; rfl)); intro ga hg w1 hbox hb; have HB := Aside0.mk hb; have KA := Aside0.mk hbox; clear hg hbox hb)
    | ((with_reducible refine gate_dst (N := 3) rfl ?_); refine box_event ?hg (N := 3) ?hd (cs := #[.int .i64 k2, .int .i64 i2, .float .f64 f2, .string s2, .slice A2 l2.length c2]) (t := 25) ?hr ?_; (case hd => rfl); (case hg => rfl); (case hr => first | (go_simp; done) | (go_simp; rfl)); intro gb hg w2 hbox hb; have KA := Aside0.mk (blk_below KA.out hb); have KB := Aside0.mk hbox; have HB := Aside0.mk (below_step HB.out hb); clear hg hbox hb))
  have a0 : w2.cell? ⟨ga, 0, none⟩ = some (.int .i64 k) := blk_cell KA.out 0
  have a1 : w2.cell? ⟨ga, 1, none⟩ = some (.int .i64 i) := blk_cell KA.out 1
  have a2 : w2.cell? ⟨ga, 2, none⟩ = some (.float .f64 f) := blk_cell KA.out 2
  have a3 : w2.cell? ⟨ga, 3, none⟩ = some (.string s) := blk_cell KA.out 3
  have a4 : w2.cell? ⟨ga, 4, none⟩ = some (.slice A l.length c) := blk_cell KA.out 4
  have b0 : w2.cell? ⟨gb, 0, none⟩ = some (.int .i64 k2) := blk_cell KB.out 0
  have b1 : w2.cell? ⟨gb, 1, none⟩ = some (.int .i64 i2) := blk_cell KB.out 1
  have b2 : w2.cell? ⟨gb, 2, none⟩ = some (.float .f64 f2) := blk_cell KB.out 2
  have b3 : w2.cell? ⟨gb, 3, none⟩ = some (.string s2) := blk_cell KB.out 3
  have b4 : w2.cell? ⟨gb, 4, none⟩ = some (.slice A2 l2.length c2) := blk_cell KB.out 4
  go_region_held3 (fun w' => w'.cell? ⟨ga, 0, none⟩ = some (.int .i64 k) ∧ w'.cell? ⟨ga, 1, none⟩ = some (.int .i64 i) ∧ w'.cell? ⟨ga, 2, none⟩ = some (.float .f64 f) ∧ w'.cell? ⟨ga, 3, none⟩ = some (.string s) ∧ w'.cell? ⟨ga, 4, none⟩ = some (.slice A l.length c) ∧ w'.cell? ⟨gb, 0, none⟩ = some (.int .i64 k2) ∧ w'.cell? ⟨gb, 1, none⟩ = some (.int .i64 i2) ∧ w'.cell? ⟨gb, 2, none⟩ = some (.float .f64 f2) ∧ w'.cell? ⟨gb, 3, none⟩ = some (.string s2) ∧ w'.cell? ⟨gb, 4, none⟩ = some (.slice A2 l2.length c2)) (first | exact tenO (W := w2.drew) KA.out KB.out (below_step hb1 hb2) | exact tenO (W := w2.drew) KA.out KB.out hb1 | exact ⟨a0, a1, a2, a3, a4, b0, b1, b2, b3, b4⟩)
    (first
      | (go_at_call 31; have tok := hb1; refine (H31b.out _).mono ?_; clear tok; rintro e w4 ⟨rfl, hb2⟩)
      | (go_at_call 31; refine (H31.out _).mono ?_; rintro e w3 ⟨rfl, hb1⟩))
  have HB4 := Aside0.mk (below_step (below_step HB.out.drew hb1) hb2)
  have KA4 := Aside0.mk (blk_below (w := w2.drew) KA.out (below_step hb1 hb2))
  have KB4 := Aside0.mk (blk_below (w := w2.drew) KB.out (below_step hb1 hb2))
  have H31c := Aside0.mk H31.out
  (try clear hHeld)
  clear hb1 hb2 a0 a1 a2 a3 a4 b0 b1 b2 b3 b4 KA KB HB
  have hc1 : (K != K2) = false := by rw [HC0.out]; simp
  have a0 : w4.cell? ⟨ga, 0, none⟩ = some (.int .i64 k) := blk_cell KA4.out 0
  have a1 : w4.cell? ⟨ga, 1, none⟩ = some (.int .i64 i) := blk_cell KA4.out 1
  have a2 : w4.cell? ⟨ga, 2, none⟩ = some (.float .f64 f) := blk_cell KA4.out 2
  have a3 : w4.cell? ⟨ga, 3, none⟩ = some (.string s) := blk_cell KA4.out 3
  have a4 : w4.cell? ⟨ga, 4, none⟩ = some (.slice A l.length c) := blk_cell KA4.out 4
  have b0 : w4.cell? ⟨gb, 0, none⟩ = some (.int .i64 k2) := blk_cell KB4.out 0
  have b1 : w4.cell? ⟨gb, 1, none⟩ = some (.int .i64 i2) := blk_cell KB4.out 1
  have b2 : w4.cell? ⟨gb, 2, none⟩ = some (.float .f64 f2) := blk_cell KB4.out 2
  have b3 : w4.cell? ⟨gb, 3, none⟩ = some (.string s2) := blk_cell KB4.out 3
  have b4 : w4.cell? ⟨gb, 4, none⟩ = some (.slice A2 l2.length c2) := blk_cell KB4.out 4
  go_upto_region 4 with (first
    | (go_at_call 31; refine (H31c.out _).mono ?_; rintro e w6 ⟨rfl, hb⟩; have HB6 := Aside0.mk (below_step HB4.out hb); have KA6 := Aside0.mk (blk_below KA4.out hb); have KB6 := Aside0.mk (blk_below KB4.out hb); clear hb))
  clear a0 a1 a2 a3 a4 b0 b1 b2 b3 b4
  have a0 : w6.cell? ⟨ga, 0, none⟩ = some (.int .i64 k) := blk_cell KA6.out 0
  have a1 : w6.cell? ⟨ga, 1, none⟩ = some (.int .i64 i) := blk_cell KA6.out 1
  have a2 : w6.cell? ⟨ga, 2, none⟩ = some (.float .f64 f) := blk_cell KA6.out 2
  have a3 : w6.cell? ⟨ga, 3, none⟩ = some (.string s) := blk_cell KA6.out 3
  have a4 : w6.cell? ⟨ga, 4, none⟩ = some (.slice A l.length c) := blk_cell KA6.out 4
  have b0 : w6.cell? ⟨gb, 0, none⟩ = some (.int .i64 k2) := blk_cell KB6.out 0
  have b1 : w6.cell? ⟨gb, 1, none⟩ = some (.int .i64 i2) := blk_cell KB6.out 1
  have b2 : w6.cell? ⟨gb, 2, none⟩ = some (.float .f64 f2) := blk_cell KB6.out 2
  have b3 : w6.cell? ⟨gb, 3, none⟩ = some (.string s2) := blk_cell KB6.out 3
  have b4 : w6.cell? ⟨gb, 4, none⟩ = some (.slice A2 l2.length c2) := blk_cell KB6.out 4
  obtain rfl : K = 2 := HK.out.symm.trans hkn
  clear hkn
  go_wp2
  go_ret
  exact ⟨rfl, HB6.out⟩

set_option maxHeartbeats 8000000 in
set_option maxRecDepth 100000 in
theorem equal13_2b (k i : Int) (f : Nat) (s : ByteArray) (l : List Val) (A : Option Addr) (c : Nat) (k2 i2 : Int) (f2 : Nat) (s2 : ByteArray) (l2 : List Val) (A2 : Option Addr) (c2 : Nat) (W : World) (ok ok2 : Nat → Prop)
    (hR : RV W ok (.mk k i f s l) #[.int .i64 k, .int .i64 i, .float .f64 f, .string s, .slice A l.length c]) (hR2 : RV W ok2 (.mk k2 i2 f2 s2 l2) #[.int .i64 k2, .int .i64 i2, .float .f64 f2, .string s2, .slice A2 l2.length c2]) (hc0 : kindV k = kindV k2) (hkn : kindV k = 2) (he : (FloatKind.f64.format.order f f2 == some Ordering.eq) = false) (hn : isNan f = false) :
    Calls Tryz.prog 13 #[.agg #[.int .i64 k, .int .i64 i, .float .f64 f, .string s, .slice A l.length c], .agg #[.int .i64 k2, .int .i64 i2, .float .f64 f2, .string s2, .slice A2 l2.length c2]] W fun e w' => e = .returned (.bool (false)) ∧ Below W.heap.size W w' := by
  have h1 := Aside0.mk (fun W => isNaN36 f W)
  rw [hn] at h1
  clear hn
  have HR := Aside0.mk hR
  have HR2 := Aside0.mk hR2
  clear hR hR2
  obtain ⟨K, hK⟩ : ∃ K, kindV k = K := ⟨_, rfl⟩
  obtain ⟨K2, hK2⟩ : ∃ K2, kindV k2 = K2 := ⟨_, rfl⟩
  have h31 := fun W => kind31 k i f s A l.length c W
  have h31b := fun W => kind31 k2 i2 f2 s2 A2 l2.length c2 W
  rw [hK] at h31
  rw [hK2] at h31b
  have H31 := Aside0.mk h31
  have H31b := Aside0.mk h31b
  have HK := Aside0.mk hK
  have HK2 := Aside0.mk hK2
  clear h31 h31b
  rw [hK, hK2] at hc0
  have HC0 := Aside0.mk hc0
  clear hK hK2 hc0
  go_enter Tryz.func13, Tryz.ntmps13
  go_upto_region 1 with (first
    | ((with_reducible refine gate_dst (N := 2) rfl ?_); refine box_event ?hg (N := 2) ?hd (cs := #[.int .i64 k, .int .i64 i, .float .f64 f, .string s, .slice A l.length c]) (t := 25) ?hr ?_; (case hd => rfl); (case hg => rfl); (case hr => first | (go_simp; done) | (go_simp; rfl)); intro ga hg w1 hbox hb; have HB := Aside0.mk hb; have KA := Aside0.mk hbox; clear hg hbox hb)
    | ((with_reducible refine gate_dst (N := 3) rfl ?_); refine box_event ?hg (N := 3) ?hd (cs := #[.int .i64 k2, .int .i64 i2, .float .f64 f2, .string s2, .slice A2 l2.length c2]) (t := 25) ?hr ?_; (case hd => rfl); (case hg => rfl); (case hr => first | (go_simp; done) | (go_simp; rfl)); intro gb hg w2 hbox hb; have KA := Aside0.mk (blk_below KA.out hb); have KB := Aside0.mk hbox; have HB := Aside0.mk (below_step HB.out hb); clear hg hbox hb))
  have a0 : w2.cell? ⟨ga, 0, none⟩ = some (.int .i64 k) := blk_cell KA.out 0
  have a1 : w2.cell? ⟨ga, 1, none⟩ = some (.int .i64 i) := blk_cell KA.out 1
  have a2 : w2.cell? ⟨ga, 2, none⟩ = some (.float .f64 f) := blk_cell KA.out 2
  have a3 : w2.cell? ⟨ga, 3, none⟩ = some (.string s) := blk_cell KA.out 3
  have a4 : w2.cell? ⟨ga, 4, none⟩ = some (.slice A l.length c) := blk_cell KA.out 4
  have b0 : w2.cell? ⟨gb, 0, none⟩ = some (.int .i64 k2) := blk_cell KB.out 0
  have b1 : w2.cell? ⟨gb, 1, none⟩ = some (.int .i64 i2) := blk_cell KB.out 1
  have b2 : w2.cell? ⟨gb, 2, none⟩ = some (.float .f64 f2) := blk_cell KB.out 2
  have b3 : w2.cell? ⟨gb, 3, none⟩ = some (.string s2) := blk_cell KB.out 3
  have b4 : w2.cell? ⟨gb, 4, none⟩ = some (.slice A2 l2.length c2) := blk_cell KB.out 4
  go_region_held3 (fun w' => w'.cell? ⟨ga, 0, none⟩ = some (.int .i64 k) ∧ w'.cell? ⟨ga, 1, none⟩ = some (.int .i64 i) ∧ w'.cell? ⟨ga, 2, none⟩ = some (.float .f64 f) ∧ w'.cell? ⟨ga, 3, none⟩ = some (.string s) ∧ w'.cell? ⟨ga, 4, none⟩ = some (.slice A l.length c) ∧ w'.cell? ⟨gb, 0, none⟩ = some (.int .i64 k2) ∧ w'.cell? ⟨gb, 1, none⟩ = some (.int .i64 i2) ∧ w'.cell? ⟨gb, 2, none⟩ = some (.float .f64 f2) ∧ w'.cell? ⟨gb, 3, none⟩ = some (.string s2) ∧ w'.cell? ⟨gb, 4, none⟩ = some (.slice A2 l2.length c2)) (first | exact tenO (W := w2.drew) KA.out KB.out (below_step hb1 hb2) | exact tenO (W := w2.drew) KA.out KB.out hb1 | exact ⟨a0, a1, a2, a3, a4, b0, b1, b2, b3, b4⟩)
    (first
      | (go_at_call 31; have tok := hb1; refine (H31b.out _).mono ?_; clear tok; rintro e w4 ⟨rfl, hb2⟩)
      | (go_at_call 31; refine (H31.out _).mono ?_; rintro e w3 ⟨rfl, hb1⟩))
  have HB4 := Aside0.mk (below_step (below_step HB.out.drew hb1) hb2)
  have KA4 := Aside0.mk (blk_below (w := w2.drew) KA.out (below_step hb1 hb2))
  have KB4 := Aside0.mk (blk_below (w := w2.drew) KB.out (below_step hb1 hb2))
  have H31c := Aside0.mk H31.out
  (try clear hHeld)
  clear hb1 hb2 a0 a1 a2 a3 a4 b0 b1 b2 b3 b4 KA KB HB
  have hc1 : (K != K2) = false := by rw [HC0.out]; simp
  have a0 : w4.cell? ⟨ga, 0, none⟩ = some (.int .i64 k) := blk_cell KA4.out 0
  have a1 : w4.cell? ⟨ga, 1, none⟩ = some (.int .i64 i) := blk_cell KA4.out 1
  have a2 : w4.cell? ⟨ga, 2, none⟩ = some (.float .f64 f) := blk_cell KA4.out 2
  have a3 : w4.cell? ⟨ga, 3, none⟩ = some (.string s) := blk_cell KA4.out 3
  have a4 : w4.cell? ⟨ga, 4, none⟩ = some (.slice A l.length c) := blk_cell KA4.out 4
  have b0 : w4.cell? ⟨gb, 0, none⟩ = some (.int .i64 k2) := blk_cell KB4.out 0
  have b1 : w4.cell? ⟨gb, 1, none⟩ = some (.int .i64 i2) := blk_cell KB4.out 1
  have b2 : w4.cell? ⟨gb, 2, none⟩ = some (.float .f64 f2) := blk_cell KB4.out 2
  have b3 : w4.cell? ⟨gb, 3, none⟩ = some (.string s2) := blk_cell KB4.out 3
  have b4 : w4.cell? ⟨gb, 4, none⟩ = some (.slice A2 l2.length c2) := blk_cell KB4.out 4
  go_upto_region 4 with (first
    | (go_at_call 31; refine (H31c.out _).mono ?_; rintro e w6 ⟨rfl, hb⟩; have HB6 := Aside0.mk (below_step HB4.out hb); have KA6 := Aside0.mk (blk_below KA4.out hb); have KB6 := Aside0.mk (blk_below KB4.out hb); clear hb))
  clear a0 a1 a2 a3 a4 b0 b1 b2 b3 b4
  have a0 : w6.cell? ⟨ga, 0, none⟩ = some (.int .i64 k) := blk_cell KA6.out 0
  have a1 : w6.cell? ⟨ga, 1, none⟩ = some (.int .i64 i) := blk_cell KA6.out 1
  have a2 : w6.cell? ⟨ga, 2, none⟩ = some (.float .f64 f) := blk_cell KA6.out 2
  have a3 : w6.cell? ⟨ga, 3, none⟩ = some (.string s) := blk_cell KA6.out 3
  have a4 : w6.cell? ⟨ga, 4, none⟩ = some (.slice A l.length c) := blk_cell KA6.out 4
  have b0 : w6.cell? ⟨gb, 0, none⟩ = some (.int .i64 k2) := blk_cell KB6.out 0
  have b1 : w6.cell? ⟨gb, 1, none⟩ = some (.int .i64 i2) := blk_cell KB6.out 1
  have b2 : w6.cell? ⟨gb, 2, none⟩ = some (.float .f64 f2) := blk_cell KB6.out 2
  have b3 : w6.cell? ⟨gb, 3, none⟩ = some (.string s2) := blk_cell KB6.out 3
  have b4 : w6.cell? ⟨gb, 4, none⟩ = some (.slice A2 l2.length c2) := blk_cell KB6.out 4
  obtain rfl : K = 2 := HK.out.symm.trans hkn
  clear hkn
  go_wp2_with (first | (go_at_call 36; with_reducible refine (h1.out _).mono ?_; rintro e w7 ⟨rfl, hw⟩; rw [hw]; clear hw w7))
  go_ret
  exact ⟨rfl, HB6.out⟩

set_option maxHeartbeats 8000000 in
set_option maxRecDepth 100000 in
theorem equal13_2c (k i : Int) (f : Nat) (s : ByteArray) (l : List Val) (A : Option Addr) (c : Nat) (k2 i2 : Int) (f2 : Nat) (s2 : ByteArray) (l2 : List Val) (A2 : Option Addr) (c2 : Nat) (W : World) (ok ok2 : Nat → Prop)
    (hR : RV W ok (.mk k i f s l) #[.int .i64 k, .int .i64 i, .float .f64 f, .string s, .slice A l.length c]) (hR2 : RV W ok2 (.mk k2 i2 f2 s2 l2) #[.int .i64 k2, .int .i64 i2, .float .f64 f2, .string s2, .slice A2 l2.length c2]) (hc0 : kindV k = kindV k2) (hkn : kindV k = 2) (he : (FloatKind.f64.format.order f f2 == some Ordering.eq) = false) (hn : isNan f = true) :
    Calls Tryz.prog 13 #[.agg #[.int .i64 k, .int .i64 i, .float .f64 f, .string s, .slice A l.length c], .agg #[.int .i64 k2, .int .i64 i2, .float .f64 f2, .string s2, .slice A2 l2.length c2]] W fun e w' => e = .returned (.bool (isNan f2)) ∧ Below W.heap.size W w' := by
  have h1 := Aside0.mk (fun W => isNaN36 f W)
  have h2 := Aside0.mk (fun W => isNaN36 f2 W)
  rw [hn] at h1
  obtain ⟨N, hN⟩ : ∃ N, isNan f2 = N := ⟨_, rfl⟩
  rw [hN] at h2 ⊢
  clear hn hN
  have HR := Aside0.mk hR
  have HR2 := Aside0.mk hR2
  clear hR hR2
  obtain ⟨K, hK⟩ : ∃ K, kindV k = K := ⟨_, rfl⟩
  obtain ⟨K2, hK2⟩ : ∃ K2, kindV k2 = K2 := ⟨_, rfl⟩
  have h31 := fun W => kind31 k i f s A l.length c W
  have h31b := fun W => kind31 k2 i2 f2 s2 A2 l2.length c2 W
  rw [hK] at h31
  rw [hK2] at h31b
  have H31 := Aside0.mk h31
  have H31b := Aside0.mk h31b
  have HK := Aside0.mk hK
  have HK2 := Aside0.mk hK2
  clear h31 h31b
  rw [hK, hK2] at hc0
  have HC0 := Aside0.mk hc0
  clear hK hK2 hc0
  go_enter Tryz.func13, Tryz.ntmps13
  go_upto_region 1 with (first
    | ((with_reducible refine gate_dst (N := 2) rfl ?_); refine box_event ?hg (N := 2) ?hd (cs := #[.int .i64 k, .int .i64 i, .float .f64 f, .string s, .slice A l.length c]) (t := 25) ?hr ?_; (case hd => rfl); (case hg => rfl); (case hr => first | (go_simp; done) | (go_simp; rfl)); intro ga hg w1 hbox hb; have HB := Aside0.mk hb; have KA := Aside0.mk hbox; clear hg hbox hb)
    | ((with_reducible refine gate_dst (N := 3) rfl ?_); refine box_event ?hg (N := 3) ?hd (cs := #[.int .i64 k2, .int .i64 i2, .float .f64 f2, .string s2, .slice A2 l2.length c2]) (t := 25) ?hr ?_; (case hd => rfl); (case hg => rfl); (case hr => first | (go_simp; done) | (go_simp; rfl)); intro gb hg w2 hbox hb; have KA := Aside0.mk (blk_below KA.out hb); have KB := Aside0.mk hbox; have HB := Aside0.mk (below_step HB.out hb); clear hg hbox hb))
  have a0 : w2.cell? ⟨ga, 0, none⟩ = some (.int .i64 k) := blk_cell KA.out 0
  have a1 : w2.cell? ⟨ga, 1, none⟩ = some (.int .i64 i) := blk_cell KA.out 1
  have a2 : w2.cell? ⟨ga, 2, none⟩ = some (.float .f64 f) := blk_cell KA.out 2
  have a3 : w2.cell? ⟨ga, 3, none⟩ = some (.string s) := blk_cell KA.out 3
  have a4 : w2.cell? ⟨ga, 4, none⟩ = some (.slice A l.length c) := blk_cell KA.out 4
  have b0 : w2.cell? ⟨gb, 0, none⟩ = some (.int .i64 k2) := blk_cell KB.out 0
  have b1 : w2.cell? ⟨gb, 1, none⟩ = some (.int .i64 i2) := blk_cell KB.out 1
  have b2 : w2.cell? ⟨gb, 2, none⟩ = some (.float .f64 f2) := blk_cell KB.out 2
  have b3 : w2.cell? ⟨gb, 3, none⟩ = some (.string s2) := blk_cell KB.out 3
  have b4 : w2.cell? ⟨gb, 4, none⟩ = some (.slice A2 l2.length c2) := blk_cell KB.out 4
  go_region_held3 (fun w' => w'.cell? ⟨ga, 0, none⟩ = some (.int .i64 k) ∧ w'.cell? ⟨ga, 1, none⟩ = some (.int .i64 i) ∧ w'.cell? ⟨ga, 2, none⟩ = some (.float .f64 f) ∧ w'.cell? ⟨ga, 3, none⟩ = some (.string s) ∧ w'.cell? ⟨ga, 4, none⟩ = some (.slice A l.length c) ∧ w'.cell? ⟨gb, 0, none⟩ = some (.int .i64 k2) ∧ w'.cell? ⟨gb, 1, none⟩ = some (.int .i64 i2) ∧ w'.cell? ⟨gb, 2, none⟩ = some (.float .f64 f2) ∧ w'.cell? ⟨gb, 3, none⟩ = some (.string s2) ∧ w'.cell? ⟨gb, 4, none⟩ = some (.slice A2 l2.length c2)) (first | exact tenO (W := w2.drew) KA.out KB.out (below_step hb1 hb2) | exact tenO (W := w2.drew) KA.out KB.out hb1 | exact ⟨a0, a1, a2, a3, a4, b0, b1, b2, b3, b4⟩)
    (first
      | (go_at_call 31; have tok := hb1; refine (H31b.out _).mono ?_; clear tok; rintro e w4 ⟨rfl, hb2⟩)
      | (go_at_call 31; refine (H31.out _).mono ?_; rintro e w3 ⟨rfl, hb1⟩))
  have HB4 := Aside0.mk (below_step (below_step HB.out.drew hb1) hb2)
  have KA4 := Aside0.mk (blk_below (w := w2.drew) KA.out (below_step hb1 hb2))
  have KB4 := Aside0.mk (blk_below (w := w2.drew) KB.out (below_step hb1 hb2))
  have H31c := Aside0.mk H31.out
  (try clear hHeld)
  clear hb1 hb2 a0 a1 a2 a3 a4 b0 b1 b2 b3 b4 KA KB HB
  have hc1 : (K != K2) = false := by rw [HC0.out]; simp
  have a0 : w4.cell? ⟨ga, 0, none⟩ = some (.int .i64 k) := blk_cell KA4.out 0
  have a1 : w4.cell? ⟨ga, 1, none⟩ = some (.int .i64 i) := blk_cell KA4.out 1
  have a2 : w4.cell? ⟨ga, 2, none⟩ = some (.float .f64 f) := blk_cell KA4.out 2
  have a3 : w4.cell? ⟨ga, 3, none⟩ = some (.string s) := blk_cell KA4.out 3
  have a4 : w4.cell? ⟨ga, 4, none⟩ = some (.slice A l.length c) := blk_cell KA4.out 4
  have b0 : w4.cell? ⟨gb, 0, none⟩ = some (.int .i64 k2) := blk_cell KB4.out 0
  have b1 : w4.cell? ⟨gb, 1, none⟩ = some (.int .i64 i2) := blk_cell KB4.out 1
  have b2 : w4.cell? ⟨gb, 2, none⟩ = some (.float .f64 f2) := blk_cell KB4.out 2
  have b3 : w4.cell? ⟨gb, 3, none⟩ = some (.string s2) := blk_cell KB4.out 3
  have b4 : w4.cell? ⟨gb, 4, none⟩ = some (.slice A2 l2.length c2) := blk_cell KB4.out 4
  go_upto_region 4 with (first
    | (go_at_call 31; refine (H31c.out _).mono ?_; rintro e w6 ⟨rfl, hb⟩; have HB6 := Aside0.mk (below_step HB4.out hb); have KA6 := Aside0.mk (blk_below KA4.out hb); have KB6 := Aside0.mk (blk_below KB4.out hb); clear hb))
  clear a0 a1 a2 a3 a4 b0 b1 b2 b3 b4
  have a0 : w6.cell? ⟨ga, 0, none⟩ = some (.int .i64 k) := blk_cell KA6.out 0
  have a1 : w6.cell? ⟨ga, 1, none⟩ = some (.int .i64 i) := blk_cell KA6.out 1
  have a2 : w6.cell? ⟨ga, 2, none⟩ = some (.float .f64 f) := blk_cell KA6.out 2
  have a3 : w6.cell? ⟨ga, 3, none⟩ = some (.string s) := blk_cell KA6.out 3
  have a4 : w6.cell? ⟨ga, 4, none⟩ = some (.slice A l.length c) := blk_cell KA6.out 4
  have b0 : w6.cell? ⟨gb, 0, none⟩ = some (.int .i64 k2) := blk_cell KB6.out 0
  have b1 : w6.cell? ⟨gb, 1, none⟩ = some (.int .i64 i2) := blk_cell KB6.out 1
  have b2 : w6.cell? ⟨gb, 2, none⟩ = some (.float .f64 f2) := blk_cell KB6.out 2
  have b3 : w6.cell? ⟨gb, 3, none⟩ = some (.string s2) := blk_cell KB6.out 3
  have b4 : w6.cell? ⟨gb, 4, none⟩ = some (.slice A2 l2.length c2) := blk_cell KB6.out 4
  obtain rfl : K = 2 := HK.out.symm.trans hkn
  clear hkn
  go_wp2_with (first | (go_at_call 36; with_reducible refine (h1.out _).mono ?_; rintro e w7 ⟨rfl, hw⟩; rw [hw]; clear hw w7) | (go_at_call 36; with_reducible refine (h2.out _).mono ?_; rintro e w8 ⟨rfl, hw⟩; rw [hw]; clear hw w8))
  go_ret
  exact ⟨rfl, HB6.out⟩

set_option maxHeartbeats 8000000 in
set_option maxRecDepth 100000 in
theorem equal13_3 (k i : Int) (f : Nat) (s : ByteArray) (l : List Val) (A : Option Addr) (c : Nat) (k2 i2 : Int) (f2 : Nat) (s2 : ByteArray) (l2 : List Val) (A2 : Option Addr) (c2 : Nat) (W : World) (ok ok2 : Nat → Prop)
    (hR : RV W ok (.mk k i f s l) #[.int .i64 k, .int .i64 i, .float .f64 f, .string s, .slice A l.length c]) (hR2 : RV W ok2 (.mk k2 i2 f2 s2 l2) #[.int .i64 k2, .int .i64 i2, .float .f64 f2, .string s2, .slice A2 l2.length c2]) (hc0 : kindV k = kindV k2) (hkn : kindV k = 3) :
    Calls Tryz.prog 13 #[.agg #[.int .i64 k, .int .i64 i, .float .f64 f, .string s, .slice A l.length c], .agg #[.int .i64 k2, .int .i64 i2, .float .f64 f2, .string s2, .slice A2 l2.length c2]] W fun e w' => e = .returned (.bool ((s == s2))) ∧ Below W.heap.size W w' := by
  have HR := Aside0.mk hR
  have HR2 := Aside0.mk hR2
  clear hR hR2
  obtain ⟨K, hK⟩ : ∃ K, kindV k = K := ⟨_, rfl⟩
  obtain ⟨K2, hK2⟩ : ∃ K2, kindV k2 = K2 := ⟨_, rfl⟩
  have h31 := fun W => kind31 k i f s A l.length c W
  have h31b := fun W => kind31 k2 i2 f2 s2 A2 l2.length c2 W
  rw [hK] at h31
  rw [hK2] at h31b
  have H31 := Aside0.mk h31
  have H31b := Aside0.mk h31b
  have HK := Aside0.mk hK
  have HK2 := Aside0.mk hK2
  clear h31 h31b
  rw [hK, hK2] at hc0
  have HC0 := Aside0.mk hc0
  clear hK hK2 hc0
  go_enter Tryz.func13, Tryz.ntmps13
  go_upto_region 1 with (first
    | ((with_reducible refine gate_dst (N := 2) rfl ?_); refine box_event ?hg (N := 2) ?hd (cs := #[.int .i64 k, .int .i64 i, .float .f64 f, .string s, .slice A l.length c]) (t := 25) ?hr ?_; (case hd => rfl); (case hg => rfl); (case hr => first | (go_simp; done) | (go_simp; rfl)); intro ga hg w1 hbox hb; have HB := Aside0.mk hb; have KA := Aside0.mk hbox; clear hg hbox hb)
    | ((with_reducible refine gate_dst (N := 3) rfl ?_); refine box_event ?hg (N := 3) ?hd (cs := #[.int .i64 k2, .int .i64 i2, .float .f64 f2, .string s2, .slice A2 l2.length c2]) (t := 25) ?hr ?_; (case hd => rfl); (case hg => rfl); (case hr => first | (go_simp; done) | (go_simp; rfl)); intro gb hg w2 hbox hb; have KA := Aside0.mk (blk_below KA.out hb); have KB := Aside0.mk hbox; have HB := Aside0.mk (below_step HB.out hb); clear hg hbox hb))
  have a0 : w2.cell? ⟨ga, 0, none⟩ = some (.int .i64 k) := blk_cell KA.out 0
  have a1 : w2.cell? ⟨ga, 1, none⟩ = some (.int .i64 i) := blk_cell KA.out 1
  have a2 : w2.cell? ⟨ga, 2, none⟩ = some (.float .f64 f) := blk_cell KA.out 2
  have a3 : w2.cell? ⟨ga, 3, none⟩ = some (.string s) := blk_cell KA.out 3
  have a4 : w2.cell? ⟨ga, 4, none⟩ = some (.slice A l.length c) := blk_cell KA.out 4
  have b0 : w2.cell? ⟨gb, 0, none⟩ = some (.int .i64 k2) := blk_cell KB.out 0
  have b1 : w2.cell? ⟨gb, 1, none⟩ = some (.int .i64 i2) := blk_cell KB.out 1
  have b2 : w2.cell? ⟨gb, 2, none⟩ = some (.float .f64 f2) := blk_cell KB.out 2
  have b3 : w2.cell? ⟨gb, 3, none⟩ = some (.string s2) := blk_cell KB.out 3
  have b4 : w2.cell? ⟨gb, 4, none⟩ = some (.slice A2 l2.length c2) := blk_cell KB.out 4
  go_region_held3 (fun w' => w'.cell? ⟨ga, 0, none⟩ = some (.int .i64 k) ∧ w'.cell? ⟨ga, 1, none⟩ = some (.int .i64 i) ∧ w'.cell? ⟨ga, 2, none⟩ = some (.float .f64 f) ∧ w'.cell? ⟨ga, 3, none⟩ = some (.string s) ∧ w'.cell? ⟨ga, 4, none⟩ = some (.slice A l.length c) ∧ w'.cell? ⟨gb, 0, none⟩ = some (.int .i64 k2) ∧ w'.cell? ⟨gb, 1, none⟩ = some (.int .i64 i2) ∧ w'.cell? ⟨gb, 2, none⟩ = some (.float .f64 f2) ∧ w'.cell? ⟨gb, 3, none⟩ = some (.string s2) ∧ w'.cell? ⟨gb, 4, none⟩ = some (.slice A2 l2.length c2)) (first | exact tenO (W := w2.drew) KA.out KB.out (below_step hb1 hb2) | exact tenO (W := w2.drew) KA.out KB.out hb1 | exact ⟨a0, a1, a2, a3, a4, b0, b1, b2, b3, b4⟩)
    (first
      | (go_at_call 31; have tok := hb1; refine (H31b.out _).mono ?_; clear tok; rintro e w4 ⟨rfl, hb2⟩)
      | (go_at_call 31; refine (H31.out _).mono ?_; rintro e w3 ⟨rfl, hb1⟩))
  have HB4 := Aside0.mk (below_step (below_step HB.out.drew hb1) hb2)
  have KA4 := Aside0.mk (blk_below (w := w2.drew) KA.out (below_step hb1 hb2))
  have KB4 := Aside0.mk (blk_below (w := w2.drew) KB.out (below_step hb1 hb2))
  have H31c := Aside0.mk H31.out
  (try clear hHeld)
  clear hb1 hb2 a0 a1 a2 a3 a4 b0 b1 b2 b3 b4 KA KB HB
  have hc1 : (K != K2) = false := by rw [HC0.out]; simp
  have a0 : w4.cell? ⟨ga, 0, none⟩ = some (.int .i64 k) := blk_cell KA4.out 0
  have a1 : w4.cell? ⟨ga, 1, none⟩ = some (.int .i64 i) := blk_cell KA4.out 1
  have a2 : w4.cell? ⟨ga, 2, none⟩ = some (.float .f64 f) := blk_cell KA4.out 2
  have a3 : w4.cell? ⟨ga, 3, none⟩ = some (.string s) := blk_cell KA4.out 3
  have a4 : w4.cell? ⟨ga, 4, none⟩ = some (.slice A l.length c) := blk_cell KA4.out 4
  have b0 : w4.cell? ⟨gb, 0, none⟩ = some (.int .i64 k2) := blk_cell KB4.out 0
  have b1 : w4.cell? ⟨gb, 1, none⟩ = some (.int .i64 i2) := blk_cell KB4.out 1
  have b2 : w4.cell? ⟨gb, 2, none⟩ = some (.float .f64 f2) := blk_cell KB4.out 2
  have b3 : w4.cell? ⟨gb, 3, none⟩ = some (.string s2) := blk_cell KB4.out 3
  have b4 : w4.cell? ⟨gb, 4, none⟩ = some (.slice A2 l2.length c2) := blk_cell KB4.out 4
  go_upto_region 4 with (first
    | (go_at_call 31; refine (H31c.out _).mono ?_; rintro e w6 ⟨rfl, hb⟩; have HB6 := Aside0.mk (below_step HB4.out hb); have KA6 := Aside0.mk (blk_below KA4.out hb); have KB6 := Aside0.mk (blk_below KB4.out hb); clear hb))
  clear a0 a1 a2 a3 a4 b0 b1 b2 b3 b4
  have a0 : w6.cell? ⟨ga, 0, none⟩ = some (.int .i64 k) := blk_cell KA6.out 0
  have a1 : w6.cell? ⟨ga, 1, none⟩ = some (.int .i64 i) := blk_cell KA6.out 1
  have a2 : w6.cell? ⟨ga, 2, none⟩ = some (.float .f64 f) := blk_cell KA6.out 2
  have a3 : w6.cell? ⟨ga, 3, none⟩ = some (.string s) := blk_cell KA6.out 3
  have a4 : w6.cell? ⟨ga, 4, none⟩ = some (.slice A l.length c) := blk_cell KA6.out 4
  have b0 : w6.cell? ⟨gb, 0, none⟩ = some (.int .i64 k2) := blk_cell KB6.out 0
  have b1 : w6.cell? ⟨gb, 1, none⟩ = some (.int .i64 i2) := blk_cell KB6.out 1
  have b2 : w6.cell? ⟨gb, 2, none⟩ = some (.float .f64 f2) := blk_cell KB6.out 2
  have b3 : w6.cell? ⟨gb, 3, none⟩ = some (.string s2) := blk_cell KB6.out 3
  have b4 : w6.cell? ⟨gb, 4, none⟩ = some (.slice A2 l2.length c2) := blk_cell KB6.out 4
  obtain rfl : K = 3 := HK.out.symm.trans hkn
  clear hkn
  go_wp2
  go_ret
  exact ⟨by rw [beq_toListBytes s s2]; rfl, HB6.out⟩

set_option maxHeartbeats 8000000 in
set_option maxRecDepth 100000 in
theorem equal13_4 (k i : Int) (f : Nat) (s : ByteArray) (l : List Val) (A : Option Addr) (c : Nat) (k2 i2 : Int) (f2 : Nat) (s2 : ByteArray) (l2 : List Val) (A2 : Option Addr) (c2 : Nat) (W : World) (ok ok2 : Nat → Prop)
    (hR : RV W ok (.mk k i f s l) #[.int .i64 k, .int .i64 i, .float .f64 f, .string s, .slice A l.length c]) (hR2 : RV W ok2 (.mk k2 i2 f2 s2 l2) #[.int .i64 k2, .int .i64 i2, .float .f64 f2, .string s2, .slice A2 l2.length c2]) (hc0 : kindV k = kindV k2) (hkn : kindV k = 4) (hE : ∀ (j : Nat) (hj : j < l.length), EqC l[j]) :
    Calls Tryz.prog 13 #[.agg #[.int .i64 k, .int .i64 i, .float .f64 f, .string s, .slice A l.length c], .agg #[.int .i64 k2, .int .i64 i2, .float .f64 f2, .string s2, .slice A2 l2.length c2]] W fun e w' => e = .returned (.bool (equals l l2)) ∧ Below W.heap.size W w' := by
  obtain ⟨F, hF⟩ : ∃ F, equals l l2 = F := ⟨_, rfl⟩
  have h35 := Aside0.mk (fun (W' : World) (hb : Below W.heap.size W W') => equal37 k i f s l k2 i2 f2 s2 l2 hE W' ok ok2 _ _ _ _ _ _ _ _ A A2 c c2 (hR.kept hb) (hR2.kept hb))
  rw [hF] at h35 ⊢
  clear hF hE
  have HR := Aside0.mk hR
  have HR2 := Aside0.mk hR2
  clear hR hR2
  obtain ⟨K, hK⟩ : ∃ K, kindV k = K := ⟨_, rfl⟩
  obtain ⟨K2, hK2⟩ : ∃ K2, kindV k2 = K2 := ⟨_, rfl⟩
  have h31 := fun W => kind31 k i f s A l.length c W
  have h31b := fun W => kind31 k2 i2 f2 s2 A2 l2.length c2 W
  rw [hK] at h31
  rw [hK2] at h31b
  have H31 := Aside0.mk h31
  have H31b := Aside0.mk h31b
  have HK := Aside0.mk hK
  have HK2 := Aside0.mk hK2
  clear h31 h31b
  rw [hK, hK2] at hc0
  have HC0 := Aside0.mk hc0
  clear hK hK2 hc0
  go_enter Tryz.func13, Tryz.ntmps13
  go_upto_region 1 with (first
    | ((with_reducible refine gate_dst (N := 2) rfl ?_); refine box_event ?hg (N := 2) ?hd (cs := #[.int .i64 k, .int .i64 i, .float .f64 f, .string s, .slice A l.length c]) (t := 25) ?hr ?_; (case hd => rfl); (case hg => rfl); (case hr => first | (go_simp; done) | (go_simp; rfl)); intro ga hg w1 hbox hb; have HB := Aside0.mk hb; have KA := Aside0.mk hbox; clear hg hbox hb)
    | ((with_reducible refine gate_dst (N := 3) rfl ?_); refine box_event ?hg (N := 3) ?hd (cs := #[.int .i64 k2, .int .i64 i2, .float .f64 f2, .string s2, .slice A2 l2.length c2]) (t := 25) ?hr ?_; (case hd => rfl); (case hg => rfl); (case hr => first | (go_simp; done) | (go_simp; rfl)); intro gb hg w2 hbox hb; have KA := Aside0.mk (blk_below KA.out hb); have KB := Aside0.mk hbox; have HB := Aside0.mk (below_step HB.out hb); clear hg hbox hb))
  have a0 : w2.cell? ⟨ga, 0, none⟩ = some (.int .i64 k) := blk_cell KA.out 0
  have a1 : w2.cell? ⟨ga, 1, none⟩ = some (.int .i64 i) := blk_cell KA.out 1
  have a2 : w2.cell? ⟨ga, 2, none⟩ = some (.float .f64 f) := blk_cell KA.out 2
  have a3 : w2.cell? ⟨ga, 3, none⟩ = some (.string s) := blk_cell KA.out 3
  have a4 : w2.cell? ⟨ga, 4, none⟩ = some (.slice A l.length c) := blk_cell KA.out 4
  have b0 : w2.cell? ⟨gb, 0, none⟩ = some (.int .i64 k2) := blk_cell KB.out 0
  have b1 : w2.cell? ⟨gb, 1, none⟩ = some (.int .i64 i2) := blk_cell KB.out 1
  have b2 : w2.cell? ⟨gb, 2, none⟩ = some (.float .f64 f2) := blk_cell KB.out 2
  have b3 : w2.cell? ⟨gb, 3, none⟩ = some (.string s2) := blk_cell KB.out 3
  have b4 : w2.cell? ⟨gb, 4, none⟩ = some (.slice A2 l2.length c2) := blk_cell KB.out 4
  go_region_held3 (fun w' => w'.cell? ⟨ga, 0, none⟩ = some (.int .i64 k) ∧ w'.cell? ⟨ga, 1, none⟩ = some (.int .i64 i) ∧ w'.cell? ⟨ga, 2, none⟩ = some (.float .f64 f) ∧ w'.cell? ⟨ga, 3, none⟩ = some (.string s) ∧ w'.cell? ⟨ga, 4, none⟩ = some (.slice A l.length c) ∧ w'.cell? ⟨gb, 0, none⟩ = some (.int .i64 k2) ∧ w'.cell? ⟨gb, 1, none⟩ = some (.int .i64 i2) ∧ w'.cell? ⟨gb, 2, none⟩ = some (.float .f64 f2) ∧ w'.cell? ⟨gb, 3, none⟩ = some (.string s2) ∧ w'.cell? ⟨gb, 4, none⟩ = some (.slice A2 l2.length c2)) (first | exact tenO (W := w2.drew) KA.out KB.out (below_step hb1 hb2) | exact tenO (W := w2.drew) KA.out KB.out hb1 | exact ⟨a0, a1, a2, a3, a4, b0, b1, b2, b3, b4⟩)
    (first
      | (go_at_call 31; have tok := hb1; refine (H31b.out _).mono ?_; clear tok; rintro e w4 ⟨rfl, hb2⟩)
      | (go_at_call 31; refine (H31.out _).mono ?_; rintro e w3 ⟨rfl, hb1⟩))
  have HB4 := Aside0.mk (below_step (below_step HB.out.drew hb1) hb2)
  have KA4 := Aside0.mk (blk_below (w := w2.drew) KA.out (below_step hb1 hb2))
  have KB4 := Aside0.mk (blk_below (w := w2.drew) KB.out (below_step hb1 hb2))
  have H31c := Aside0.mk H31.out
  (try clear hHeld)
  clear hb1 hb2 a0 a1 a2 a3 a4 b0 b1 b2 b3 b4 KA KB HB
  have hc1 : (K != K2) = false := by rw [HC0.out]; simp
  have a0 : w4.cell? ⟨ga, 0, none⟩ = some (.int .i64 k) := blk_cell KA4.out 0
  have a1 : w4.cell? ⟨ga, 1, none⟩ = some (.int .i64 i) := blk_cell KA4.out 1
  have a2 : w4.cell? ⟨ga, 2, none⟩ = some (.float .f64 f) := blk_cell KA4.out 2
  have a3 : w4.cell? ⟨ga, 3, none⟩ = some (.string s) := blk_cell KA4.out 3
  have a4 : w4.cell? ⟨ga, 4, none⟩ = some (.slice A l.length c) := blk_cell KA4.out 4
  have b0 : w4.cell? ⟨gb, 0, none⟩ = some (.int .i64 k2) := blk_cell KB4.out 0
  have b1 : w4.cell? ⟨gb, 1, none⟩ = some (.int .i64 i2) := blk_cell KB4.out 1
  have b2 : w4.cell? ⟨gb, 2, none⟩ = some (.float .f64 f2) := blk_cell KB4.out 2
  have b3 : w4.cell? ⟨gb, 3, none⟩ = some (.string s2) := blk_cell KB4.out 3
  have b4 : w4.cell? ⟨gb, 4, none⟩ = some (.slice A2 l2.length c2) := blk_cell KB4.out 4
  go_upto_region 4 with (first
    | (go_at_call 31; refine (H31c.out _).mono ?_; rintro e w6 ⟨rfl, hb⟩; have HB6 := Aside0.mk (below_step HB4.out hb); have KA6 := Aside0.mk (blk_below KA4.out hb); have KB6 := Aside0.mk (blk_below KB4.out hb); clear hb))
  clear a0 a1 a2 a3 a4 b0 b1 b2 b3 b4
  have a0 : w6.cell? ⟨ga, 0, none⟩ = some (.int .i64 k) := blk_cell KA6.out 0
  have a1 : w6.cell? ⟨ga, 1, none⟩ = some (.int .i64 i) := blk_cell KA6.out 1
  have a2 : w6.cell? ⟨ga, 2, none⟩ = some (.float .f64 f) := blk_cell KA6.out 2
  have a3 : w6.cell? ⟨ga, 3, none⟩ = some (.string s) := blk_cell KA6.out 3
  have a4 : w6.cell? ⟨ga, 4, none⟩ = some (.slice A l.length c) := blk_cell KA6.out 4
  have b0 : w6.cell? ⟨gb, 0, none⟩ = some (.int .i64 k2) := blk_cell KB6.out 0
  have b1 : w6.cell? ⟨gb, 1, none⟩ = some (.int .i64 i2) := blk_cell KB6.out 1
  have b2 : w6.cell? ⟨gb, 2, none⟩ = some (.float .f64 f2) := blk_cell KB6.out 2
  have b3 : w6.cell? ⟨gb, 3, none⟩ = some (.string s2) := blk_cell KB6.out 3
  have b4 : w6.cell? ⟨gb, 4, none⟩ = some (.slice A2 l2.length c2) := blk_cell KB6.out 4
  obtain rfl : K = 4 := HK.out.symm.trans hkn
  clear hkn
  go_wp2_with (go_at_call 37; refine (h35.out _ HB6.out).mono ?_; rintro e w7 ⟨rfl, hb⟩; have HB6 := Aside0.mk (below_step HB6.out hb); clear hb)
  go_ret
  exact ⟨rfl, HB6.out⟩

set_option maxHeartbeats 8000000 in
set_option maxRecDepth 100000 in
theorem equal13_0 (k i : Int) (f : Nat) (s : ByteArray) (l : List Val) (A : Option Addr) (c : Nat) (k2 i2 : Int) (f2 : Nat) (s2 : ByteArray) (l2 : List Val) (A2 : Option Addr) (c2 : Nat) (W : World) (ok ok2 : Nat → Prop)
    (hR : RV W ok (.mk k i f s l) #[.int .i64 k, .int .i64 i, .float .f64 f, .string s, .slice A l.length c]) (hR2 : RV W ok2 (.mk k2 i2 f2 s2 l2) #[.int .i64 k2, .int .i64 i2, .float .f64 f2, .string s2, .slice A2 l2.length c2]) (hc0 : kindV k = kindV k2) (hk1 : kindV k ≠ 1) (hk2 : kindV k ≠ 2) (hk3 : kindV k ≠ 3) (hk4 : kindV k ≠ 4) :
    Calls Tryz.prog 13 #[.agg #[.int .i64 k, .int .i64 i, .float .f64 f, .string s, .slice A l.length c], .agg #[.int .i64 k2, .int .i64 i2, .float .f64 f2, .string s2, .slice A2 l2.length c2]] W fun e w' => e = .returned (.bool (true)) ∧ Below W.heap.size W w' := by
  have HR := Aside0.mk hR
  have HR2 := Aside0.mk hR2
  clear hR hR2
  obtain ⟨K, hK⟩ : ∃ K, kindV k = K := ⟨_, rfl⟩
  obtain ⟨K2, hK2⟩ : ∃ K2, kindV k2 = K2 := ⟨_, rfl⟩
  have h31 := fun W => kind31 k i f s A l.length c W
  have h31b := fun W => kind31 k2 i2 f2 s2 A2 l2.length c2 W
  rw [hK] at h31
  rw [hK2] at h31b
  have H31 := Aside0.mk h31
  have H31b := Aside0.mk h31b
  have HK := Aside0.mk hK
  have HK2 := Aside0.mk hK2
  clear h31 h31b
  rw [hK, hK2] at hc0
  have HC0 := Aside0.mk hc0
  clear hK hK2 hc0
  go_enter Tryz.func13, Tryz.ntmps13
  go_upto_region 1 with (first
    | ((with_reducible refine gate_dst (N := 2) rfl ?_); refine box_event ?hg (N := 2) ?hd (cs := #[.int .i64 k, .int .i64 i, .float .f64 f, .string s, .slice A l.length c]) (t := 25) ?hr ?_; (case hd => rfl); (case hg => rfl); (case hr => first | (go_simp; done) | (go_simp; rfl)); intro ga hg w1 hbox hb; have HB := Aside0.mk hb; have KA := Aside0.mk hbox; clear hg hbox hb)
    | ((with_reducible refine gate_dst (N := 3) rfl ?_); refine box_event ?hg (N := 3) ?hd (cs := #[.int .i64 k2, .int .i64 i2, .float .f64 f2, .string s2, .slice A2 l2.length c2]) (t := 25) ?hr ?_; (case hd => rfl); (case hg => rfl); (case hr => first | (go_simp; done) | (go_simp; rfl)); intro gb hg w2 hbox hb; have KA := Aside0.mk (blk_below KA.out hb); have KB := Aside0.mk hbox; have HB := Aside0.mk (below_step HB.out hb); clear hg hbox hb))
  have a0 : w2.cell? ⟨ga, 0, none⟩ = some (.int .i64 k) := blk_cell KA.out 0
  have a1 : w2.cell? ⟨ga, 1, none⟩ = some (.int .i64 i) := blk_cell KA.out 1
  have a2 : w2.cell? ⟨ga, 2, none⟩ = some (.float .f64 f) := blk_cell KA.out 2
  have a3 : w2.cell? ⟨ga, 3, none⟩ = some (.string s) := blk_cell KA.out 3
  have a4 : w2.cell? ⟨ga, 4, none⟩ = some (.slice A l.length c) := blk_cell KA.out 4
  have b0 : w2.cell? ⟨gb, 0, none⟩ = some (.int .i64 k2) := blk_cell KB.out 0
  have b1 : w2.cell? ⟨gb, 1, none⟩ = some (.int .i64 i2) := blk_cell KB.out 1
  have b2 : w2.cell? ⟨gb, 2, none⟩ = some (.float .f64 f2) := blk_cell KB.out 2
  have b3 : w2.cell? ⟨gb, 3, none⟩ = some (.string s2) := blk_cell KB.out 3
  have b4 : w2.cell? ⟨gb, 4, none⟩ = some (.slice A2 l2.length c2) := blk_cell KB.out 4
  go_region_held3 (fun w' => w'.cell? ⟨ga, 0, none⟩ = some (.int .i64 k) ∧ w'.cell? ⟨ga, 1, none⟩ = some (.int .i64 i) ∧ w'.cell? ⟨ga, 2, none⟩ = some (.float .f64 f) ∧ w'.cell? ⟨ga, 3, none⟩ = some (.string s) ∧ w'.cell? ⟨ga, 4, none⟩ = some (.slice A l.length c) ∧ w'.cell? ⟨gb, 0, none⟩ = some (.int .i64 k2) ∧ w'.cell? ⟨gb, 1, none⟩ = some (.int .i64 i2) ∧ w'.cell? ⟨gb, 2, none⟩ = some (.float .f64 f2) ∧ w'.cell? ⟨gb, 3, none⟩ = some (.string s2) ∧ w'.cell? ⟨gb, 4, none⟩ = some (.slice A2 l2.length c2)) (first | exact tenO (W := w2.drew) KA.out KB.out (below_step hb1 hb2) | exact tenO (W := w2.drew) KA.out KB.out hb1 | exact ⟨a0, a1, a2, a3, a4, b0, b1, b2, b3, b4⟩)
    (first
      | (go_at_call 31; have tok := hb1; refine (H31b.out _).mono ?_; clear tok; rintro e w4 ⟨rfl, hb2⟩)
      | (go_at_call 31; refine (H31.out _).mono ?_; rintro e w3 ⟨rfl, hb1⟩))
  have HB4 := Aside0.mk (below_step (below_step HB.out.drew hb1) hb2)
  have KA4 := Aside0.mk (blk_below (w := w2.drew) KA.out (below_step hb1 hb2))
  have KB4 := Aside0.mk (blk_below (w := w2.drew) KB.out (below_step hb1 hb2))
  have H31c := Aside0.mk H31.out
  (try clear hHeld)
  clear hb1 hb2 a0 a1 a2 a3 a4 b0 b1 b2 b3 b4 KA KB HB
  have hc1 : (K != K2) = false := by rw [HC0.out]; simp
  have a0 : w4.cell? ⟨ga, 0, none⟩ = some (.int .i64 k) := blk_cell KA4.out 0
  have a1 : w4.cell? ⟨ga, 1, none⟩ = some (.int .i64 i) := blk_cell KA4.out 1
  have a2 : w4.cell? ⟨ga, 2, none⟩ = some (.float .f64 f) := blk_cell KA4.out 2
  have a3 : w4.cell? ⟨ga, 3, none⟩ = some (.string s) := blk_cell KA4.out 3
  have a4 : w4.cell? ⟨ga, 4, none⟩ = some (.slice A l.length c) := blk_cell KA4.out 4
  have b0 : w4.cell? ⟨gb, 0, none⟩ = some (.int .i64 k2) := blk_cell KB4.out 0
  have b1 : w4.cell? ⟨gb, 1, none⟩ = some (.int .i64 i2) := blk_cell KB4.out 1
  have b2 : w4.cell? ⟨gb, 2, none⟩ = some (.float .f64 f2) := blk_cell KB4.out 2
  have b3 : w4.cell? ⟨gb, 3, none⟩ = some (.string s2) := blk_cell KB4.out 3
  have b4 : w4.cell? ⟨gb, 4, none⟩ = some (.slice A2 l2.length c2) := blk_cell KB4.out 4
  go_upto_region 4 with (first
    | (go_at_call 31; refine (H31c.out _).mono ?_; rintro e w6 ⟨rfl, hb⟩; have HB6 := Aside0.mk (below_step HB4.out hb); have KA6 := Aside0.mk (blk_below KA4.out hb); have KB6 := Aside0.mk (blk_below KB4.out hb); clear hb))
  clear a0 a1 a2 a3 a4 b0 b1 b2 b3 b4
  have a0 : w6.cell? ⟨ga, 0, none⟩ = some (.int .i64 k) := blk_cell KA6.out 0
  have a1 : w6.cell? ⟨ga, 1, none⟩ = some (.int .i64 i) := blk_cell KA6.out 1
  have a2 : w6.cell? ⟨ga, 2, none⟩ = some (.float .f64 f) := blk_cell KA6.out 2
  have a3 : w6.cell? ⟨ga, 3, none⟩ = some (.string s) := blk_cell KA6.out 3
  have a4 : w6.cell? ⟨ga, 4, none⟩ = some (.slice A l.length c) := blk_cell KA6.out 4
  have b0 : w6.cell? ⟨gb, 0, none⟩ = some (.int .i64 k2) := blk_cell KB6.out 0
  have b1 : w6.cell? ⟨gb, 1, none⟩ = some (.int .i64 i2) := blk_cell KB6.out 1
  have b2 : w6.cell? ⟨gb, 2, none⟩ = some (.float .f64 f2) := blk_cell KB6.out 2
  have b3 : w6.cell? ⟨gb, 3, none⟩ = some (.string s2) := blk_cell KB6.out 3
  have b4 : w6.cell? ⟨gb, 4, none⟩ = some (.slice A2 l2.length c2) := blk_cell KB6.out 4
  have e1 : (K == 1) = false := beq_eq_false_iff_ne.2 (by rw [← HK.out]; exact hk1)
  have e2 : (K == 2) = false := beq_eq_false_iff_ne.2 (by rw [← HK.out]; exact hk2)
  have e3 : (K == 3) = false := beq_eq_false_iff_ne.2 (by rw [← HK.out]; exact hk3)
  have e4 : (K == 4) = false := beq_eq_false_iff_ne.2 (by rw [← HK.out]; exact hk4)
  clear hk1 hk2 hk3 hk4
  go_wp2
  go_ret
  exact ⟨rfl, HB6.out⟩
/-- Equal. -/
theorem equal13 (v : Val) : EqC v := by
  induction v using Val.ind with
  | h k i f s l ih =>
    intro W ok cs hR v2 ok2 cs2 hR2
    cases v2 with
    | mk k2 i2 f2 s2 l2 =>
      obtain ⟨A, c, rfl, _⟩ := hR.len
      obtain ⟨A2, c2, rfl, _⟩ := hR2.len
      unfold equalV
      by_cases h0 : kindV k = kindV k2
      · rw [if_pos h0]
        by_cases h1 : kindV k = 1
        · rw [if_pos h1]; exact equal13_1 k i f s l A c k2 i2 f2 s2 l2 A2 c2 W ok ok2 hR hR2 h0 h1
        · rw [if_neg h1]
          by_cases h2 : kindV k = 2
          · rw [if_pos h2]
            unfold eqF
            cases he : feq f f2
            · rw [if_neg (by decide)]
              cases hn : isNan f
              · rw [if_neg (by decide)]
                exact equal13_2b k i f s l A c k2 i2 f2 s2 l2 A2 c2 W ok ok2 hR hR2 h0 h2 he hn
              · rw [if_pos rfl]
                exact equal13_2c k i f s l A c k2 i2 f2 s2 l2 A2 c2 W ok ok2 hR hR2 h0 h2 he hn
            · rw [if_pos rfl]
              exact equal13_2a k i f s l A c k2 i2 f2 s2 l2 A2 c2 W ok ok2 hR hR2 h0 h2 he
          · rw [if_neg h2]
            by_cases h3 : kindV k = 3
            · rw [if_pos h3]; exact equal13_3 k i f s l A c k2 i2 f2 s2 l2 A2 c2 W ok ok2 hR hR2 h0 h3
            · rw [if_neg h3]
              by_cases h4 : kindV k = 4
              · rw [if_pos h4]; exact equal13_4 k i f s l A c k2 i2 f2 s2 l2 A2 c2 W ok ok2 hR hR2 h0 h4 ih
              · rw [if_neg h4]; exact equal13_0 k i f s l A c k2 i2 f2 s2 l2 A2 c2 W ok ok2 hR hR2 h0 h1 h2 h3 h4
      · rw [if_neg h0]; exact equal13_ne k i f s l A c k2 i2 f2 s2 l2 A2 c2 W ok ok2 hR hR2 h0
end Go.Proofs.YtejfmghjmhiodaaGreatDoor.Vz
namespace Go.Proofs.YtejfmghjmhiodaaGreatDoor.Vz
open Go.RowKit Go.Proofs.YtejfmghjmhiodaaGreatDoorW.PrintWords
set_option linter.unusedVariables false
set_option linter.unusedSimpArgs false
attribute [local go_sem] store_float

mutual
def strangeV : Val → Bool
  | .mk k _ _ _ l => if kindV k = k then (if k = 4 then stranges l else false) else true
def stranges : List Val → Bool
  | [] => false
  | x :: r => if strangeV x = true then true else stranges r
end
theorem stranges_nil : stranges [] = false := by rw [stranges]
theorem stranges_cons (x : Val) (r : List Val) : stranges (x :: r) = if strangeV x = true then true else stranges r := by rw [stranges]
def StrangeC (v : Val) : Prop := ∀ (W : World) (ok : Nat → Prop) (cs : Array Value), RV W ok v cs → Calls Tryz.prog 39 #[.agg cs] W fun e w' => e = .returned (.bool (strangeV v)) ∧ Below W.heap.size W w'
theorem enters39 (args : Array Value) (W : World) : (callFunc 39 args).run Tryz.prog W = .ok (.enter 39 args) W := by kernel_rfl
theorem enters58 (args : Array Value) (W : World) : (callFunc 58 args).run Tryz.prog W = .ok (.enter 58 args) W := by kernel_rfl

set_option maxHeartbeats 8000000 in
set_option maxRecDepth 100000 in
theorem index71s (k i : Int) (f : Nat) (s : ByteArray) (l : List Val) (hE : ∀ (j : Nat) (hj : j < l.length), StrangeC l[j]) (W : World) (ok : Nat → Prop) (x0 x1 x2 x3 : Value) (A : Option Addr) (c : Nat)
    (hR : RV W ok (.mk k i f s l) #[x0, x1, x2, x3, .slice A l.length c]) :
    Calls Tryz.prog 71 #[.slice A l.length c, .func (.func 39) #[] #[]] W fun e w' => ∃ r : Int, e = .returned (.int .i64 r) ∧ decide (0 ≤ r) = stranges l ∧ Below W.heap.size W w' := by
  obtain ⟨A0, c0, e0, wk, wi, wf, ws, wc, wb⟩ := hR.len
  have HI := Aside0.mk hE
  have HR := Aside0.mk hR
  have HWB := Aside0.mk (show (l.length : Int) * 64 ≤ 140737488351232 by omega)
  have hnn : (0 : Int) ≤ (l.length : Int) := by omega
  have hent := enters39
  clear hE hR wk wi wf ws wc wb e0
  obtain ⟨n, hn⟩ : ∃ n, l.length = n := ⟨_, rfl⟩
  have HNL := Aside0.mk hn
  rw [hn] at HR HWB hnn ⊢
  clear hn
  obtain ⟨O, hO⟩ : ∃ O, stranges l = O := ⟨_, rfl⟩
  rw [hO]
  have HO := Aside0.mk hO
  clear hO
  go_enter Tryz.func71, Tryz.ntmps71
  go_wp2
  go_loopw [8] (fun ix wr => ∃ j : Nat, j ≤ n ∧ ix = .int .i64 (j : Int) ∧ Aside0 (Below W.heap.size W wr) ∧ Aside0 (stranges (l.drop j) = O)) (fun ix _ => n - (intOf ix).toNat)
  case atStart => exact ⟨0, by omega, rfl, Aside0.mk (Below.refl _ _), HO⟩
  case round =>
    obtain ⟨j, hj, rfl, HB', HOj⟩ := hrel
    by_cases hlt : j < n
    · have hji : (j : Int) < (n : Int) := by omega
      have hj0 : (0 : Int) ≤ (j : Int) := by omega
      have hjl : j < l.length := by rw [HNL.out]; exact hlt
      obtain ⟨g, off, k', i', f', s', A', n', c', rfl, hg1, hg2, hsub, p0, p1, p2, p3, p4⟩ := (HR.out.kept HB'.out).elem j hjl
      have hih := HI.out j hjl
      have HOj2 := Aside0.mk HOj.out
      rw [dropAt l j hjl, stranges_cons] at HOj2
      generalize l[j] = x at hsub hih HOj2
      have HSub := Aside0.mk hsub
      have HIx := Aside0.mk hih
      obtain ⟨o, ho⟩ : ∃ o, strangeV x = o := ⟨_, rfl⟩
      have HOo := Aside0.mk ho
      have hwk : IntKind.i64.wrap ((j : Int) + 1) = ((j + 1 : Nat) : Int) := by have := HWB.out; rw [IntKind.wrap_i64]; omega
      clear hsub hih hjl hg1 hg2 ho
      rw [HOo.out] at HOj2
      cases o
      · have HN := Aside0.mk (show stranges (l.drop (j + 1)) = O by have := HOj2.out; rwa [if_neg (by decide)] at this)
        go_wp2_with (first
          | (go_at_call 39; refine (HIx.out _ _ _ HSub.out).mono ?_; rw [HOo.out]; rintro e w4 ⟨rfl, hb⟩; have HB2 := Aside0.mk (below_step HB'.out hb); clear hb))
        go_roundw
        case rel => exact ⟨j + 1, by omega, by go_num, HB2, HN⟩
        case measure => simp [intOf]; omega
      · have HN := Aside0.mk (show true = O by have := HOj2.out; rwa [if_pos rfl] at this)
        go_wp2_with (first
          | (go_at_call 39; refine (HIx.out _ _ _ HSub.out).mono ?_; rw [HOo.out]; rintro e w4 ⟨rfl, hb⟩; have HB2 := Aside0.mk (below_step HB'.out hb); clear hb))
        go_ret
        exact ⟨j, rfl, by rw [← HN.out]; simp, HB2.out⟩
    · obtain rfl : j = n := by omega
      have HOj2 := Aside0.mk HOj.out
      rw [show l.drop j = [] from List.drop_eq_nil_of_le (by rw [HNL.out]; omega), stranges_nil] at HOj2
      go_wp2
      go_ret
      exact ⟨-1, rfl, by rw [← HOj2.out]; rfl, HB'.out⟩


set_option maxHeartbeats 8000000 in
set_option maxRecDepth 100000 in
theorem contains57s (k i : Int) (f : Nat) (s : ByteArray) (l : List Val) (hE : ∀ (j : Nat) (hj : j < l.length), StrangeC l[j]) (W : World) (ok : Nat → Prop) (x0 x1 x2 x3 : Value) (A : Option Addr) (c : Nat)
    (hR : RV W ok (.mk k i f s l) #[x0, x1, x2, x3, .slice A l.length c]) :
    Calls Tryz.prog 57 #[.slice A l.length c, .func (.func 39) #[] #[]] W fun e w' => e = .returned (.bool (stranges l)) ∧ Below W.heap.size W w' := by
  have H := Aside0.mk (index71s k i f s l hE W ok x0 x1 x2 x3 A c hR)
  clear hE hR
  go_enter Tryz.func57, Tryz.ntmps57
  go_wp2_with (go_at_call 71; refine H.out.mono ?_; rintro e w1 ⟨r, rfl, hr, hb⟩; have HR := Aside0.mk hr; have HB := Aside0.mk hb; clear hr hb)
  go_ret
  exact ⟨by rw [← HR.out]; rfl, HB.out⟩

theorem fiveS {W w : World} {gb : Nat} {k i : Int} {f : Nat} {s : ByteArray} {l : List Val} {A : Option Addr} {c : Nat} (KB : W.heap[gb]? = some (.cells #[.int .i64 k, .int .i64 i, .float .f64 f, .string s, .slice A l.length c] 25 (0, 0))) (h : Below W.heap.size W w) : w.cell? ⟨gb, 0, none⟩ = some (.int .i64 k) ∧ w.cell? ⟨gb, 1, none⟩ = some (.int .i64 i) ∧ w.cell? ⟨gb, 2, none⟩ = some (.float .f64 f) ∧ w.cell? ⟨gb, 3, none⟩ = some (.string s) ∧ w.cell? ⟨gb, 4, none⟩ = some (.slice A l.length c) :=
  ⟨blk_cell (blk_below KB h) 0, blk_cell (blk_below KB h) 1, blk_cell (blk_below KB h) 2, blk_cell (blk_below KB h) 3, blk_cell (blk_below KB h) 4⟩

set_option maxHeartbeats 8000000 in
set_option maxRecDepth 100000 in
theorem strange_ne (k i : Int) (f : Nat) (s : ByteArray) (l : List Val) (A : Option Addr) (c : Nat) (hk : kindV k ≠ k) (W : World) (ok : Nat → Prop) (hR : RV W ok (.mk k i f s l) #[.int .i64 k, .int .i64 i, .float .f64 f, .string s, .slice A l.length c]) :
    Calls Tryz.prog 39 #[.agg #[.int .i64 k, .int .i64 i, .float .f64 f, .string s, .slice A l.length c]] W fun e w' => e = .returned (.bool true) ∧ Below W.heap.size W w' := by
  have e1 : (k != kindV k) = true := bne_iff_ne.2 fun x => hk x.symm
  clear hk
  have HR := Aside0.mk hR
  have h31 := fun W => kind31 k i f s A l.length c W
  have H31 := Aside0.mk h31
  clear hR h31
  go_enter Tryz.func39, Tryz.ntmps39
  go_upto_region 1 with (first
    | ((with_reducible refine gate_dst (N := 1) rfl ?_); refine box_event ?hg (N := 1) ?hd (cs := #[.int .i64 k, .int .i64 i, .float .f64 f, .string s, .slice A l.length c]) (t := 25) ?hr ?_; (case hd => rfl); (case hg => rfl); (case hr => first | (go_simp; done) | (go_simp; rfl)); intro gb hg w1 hbox hb; have HB := Aside0.mk hb; have KB := Aside0.mk hbox; clear hg hbox hb))
  have b0 : w1.cell? ⟨gb, 0, none⟩ = some (.int .i64 k) := blk_cell KB.out 0
  have b1 : w1.cell? ⟨gb, 1, none⟩ = some (.int .i64 i) := blk_cell KB.out 1
  have b2 : w1.cell? ⟨gb, 2, none⟩ = some (.float .f64 f) := blk_cell KB.out 2
  have b3 : w1.cell? ⟨gb, 3, none⟩ = some (.string s) := blk_cell KB.out 3
  have b4 : w1.cell? ⟨gb, 4, none⟩ = some (.slice A l.length c) := blk_cell KB.out 4
  refine wp_region_held_drew (S := fun w' => w'.cell? ⟨gb, 0, none⟩ = some (.int .i64 k) ∧ w'.cell? ⟨gb, 1, none⟩ = some (.int .i64 i) ∧ w'.cell? ⟨gb, 2, none⟩ = some (.float .f64 f) ∧ w'.cell? ⟨gb, 3, none⟩ = some (.string s) ∧ w'.cell? ⟨gb, 4, none⟩ = some (.slice A l.length c)) (by kernel_rfl) ?_ (fun hHeld => ?_)
  · exact ⟨b0, b1, b2, b3, b4⟩
  refine wpAnyH_take (i := 0) (oi := { dst := some 3, op := Go.Op.fieldAddr 25 (Go.Operand.tmp 1) 0, type := 0, pos := "value.go:47", after := #[], guard := none }) (v := ?_) rfl (by kernel_rfl) (by kernel_rfl) (by kernel_rfl) (fun _ _ _ h => h) (Or.inl ⟨by rfl, ?_⟩) (by assumption) ?_
  rotate_left
  · first | (intro w hSw; (try dsimp only at hSw); go_simp; done) | (intro w hSw; (try dsimp only at hSw); go_simp; with_reducible rfl)
  try simp only [Act.put, List.setIfInBounds_toArray, List.set_cons_zero, List.set_cons_succ]
  refine wpAnyH_take (i := 1) (oi := { dst := some 4, op := Go.Op.load 3 (Go.Operand.tmp 3), type := 3, pos := "value.go:47", after := #[{ on := 0, ground := Go.Ground.data }], guard := none }) (v := ?_) rfl (by kernel_rfl) (by kernel_rfl) (by kernel_rfl) (fun _ _ _ h => h) (Or.inl ⟨by rfl, ?_⟩) (by assumption) ?_
  rotate_left
  · first | (intro w hSw; (try dsimp only at hSw); go_simp; done) | (intro w hSw; (try dsimp only at hSw); go_simp; with_reducible rfl)
  try simp only [Act.put, List.setIfInBounds_toArray, List.set_cons_zero, List.set_cons_succ]
  refine wpAnyH_take (i := 2) (oi := { dst := some 5, op := Go.Op.load 25 (Go.Operand.tmp 1), type := 25, pos := "value.go:47", after := #[], guard := none }) (v := ?_) rfl (by kernel_rfl) (by kernel_rfl) (by kernel_rfl) (fun _ _ _ h => h) (Or.inl ⟨by rfl, ?_⟩) (by assumption) ?_
  rotate_left
  · first | (intro w hSw; (try dsimp only at hSw); go_simp; done) | (intro w hSw; (try dsimp only at hSw); go_simp; with_reducible rfl)
  try simp only [Act.put, List.setIfInBounds_toArray, List.set_cons_zero, List.set_cons_succ]
  refine wpAnyH_ready (rs := [3]) (by kernel_rfl) (by simp) ?_
  refine AllReadyH.cons (o := { dst := some 6, op := Go.Op.call { callee := Go.Callee.value (Go.Operand.func 31), args := #[Go.Operand.tmp 5], argTypes := #[25] }, type := 3, pos := "value.go:47", after := #[{ on := 2, ground := Go.Ground.data }], guard := none }) rfl (fun K hK => ?_) AllReadyH.nil
  go_simp
  refine (H31.out _).mono ?_
  rintro e w2 ⟨rfl, hb⟩
  refine hK.out _ _ ?_ (fun hHeld => ?_)
  · exact fiveS (W := w1.drew) KB.out hb
  clear hK K
  try simp only [Act.put, List.setIfInBounds_toArray, List.set_cons_zero, List.set_cons_succ]
  refine wpAnyH_take (i := 4) (oi := { dst := some 7, op := Go.Op.binOp Go.BinOp.neq 3 (Go.Operand.tmp 4) (Go.Operand.tmp 6) 3, type := 4, pos := "value.go:47", after := #[{ on := 1, ground := Go.Ground.data }, { on := 3, ground := Go.Ground.data }], guard := none }) (v := ?_) rfl (by kernel_rfl) (by kernel_rfl) (by kernel_rfl) (fun _ _ _ h => h) (Or.inl ⟨by rfl, ?_⟩) (by assumption) ?_
  rotate_left
  · first | (intro w hSw; (try dsimp only at hSw); go_simp; done) | (intro w hSw; (try dsimp only at hSw); go_simp; with_reducible rfl)
  try simp only [Act.put, List.setIfInBounds_toArray, List.set_cons_zero, List.set_cons_succ]
  refine wpAnyH_take (i := 5) (oi := { dst := some 8, op := Go.Op.move (Go.Operand.tmp 7), type := 4, pos := "value.go:47", after := #[{ on := 4, ground := Go.Ground.data }, { on := 3, ground := Go.Ground.chain }], guard := none }) (v := ?_) rfl (by kernel_rfl) (by kernel_rfl) (by kernel_rfl) (fun _ _ _ h => h) (Or.inl ⟨by rfl, ?_⟩) (by assumption) ?_
  rotate_left
  · first | (intro w hSw; (try dsimp only at hSw); go_simp; done) | (intro w hSw; (try dsimp only at hSw); go_simp; with_reducible rfl)
  try simp only [Act.put, List.setIfInBounds_toArray, List.set_cons_zero, List.set_cons_succ]
  refine wpAnyH_take (i := 6) (oi := { dst := some 9, op := Go.Op.fieldAddr 25 (Go.Operand.tmp 1) 0, type := 0, pos := "value.go:47", after := #[{ on := 5, ground := Go.Ground.guard }], guard := some (5, false) }) (v := undef) rfl (by kernel_rfl) (by kernel_rfl) (by kernel_rfl) (fun _ _ _ h => h) (Or.inr ⟨by rfl, rfl⟩) (by assumption) ?_
  try simp only [Act.put, List.setIfInBounds_toArray, List.set_cons_zero, List.set_cons_succ]
  refine wpAnyH_take (i := 7) (oi := { dst := some 10, op := Go.Op.load 3 (Go.Operand.tmp 9), type := 3, pos := "value.go:47", after := #[{ on := 6, ground := Go.Ground.data }, { on := 5, ground := Go.Ground.guard }], guard := some (5, false) }) (v := undef) rfl (by kernel_rfl) (by kernel_rfl) (by kernel_rfl) (fun _ _ _ h => h) (Or.inr ⟨by rfl, rfl⟩) (by assumption) ?_
  try simp only [Act.put, List.setIfInBounds_toArray, List.set_cons_zero, List.set_cons_succ]
  refine wpAnyH_take (i := 8) (oi := { dst := some 11, op := Go.Op.binOp Go.BinOp.eql 3 (Go.Operand.tmp 10) (Go.Operand.const (Go.Value.int Go.IntKind.i64 4)) 3, type := 4, pos := "value.go:47", after := #[{ on := 7, ground := Go.Ground.data }, { on := 5, ground := Go.Ground.guard }], guard := some (5, false) }) (v := undef) rfl (by kernel_rfl) (by kernel_rfl) (by kernel_rfl) (fun _ _ _ h => h) (Or.inr ⟨by rfl, rfl⟩) (by assumption) ?_
  try simp only [Act.put, List.setIfInBounds_toArray, List.set_cons_zero, List.set_cons_succ]
  refine wpAnyH_take (i := 9) (oi := { dst := some 12, op := Go.Op.move (Go.Operand.tmp 11), type := 4, pos := "value.go:47", after := #[{ on := 8, ground := Go.Ground.data }, { on := 5, ground := Go.Ground.chain }, { on := 5, ground := Go.Ground.guard }], guard := some (5, false) }) (v := undef) rfl (by kernel_rfl) (by kernel_rfl) (by kernel_rfl) (fun _ _ _ h => h) (Or.inr ⟨by rfl, rfl⟩) (by assumption) ?_
  try simp only [Act.put, List.setIfInBounds_toArray, List.set_cons_zero, List.set_cons_succ]
  refine wpAnyH_take (i := 10) (oi := { dst := some 13, op := Go.Op.fieldAddr 25 (Go.Operand.tmp 1) 4, type := 0, pos := "value.go:47", after := #[{ on := 9, ground := Go.Ground.guard }], guard := some (9, true) }) (v := undef) rfl (by kernel_rfl) (by kernel_rfl) (by kernel_rfl) (fun _ _ _ h => h) (Or.inr ⟨by rfl, rfl⟩) (by assumption) ?_
  try simp only [Act.put, List.setIfInBounds_toArray, List.set_cons_zero, List.set_cons_succ]
  refine wpAnyH_take (i := 11) (oi := { dst := some 14, op := Go.Op.load 23 (Go.Operand.tmp 13), type := 23, pos := "value.go:47", after := #[{ on := 10, ground := Go.Ground.data }, { on := 9, ground := Go.Ground.guard }], guard := some (9, true) }) (v := undef) rfl (by kernel_rfl) (by kernel_rfl) (by kernel_rfl) (fun _ _ _ h => h) (Or.inr ⟨by rfl, rfl⟩) (by assumption) ?_
  try simp only [Act.put, List.setIfInBounds_toArray, List.set_cons_zero, List.set_cons_succ]
  refine wpAnyH_take (i := 12) (oi := { dst := some 15, op := Go.Op.call { callee := Go.Callee.value (Go.Operand.func 57), args := #[Go.Operand.tmp 14, Go.Operand.func 39], argTypes := #[23, 27] }, type := 4, pos := "value.go:47", after := #[{ on := 11, ground := Go.Ground.data }, { on := 9, ground := Go.Ground.chain }, { on := 9, ground := Go.Ground.guard }], guard := some (9, true) }) (v := undef) rfl (by kernel_rfl) (by kernel_rfl) (by kernel_rfl) (fun _ _ _ h => h) (Or.inr ⟨by rfl, rfl⟩) (by assumption) ?_
  try simp only [Act.put, List.setIfInBounds_toArray, List.set_cons_zero, List.set_cons_succ]
  refine wpAnyH_take (i := 13) (oi := { dst := some 16, op := Go.Op.pick (Go.Operand.tmp 12) (Go.Operand.tmp 15) (Go.Operand.const (Go.Value.bool false)), type := 4, pos := "value.go:47", after := #[{ on := 9, ground := Go.Ground.data }, { on := 12, ground := Go.Ground.data }, { on := 5, ground := Go.Ground.guard }], guard := some (5, false) }) (v := undef) rfl (by kernel_rfl) (by kernel_rfl) (by kernel_rfl) (fun _ _ _ h => h) (Or.inr ⟨by rfl, rfl⟩) (by assumption) ?_
  try simp only [Act.put, List.setIfInBounds_toArray, List.set_cons_zero, List.set_cons_succ]
  refine wpAnyH_take (i := 14) (oi := { dst := some 17, op := Go.Op.pick (Go.Operand.tmp 8) (Go.Operand.const (Go.Value.bool true)) (Go.Operand.tmp 16), type := 4, pos := "value.go:47", after := #[{ on := 5, ground := Go.Ground.data }, { on := 13, ground := Go.Ground.data }], guard := none }) (v := ?_) rfl (by kernel_rfl) (by kernel_rfl) (by kernel_rfl) (fun _ _ _ h => h) (Or.inl ⟨by rfl, ?_⟩) (by assumption) ?_
  rotate_left
  · first | (intro w hSw; (try dsimp only at hSw); go_simp; done) | (intro w hSw; (try dsimp only at hSw); go_simp; with_reducible rfl)
  try simp only [Act.put, List.setIfInBounds_toArray, List.set_cons_zero, List.set_cons_succ]
  refine wpAnyH_take (i := 15) (oi := { dst := some 2, op := Go.Op.assign (Go.Operand.tmp 17), type := 4, pos := "value.go:47", after := #[{ on := 14, ground := Go.Ground.data }, { on := 12, ground := Go.Ground.chain }, { on := 0, ground := Go.Ground.phase }, { on := 1, ground := Go.Ground.phase }, { on := 2, ground := Go.Ground.phase }, { on := 3, ground := Go.Ground.phase }, { on := 4, ground := Go.Ground.phase }, { on := 5, ground := Go.Ground.phase }, { on := 6, ground := Go.Ground.phase }, { on := 7, ground := Go.Ground.phase }, { on := 8, ground := Go.Ground.phase }, { on := 9, ground := Go.Ground.phase }, { on := 10, ground := Go.Ground.phase }, { on := 11, ground := Go.Ground.phase }, { on := 12, ground := Go.Ground.phase }, { on := 13, ground := Go.Ground.phase }, { on := 14, ground := Go.Ground.phase }], guard := none }) (v := ?_) rfl (by kernel_rfl) (by kernel_rfl) (by kernel_rfl) (fun _ _ _ h => h) (Or.inl ⟨by rfl, ?_⟩) (by assumption) ?_
  rotate_left
  · first | (intro w hSw; (try dsimp only at hSw); go_simp; done) | (intro w hSw; (try dsimp only at hSw); go_simp; with_reducible rfl)
  try simp only [Act.put, List.setIfInBounds_toArray, List.set_cons_zero, List.set_cons_succ]
  refine wpAnyH_done (by kernel_rfl) ?_ _
  have HB3 := Aside0.mk (below_step HB.out.drew hb)
  clear hb b0 b1 b2 b3 b4
  go_wp2
  go_ret
  exact ⟨rfl, HB3.out⟩

set_option maxHeartbeats 8000000 in
set_option maxRecDepth 100000 in
theorem strange_no (k i : Int) (f : Nat) (s : ByteArray) (l : List Val) (A : Option Addr) (c : Nat) (hk : kindV k = k) (h4 : k ≠ 4) (W : World) (ok : Nat → Prop) (hR : RV W ok (.mk k i f s l) #[.int .i64 k, .int .i64 i, .float .f64 f, .string s, .slice A l.length c]) :
    Calls Tryz.prog 39 #[.agg #[.int .i64 k, .int .i64 i, .float .f64 f, .string s, .slice A l.length c]] W fun e w' => e = .returned (.bool false) ∧ Below W.heap.size W w' := by
  have e1 : (k != kindV k) = false := by rw [hk]; simp
  have e4 : (k == 4) = false := beq_eq_false_iff_ne.2 h4
  clear hk h4
  have HR := Aside0.mk hR
  have h31 := fun W => kind31 k i f s A l.length c W
  have H31 := Aside0.mk h31
  clear hR h31
  go_enter Tryz.func39, Tryz.ntmps39
  go_upto_region 1 with (first
    | ((with_reducible refine gate_dst (N := 1) rfl ?_); refine box_event ?hg (N := 1) ?hd (cs := #[.int .i64 k, .int .i64 i, .float .f64 f, .string s, .slice A l.length c]) (t := 25) ?hr ?_; (case hd => rfl); (case hg => rfl); (case hr => first | (go_simp; done) | (go_simp; rfl)); intro gb hg w1 hbox hb; have HB := Aside0.mk hb; have KB := Aside0.mk hbox; clear hg hbox hb))
  have b0 : w1.cell? ⟨gb, 0, none⟩ = some (.int .i64 k) := blk_cell KB.out 0
  have b1 : w1.cell? ⟨gb, 1, none⟩ = some (.int .i64 i) := blk_cell KB.out 1
  have b2 : w1.cell? ⟨gb, 2, none⟩ = some (.float .f64 f) := blk_cell KB.out 2
  have b3 : w1.cell? ⟨gb, 3, none⟩ = some (.string s) := blk_cell KB.out 3
  have b4 : w1.cell? ⟨gb, 4, none⟩ = some (.slice A l.length c) := blk_cell KB.out 4
  refine wp_region_held_drew (S := fun w' => w'.cell? ⟨gb, 0, none⟩ = some (.int .i64 k) ∧ w'.cell? ⟨gb, 1, none⟩ = some (.int .i64 i) ∧ w'.cell? ⟨gb, 2, none⟩ = some (.float .f64 f) ∧ w'.cell? ⟨gb, 3, none⟩ = some (.string s) ∧ w'.cell? ⟨gb, 4, none⟩ = some (.slice A l.length c)) (by kernel_rfl) ?_ (fun hHeld => ?_)
  · exact ⟨b0, b1, b2, b3, b4⟩
  refine wpAnyH_take (i := 0) (oi := { dst := some 3, op := Go.Op.fieldAddr 25 (Go.Operand.tmp 1) 0, type := 0, pos := "value.go:47", after := #[], guard := none }) (v := ?_) rfl (by kernel_rfl) (by kernel_rfl) (by kernel_rfl) (fun _ _ _ h => h) (Or.inl ⟨by rfl, ?_⟩) (by assumption) ?_
  rotate_left
  · first | (intro w hSw; (try dsimp only at hSw); go_simp; done) | (intro w hSw; (try dsimp only at hSw); go_simp; with_reducible rfl)
  try simp only [Act.put, List.setIfInBounds_toArray, List.set_cons_zero, List.set_cons_succ]
  refine wpAnyH_take (i := 1) (oi := { dst := some 4, op := Go.Op.load 3 (Go.Operand.tmp 3), type := 3, pos := "value.go:47", after := #[{ on := 0, ground := Go.Ground.data }], guard := none }) (v := ?_) rfl (by kernel_rfl) (by kernel_rfl) (by kernel_rfl) (fun _ _ _ h => h) (Or.inl ⟨by rfl, ?_⟩) (by assumption) ?_
  rotate_left
  · first | (intro w hSw; (try dsimp only at hSw); go_simp; done) | (intro w hSw; (try dsimp only at hSw); go_simp; with_reducible rfl)
  try simp only [Act.put, List.setIfInBounds_toArray, List.set_cons_zero, List.set_cons_succ]
  refine wpAnyH_take (i := 2) (oi := { dst := some 5, op := Go.Op.load 25 (Go.Operand.tmp 1), type := 25, pos := "value.go:47", after := #[], guard := none }) (v := ?_) rfl (by kernel_rfl) (by kernel_rfl) (by kernel_rfl) (fun _ _ _ h => h) (Or.inl ⟨by rfl, ?_⟩) (by assumption) ?_
  rotate_left
  · first | (intro w hSw; (try dsimp only at hSw); go_simp; done) | (intro w hSw; (try dsimp only at hSw); go_simp; with_reducible rfl)
  try simp only [Act.put, List.setIfInBounds_toArray, List.set_cons_zero, List.set_cons_succ]
  refine wpAnyH_ready (rs := [3]) (by kernel_rfl) (by simp) ?_
  refine AllReadyH.cons (o := { dst := some 6, op := Go.Op.call { callee := Go.Callee.value (Go.Operand.func 31), args := #[Go.Operand.tmp 5], argTypes := #[25] }, type := 3, pos := "value.go:47", after := #[{ on := 2, ground := Go.Ground.data }], guard := none }) rfl (fun K hK => ?_) AllReadyH.nil
  go_simp
  refine (H31.out _).mono ?_
  rintro e w2 ⟨rfl, hb⟩
  refine hK.out _ _ ?_ (fun hHeld => ?_)
  · exact fiveS (W := w1.drew) KB.out hb
  clear hK K
  try simp only [Act.put, List.setIfInBounds_toArray, List.set_cons_zero, List.set_cons_succ]
  refine wpAnyH_take (i := 4) (oi := { dst := some 7, op := Go.Op.binOp Go.BinOp.neq 3 (Go.Operand.tmp 4) (Go.Operand.tmp 6) 3, type := 4, pos := "value.go:47", after := #[{ on := 1, ground := Go.Ground.data }, { on := 3, ground := Go.Ground.data }], guard := none }) (v := ?_) rfl (by kernel_rfl) (by kernel_rfl) (by kernel_rfl) (fun _ _ _ h => h) (Or.inl ⟨by rfl, ?_⟩) (by assumption) ?_
  rotate_left
  · first | (intro w hSw; (try dsimp only at hSw); go_simp; done) | (intro w hSw; (try dsimp only at hSw); go_simp; with_reducible rfl)
  try simp only [Act.put, List.setIfInBounds_toArray, List.set_cons_zero, List.set_cons_succ]
  refine wpAnyH_take (i := 5) (oi := { dst := some 8, op := Go.Op.move (Go.Operand.tmp 7), type := 4, pos := "value.go:47", after := #[{ on := 4, ground := Go.Ground.data }, { on := 3, ground := Go.Ground.chain }], guard := none }) (v := ?_) rfl (by kernel_rfl) (by kernel_rfl) (by kernel_rfl) (fun _ _ _ h => h) (Or.inl ⟨by rfl, ?_⟩) (by assumption) ?_
  rotate_left
  · first | (intro w hSw; (try dsimp only at hSw); go_simp; done) | (intro w hSw; (try dsimp only at hSw); go_simp; with_reducible rfl)
  try simp only [Act.put, List.setIfInBounds_toArray, List.set_cons_zero, List.set_cons_succ]
  refine wpAnyH_take (i := 6) (oi := { dst := some 9, op := Go.Op.fieldAddr 25 (Go.Operand.tmp 1) 0, type := 0, pos := "value.go:47", after := #[{ on := 5, ground := Go.Ground.guard }], guard := some (5, false) }) (v := ?_) rfl (by kernel_rfl) (by kernel_rfl) (by kernel_rfl) (fun _ _ _ h => h) (Or.inl ⟨by rfl, ?_⟩) (by assumption) ?_
  rotate_left
  · first | (intro w hSw; (try dsimp only at hSw); go_simp; done) | (intro w hSw; (try dsimp only at hSw); go_simp; with_reducible rfl)
  try simp only [Act.put, List.setIfInBounds_toArray, List.set_cons_zero, List.set_cons_succ]
  refine wpAnyH_take (i := 7) (oi := { dst := some 10, op := Go.Op.load 3 (Go.Operand.tmp 9), type := 3, pos := "value.go:47", after := #[{ on := 6, ground := Go.Ground.data }, { on := 5, ground := Go.Ground.guard }], guard := some (5, false) }) (v := ?_) rfl (by kernel_rfl) (by kernel_rfl) (by kernel_rfl) (fun _ _ _ h => h) (Or.inl ⟨by rfl, ?_⟩) (by assumption) ?_
  rotate_left
  · first | (intro w hSw; (try dsimp only at hSw); go_simp; done) | (intro w hSw; (try dsimp only at hSw); go_simp; with_reducible rfl)
  try simp only [Act.put, List.setIfInBounds_toArray, List.set_cons_zero, List.set_cons_succ]
  refine wpAnyH_take (i := 8) (oi := { dst := some 11, op := Go.Op.binOp Go.BinOp.eql 3 (Go.Operand.tmp 10) (Go.Operand.const (Go.Value.int Go.IntKind.i64 4)) 3, type := 4, pos := "value.go:47", after := #[{ on := 7, ground := Go.Ground.data }, { on := 5, ground := Go.Ground.guard }], guard := some (5, false) }) (v := ?_) rfl (by kernel_rfl) (by kernel_rfl) (by kernel_rfl) (fun _ _ _ h => h) (Or.inl ⟨by rfl, ?_⟩) (by assumption) ?_
  rotate_left
  · first | (intro w hSw; (try dsimp only at hSw); go_simp; done) | (intro w hSw; (try dsimp only at hSw); go_simp; with_reducible rfl)
  try simp only [Act.put, List.setIfInBounds_toArray, List.set_cons_zero, List.set_cons_succ]
  refine wpAnyH_take (i := 9) (oi := { dst := some 12, op := Go.Op.move (Go.Operand.tmp 11), type := 4, pos := "value.go:47", after := #[{ on := 8, ground := Go.Ground.data }, { on := 5, ground := Go.Ground.chain }, { on := 5, ground := Go.Ground.guard }], guard := some (5, false) }) (v := ?_) rfl (by kernel_rfl) (by kernel_rfl) (by kernel_rfl) (fun _ _ _ h => h) (Or.inl ⟨by rfl, ?_⟩) (by assumption) ?_
  rotate_left
  · first | (intro w hSw; (try dsimp only at hSw); go_simp; done) | (intro w hSw; (try dsimp only at hSw); go_simp; with_reducible rfl)
  try simp only [Act.put, List.setIfInBounds_toArray, List.set_cons_zero, List.set_cons_succ]
  refine wpAnyH_take (i := 10) (oi := { dst := some 13, op := Go.Op.fieldAddr 25 (Go.Operand.tmp 1) 4, type := 0, pos := "value.go:47", after := #[{ on := 9, ground := Go.Ground.guard }], guard := some (9, true) }) (v := undef) rfl (by kernel_rfl) (by kernel_rfl) (by kernel_rfl) (fun _ _ _ h => h) (Or.inr ⟨by rfl, rfl⟩) (by assumption) ?_
  try simp only [Act.put, List.setIfInBounds_toArray, List.set_cons_zero, List.set_cons_succ]
  refine wpAnyH_take (i := 11) (oi := { dst := some 14, op := Go.Op.load 23 (Go.Operand.tmp 13), type := 23, pos := "value.go:47", after := #[{ on := 10, ground := Go.Ground.data }, { on := 9, ground := Go.Ground.guard }], guard := some (9, true) }) (v := undef) rfl (by kernel_rfl) (by kernel_rfl) (by kernel_rfl) (fun _ _ _ h => h) (Or.inr ⟨by rfl, rfl⟩) (by assumption) ?_
  try simp only [Act.put, List.setIfInBounds_toArray, List.set_cons_zero, List.set_cons_succ]
  refine wpAnyH_take (i := 12) (oi := { dst := some 15, op := Go.Op.call { callee := Go.Callee.value (Go.Operand.func 57), args := #[Go.Operand.tmp 14, Go.Operand.func 39], argTypes := #[23, 27] }, type := 4, pos := "value.go:47", after := #[{ on := 11, ground := Go.Ground.data }, { on := 9, ground := Go.Ground.chain }, { on := 9, ground := Go.Ground.guard }], guard := some (9, true) }) (v := undef) rfl (by kernel_rfl) (by kernel_rfl) (by kernel_rfl) (fun _ _ _ h => h) (Or.inr ⟨by rfl, rfl⟩) (by assumption) ?_
  try simp only [Act.put, List.setIfInBounds_toArray, List.set_cons_zero, List.set_cons_succ]
  refine wpAnyH_take (i := 13) (oi := { dst := some 16, op := Go.Op.pick (Go.Operand.tmp 12) (Go.Operand.tmp 15) (Go.Operand.const (Go.Value.bool false)), type := 4, pos := "value.go:47", after := #[{ on := 9, ground := Go.Ground.data }, { on := 12, ground := Go.Ground.data }, { on := 5, ground := Go.Ground.guard }], guard := some (5, false) }) (v := ?_) rfl (by kernel_rfl) (by kernel_rfl) (by kernel_rfl) (fun _ _ _ h => h) (Or.inl ⟨by rfl, ?_⟩) (by assumption) ?_
  rotate_left
  · first | (intro w hSw; (try dsimp only at hSw); go_simp; done) | (intro w hSw; (try dsimp only at hSw); go_simp; with_reducible rfl)
  try simp only [Act.put, List.setIfInBounds_toArray, List.set_cons_zero, List.set_cons_succ]
  refine wpAnyH_take (i := 14) (oi := { dst := some 17, op := Go.Op.pick (Go.Operand.tmp 8) (Go.Operand.const (Go.Value.bool true)) (Go.Operand.tmp 16), type := 4, pos := "value.go:47", after := #[{ on := 5, ground := Go.Ground.data }, { on := 13, ground := Go.Ground.data }], guard := none }) (v := ?_) rfl (by kernel_rfl) (by kernel_rfl) (by kernel_rfl) (fun _ _ _ h => h) (Or.inl ⟨by rfl, ?_⟩) (by assumption) ?_
  rotate_left
  · first | (intro w hSw; (try dsimp only at hSw); go_simp; done) | (intro w hSw; (try dsimp only at hSw); go_simp; with_reducible rfl)
  try simp only [Act.put, List.setIfInBounds_toArray, List.set_cons_zero, List.set_cons_succ]
  refine wpAnyH_take (i := 15) (oi := { dst := some 2, op := Go.Op.assign (Go.Operand.tmp 17), type := 4, pos := "value.go:47", after := #[{ on := 14, ground := Go.Ground.data }, { on := 12, ground := Go.Ground.chain }, { on := 0, ground := Go.Ground.phase }, { on := 1, ground := Go.Ground.phase }, { on := 2, ground := Go.Ground.phase }, { on := 3, ground := Go.Ground.phase }, { on := 4, ground := Go.Ground.phase }, { on := 5, ground := Go.Ground.phase }, { on := 6, ground := Go.Ground.phase }, { on := 7, ground := Go.Ground.phase }, { on := 8, ground := Go.Ground.phase }, { on := 9, ground := Go.Ground.phase }, { on := 10, ground := Go.Ground.phase }, { on := 11, ground := Go.Ground.phase }, { on := 12, ground := Go.Ground.phase }, { on := 13, ground := Go.Ground.phase }, { on := 14, ground := Go.Ground.phase }], guard := none }) (v := ?_) rfl (by kernel_rfl) (by kernel_rfl) (by kernel_rfl) (fun _ _ _ h => h) (Or.inl ⟨by rfl, ?_⟩) (by assumption) ?_
  rotate_left
  · first | (intro w hSw; (try dsimp only at hSw); go_simp; done) | (intro w hSw; (try dsimp only at hSw); go_simp; with_reducible rfl)
  try simp only [Act.put, List.setIfInBounds_toArray, List.set_cons_zero, List.set_cons_succ]
  refine wpAnyH_done (by kernel_rfl) ?_ _
  have HB3 := Aside0.mk (below_step HB.out.drew hb)
  clear hb b0 b1 b2 b3 b4
  go_wp2
  go_ret
  exact ⟨rfl, HB3.out⟩

set_option maxHeartbeats 8000000 in
set_option maxRecDepth 100000 in
theorem strange_4 (k i : Int) (f : Nat) (s : ByteArray) (l : List Val) (A : Option Addr) (c : Nat) (hk : k = 4) (hE : ∀ (j : Nat) (hj : j < l.length), StrangeC l[j]) (W : World) (ok : Nat → Prop) (hR : RV W ok (.mk k i f s l) #[.int .i64 k, .int .i64 i, .float .f64 f, .string s, .slice A l.length c]) :
    Calls Tryz.prog 39 #[.agg #[.int .i64 k, .int .i64 i, .float .f64 f, .string s, .slice A l.length c]] W fun e w' => e = .returned (.bool (stranges l)) ∧ Below W.heap.size W w' := by
  have e1 : (k != kindV k) = false := by rw [hk]; decide
  have e4 : (k == 4) = true := by rw [hk]; decide
  clear hk
  have h57 := Aside0.mk (fun (W' : World) (hb : Below W.heap.size W W') => contains57s k i f s l hE W' ok _ _ _ _ A c (hR.kept hb))
  obtain ⟨F, hF⟩ : ∃ F, stranges l = F := ⟨_, rfl⟩
  rw [hF] at h57 ⊢
  clear hF hE
  have HR := Aside0.mk hR
  have h31 := fun W => kind31 k i f s A l.length c W
  have H31 := Aside0.mk h31
  clear hR h31
  go_enter Tryz.func39, Tryz.ntmps39
  go_upto_region 1 with (first
    | ((with_reducible refine gate_dst (N := 1) rfl ?_); refine box_event ?hg (N := 1) ?hd (cs := #[.int .i64 k, .int .i64 i, .float .f64 f, .string s, .slice A l.length c]) (t := 25) ?hr ?_; (case hd => rfl); (case hg => rfl); (case hr => first | (go_simp; done) | (go_simp; rfl)); intro gb hg w1 hbox hb; have HB := Aside0.mk hb; have KB := Aside0.mk hbox; clear hg hbox hb))
  have b0 : w1.cell? ⟨gb, 0, none⟩ = some (.int .i64 k) := blk_cell KB.out 0
  have b1 : w1.cell? ⟨gb, 1, none⟩ = some (.int .i64 i) := blk_cell KB.out 1
  have b2 : w1.cell? ⟨gb, 2, none⟩ = some (.float .f64 f) := blk_cell KB.out 2
  have b3 : w1.cell? ⟨gb, 3, none⟩ = some (.string s) := blk_cell KB.out 3
  have b4 : w1.cell? ⟨gb, 4, none⟩ = some (.slice A l.length c) := blk_cell KB.out 4
  go_region_held3 (fun w' => w'.cell? ⟨gb, 0, none⟩ = some (.int .i64 k) ∧ w'.cell? ⟨gb, 1, none⟩ = some (.int .i64 i) ∧ w'.cell? ⟨gb, 2, none⟩ = some (.float .f64 f) ∧ w'.cell? ⟨gb, 3, none⟩ = some (.string s) ∧ w'.cell? ⟨gb, 4, none⟩ = some (.slice A l.length c)) (first | exact fiveS (W := w1.drew) KB.out (below_step hb1 hb2) | exact fiveS (W := w1.drew) KB.out hb1 | exact ⟨b0, b1, b2, b3, b4⟩)
    (first
      | (go_at_call 57; refine (h57.out _ (below_step HB.out.drew hb1)).mono ?_; rintro e w3 ⟨rfl, hb2⟩)
      | (go_at_call 31; refine (H31.out _).mono ?_; rintro e w2 ⟨rfl, hb1⟩))
  have HB3 := Aside0.mk (below_step (below_step HB.out.drew hb1) hb2)
  (try clear hHeld)
  clear hb1 hb2 b0 b1 b2 b3 b4
  go_wp2
  go_ret
  exact ⟨rfl, HB3.out⟩

theorem strange39 (v : Val) : StrangeC v := by
  induction v using Val.ind with
  | h k i f s l ih =>
    intro W ok cs hR
    obtain ⟨A, c, rfl, _⟩ := hR.len
    unfold strangeV
    by_cases hk : kindV k = k
    · rw [if_pos hk]
      by_cases h4 : k = 4
      · rw [if_pos h4]; exact strange_4 k i f s l A c h4 ih W ok hR
      · rw [if_neg h4]; exact strange_no k i f s l A c hk h4 W ok hR
    · rw [if_neg hk]; exact strange_ne k i f s l A c hk W ok hR
end Go.Proofs.YtejfmghjmhiodaaGreatDoor.Vz
namespace Go.Proofs.YtejfmghjmhiodaaGreatDoor.Vz
open Go.RowKit Go.Proofs.YtejfmghjmhiodaaGreatDoorW.PrintWords
set_option linter.unusedVariables false
set_option linter.unusedSimpArgs false
attribute [local go_sem] store_float

mutual
def greatV : Val → Int → Bool
  | .mk k _ _ s l, m => if k = 3 then decide ((256 : Int) < (s.size : Int)) else if k = 4 then (if 64 < l.length then true else if m < 1 then true else greats l (wrap64 (m - 1))) else false
def greats : List Val → Int → Bool
  | [], _ => false
  | x :: r, m => if greatV x m = true then true else greats r m
end
theorem greats_nil (m : Int) : greats [] m = false := by rw [greats]
theorem greats_cons (x : Val) (r : List Val) (m : Int) : greats (x :: r) m = if greatV x m = true then true else greats r m := by rw [greats]
def GreatC (v : Val) : Prop := ∀ (W : World) (ok : Nat → Prop) (cs : Array Value), RV W ok v cs → ∀ m : Int, Calls Tryz.prog 40 #[.agg cs, .int .i64 m] W fun e w' => e = .returned (.bool (greatV v m)) ∧ Below W.heap.size W w'

set_option maxHeartbeats 8000000 in
set_option maxRecDepth 100000 in
theorem clos58 (v : Val) (hG : GreatC v) (W : World) (ok : Nat → Prop) (cs : Array Value) (hR : RV W ok v cs) (m : Int) (gm : Nat) (hm : W.cell? ⟨gm, 0, none⟩ = some (.int .i64 m)) :
    Calls Tryz.prog 58 #[.agg cs, .pointer (some ⟨gm, 0, none⟩)] W fun e w' => e = .returned (.bool (greatV v (wrap64 (m - 1)))) ∧ Below W.heap.size W w' := by
  obtain ⟨k, i, f, s, A, n, c, rfl⟩ := hR.form
  have HR := Aside0.mk hR
  have HG := Aside0.mk hG
  have HM := Aside0.mk hm
  clear hR hG hm
  go_enter Tryz.func58, Tryz.ntmps58
  go_wp2_with (first
    | ((with_reducible refine gate_dst (N := 2) rfl ?_); refine box_event ?hg (N := 2) ?hd (cs := #[.int .i64 k, .int .i64 i, .float .f64 f, .string s, .slice A n c]) (t := 25) ?hr ?_; (case hd => rfl); (case hg => rfl); (case hr => first | (go_simp; done) | (go_simp; rfl)); intro gb hg w1 hbox hb; have HB := Aside0.mk hb; have HR := Aside0.mk (HR.out.kept hb); have m0 : w1.cell? ⟨gm, 0, none⟩ = some (.int .i64 m) := (hb.cell (cell_in HM.out)).trans HM.out; have b0 : w1.cell? ⟨gb, 0, none⟩ = some (.int .i64 k) := blk_cell hbox 0; have b1 : w1.cell? ⟨gb, 1, none⟩ = some (.int .i64 i) := blk_cell hbox 1; have b2 : w1.cell? ⟨gb, 2, none⟩ = some (.float .f64 f) := blk_cell hbox 2; have b3 : w1.cell? ⟨gb, 3, none⟩ = some (.string s) := blk_cell hbox 3; have b4 : w1.cell? ⟨gb, 4, none⟩ = some (.slice A n c) := blk_cell hbox 4; clear hg hbox hb)
    | (go_at_call 40; refine (HG.out _ _ _ HR.out _).mono ?_; rintro e w2 ⟨rfl, hb⟩; have HB2 := Aside0.mk (below_step HB.out hb); clear hb))
  go_ret
  exact ⟨rfl, HB2.out⟩

set_option maxHeartbeats 8000000 in
set_option maxRecDepth 100000 in
theorem index71g (k i : Int) (f : Nat) (s : ByteArray) (l : List Val) (hE : ∀ (j : Nat) (hj : j < l.length), GreatC l[j]) (W : World) (ok : Nat → Prop) (x0 x1 x2 x3 : Value) (A : Option Addr) (c : Nat) (m : Int) (gm : Nat) (hm : W.cell? ⟨gm, 0, none⟩ = some (.int .i64 m))
    (hR : RV W ok (.mk k i f s l) #[x0, x1, x2, x3, .slice A l.length c]) :
    Calls Tryz.prog 71 #[.slice A l.length c, .func (.func 58) #[] #[.pointer (some ⟨gm, 0, none⟩)]] W fun e w' => ∃ r : Int, e = .returned (.int .i64 r) ∧ decide (0 ≤ r) = greats l (wrap64 (m - 1)) ∧ Below W.heap.size W w' := by
  obtain ⟨A0, c0, e0, wk, wi, wf, ws, wc, wb⟩ := hR.len
  have HI := Aside0.mk hE
  have HM := Aside0.mk hm
  have HR := Aside0.mk hR
  have HWB := Aside0.mk (show (l.length : Int) * 64 ≤ 140737488351232 by omega)
  have hnn : (0 : Int) ≤ (l.length : Int) := by omega
  have hent := enters58
  clear hE hm hR wk wi wf ws wc wb e0
  obtain ⟨n, hn⟩ : ∃ n, l.length = n := ⟨_, rfl⟩
  have HNL := Aside0.mk hn
  rw [hn] at HR HWB hnn ⊢
  clear hn
  obtain ⟨O, hO⟩ : ∃ O, greats l (wrap64 (m - 1)) = O := ⟨_, rfl⟩
  rw [hO]
  have HO := Aside0.mk hO
  clear hO
  go_enter Tryz.func71, Tryz.ntmps71
  go_wp2
  go_loopw [8] (fun ix wr => ∃ j : Nat, j ≤ n ∧ ix = .int .i64 (j : Int) ∧ Aside0 (Below W.heap.size W wr) ∧ Aside0 (greats (l.drop j) (wrap64 (m - 1)) = O)) (fun ix _ => n - (intOf ix).toNat)
  case atStart => exact ⟨0, by omega, rfl, Aside0.mk (Below.refl _ _), HO⟩
  case round =>
    obtain ⟨j, hj, rfl, HB', HOj⟩ := hrel
    by_cases hlt : j < n
    · have hji : (j : Int) < (n : Int) := by omega
      have hj0 : (0 : Int) ≤ (j : Int) := by omega
      have hjl : j < l.length := by rw [HNL.out]; exact hlt
      obtain ⟨g, off, k', i', f', s', A', n', c', rfl, hg1, hg2, hsub, p0, p1, p2, p3, p4⟩ := (HR.out.kept HB'.out).elem j hjl
      have hih := HI.out j hjl
      have HOj2 := Aside0.mk HOj.out
      rw [dropAt l j hjl, greats_cons] at HOj2
      generalize l[j] = x at hsub hih HOj2
      have HSub := Aside0.mk hsub
      have HIx := Aside0.mk hih
      obtain ⟨o, ho⟩ : ∃ o, greatV x (wrap64 (m - 1)) = o := ⟨_, rfl⟩
      have HOo := Aside0.mk ho
      have hwk : IntKind.i64.wrap ((j : Int) + 1) = ((j + 1 : Nat) : Int) := by have := HWB.out; rw [IntKind.wrap_i64]; omega
      clear hsub hih hjl hg1 hg2 ho
      rw [HOo.out] at HOj2
      cases o
      · have HN := Aside0.mk (show greats (l.drop (j + 1)) (wrap64 (m - 1)) = O by have := HOj2.out; rwa [if_neg (by decide)] at this)
        go_wp2_with (first
          | (go_at_call 58; refine (clos58 _ HIx.out _ _ _ HSub.out m gm ((HB'.out.cell (cell_in HM.out)).trans HM.out)).mono ?_; rw [HOo.out]; rintro e w4 ⟨rfl, hb⟩; have HB2 := Aside0.mk (below_step HB'.out hb); clear hb))
        go_roundw
        case rel => exact ⟨j + 1, by omega, by go_num, HB2, HN⟩
        case measure => simp [intOf]; omega
      · have HN := Aside0.mk (show true = O by have := HOj2.out; rwa [if_pos rfl] at this)
        go_wp2_with (first
          | (go_at_call 58; refine (clos58 _ HIx.out _ _ _ HSub.out m gm ((HB'.out.cell (cell_in HM.out)).trans HM.out)).mono ?_; rw [HOo.out]; rintro e w4 ⟨rfl, hb⟩; have HB2 := Aside0.mk (below_step HB'.out hb); clear hb))
        go_ret
        exact ⟨j, rfl, by rw [← HN.out]; simp, HB2.out⟩
    · obtain rfl : j = n := by omega
      have HOj2 := Aside0.mk HOj.out
      rw [show l.drop j = [] from List.drop_eq_nil_of_le (by rw [HNL.out]; omega), greats_nil] at HOj2
      go_wp2
      go_ret
      exact ⟨-1, rfl, by rw [← HOj2.out]; rfl, HB'.out⟩


set_option maxHeartbeats 8000000 in
set_option maxRecDepth 100000 in
theorem contains57g (k i : Int) (f : Nat) (s : ByteArray) (l : List Val) (hE : ∀ (j : Nat) (hj : j < l.length), GreatC l[j]) (W : World) (ok : Nat → Prop) (x0 x1 x2 x3 : Value) (A : Option Addr) (c : Nat) (m : Int) (gm : Nat) (hm : W.cell? ⟨gm, 0, none⟩ = some (.int .i64 m))
    (hR : RV W ok (.mk k i f s l) #[x0, x1, x2, x3, .slice A l.length c]) :
    Calls Tryz.prog 57 #[.slice A l.length c, .func (.func 58) #[] #[.pointer (some ⟨gm, 0, none⟩)]] W fun e w' => e = .returned (.bool (greats l (wrap64 (m - 1)))) ∧ Below W.heap.size W w' := by
  have H := Aside0.mk (index71g k i f s l hE W ok x0 x1 x2 x3 A c m gm hm hR)
  clear hE hR hm
  go_enter Tryz.func57, Tryz.ntmps57
  go_wp2_with (go_at_call 71; refine H.out.mono ?_; rintro e w1 ⟨r, rfl, hr, hb⟩; have HR := Aside0.mk hr; have HB := Aside0.mk hb; clear hr hb)
  go_ret
  exact ⟨by rw [← HR.out]; rfl, HB.out⟩

set_option maxHeartbeats 8000000 in
set_option maxRecDepth 100000 in
theorem great_3 (i : Int) (f : Nat) (s : ByteArray) (l : List Val) (A : Option Addr) (c : Nat) (m : Int)  (W : World) (ok : Nat → Prop) (hR : RV W ok (.mk 3 i f s l) #[.int .i64 3, .int .i64 i, .float .f64 f, .string s, .slice A l.length c]) :
    Calls Tryz.prog 40 #[.agg #[.int .i64 3, .int .i64 i, .float .f64 f, .string s, .slice A l.length c], .int .i64 m] W fun e w' => e = .returned (.bool (decide ((256 : Int) < (s.size : Int)))) ∧ Below W.heap.size W w' := by
  have HR := Aside0.mk hR
  clear hR
  go_enter Tryz.func40, Tryz.ntmps40
  go_wp2_with (first
    | ((with_reducible refine gate_dst (N := 2) rfl ?_); refine box_event ?hg (N := 2) ?hd (cs := #[.int .i64 3, .int .i64 i, .float .f64 f, .string s, .slice A l.length c]) (t := 25) ?hr ?_; (case hd => rfl); (case hg => rfl); (case hr => first | (go_simp; done) | (go_simp; rfl)); intro gb hg w1 hbox hb; have HB := Aside0.mk hb; have b0 : w1.cell? ⟨gb, 0, none⟩ = some (.int .i64 3) := blk_cell hbox 0; have b3 : w1.cell? ⟨gb, 3, none⟩ = some (.string s) := blk_cell hbox 3; have b4 : w1.cell? ⟨gb, 4, none⟩ = some (.slice A l.length c) := blk_cell hbox 4; have K := Aside0.mk hbox; clear hg hbox hb)
    | ((with_reducible refine gate_dst (N := 3) rfl ?_); refine box_event ?hg (N := 3) ?hd (cs := #[.int .i64 m]) (t := 3) ?hr ?_; (case hd => rfl); (case hg => rfl); (case hr => first | (go_simp; done) | (go_simp; rfl)); intro gm hg w2 hbox hb; have m0 : w2.cell? ⟨gm, 0, none⟩ = some (.int .i64 m) := blk_cell hbox 0; clear b0 b3 b4; have KB2 := Aside0.mk (blk_below K.out hb); have HB := Aside0.mk (below_step HB.out hb); have b0 : w2.cell? ⟨gb, 0, none⟩ = some (.int .i64 3) := blk_cell KB2.out 0; have b3 : w2.cell? ⟨gb, 3, none⟩ = some (.string s) := blk_cell KB2.out 3; have b4 : w2.cell? ⟨gb, 4, none⟩ = some (.slice A l.length c) := blk_cell KB2.out 4; clear hg hbox hb))
  go_ret
  exact ⟨rfl, HB.out⟩

set_option maxHeartbeats 8000000 in
set_option maxRecDepth 100000 in
theorem great_4a (i : Int) (f : Nat) (s : ByteArray) (l : List Val) (A : Option Addr) (c : Nat) (m : Int) (h : 64 < l.length) (W : World) (ok : Nat → Prop) (hR : RV W ok (.mk 4 i f s l) #[.int .i64 4, .int .i64 i, .float .f64 f, .string s, .slice A l.length c]) :
    Calls Tryz.prog 40 #[.agg #[.int .i64 4, .int .i64 i, .float .f64 f, .string s, .slice A l.length c], .int .i64 m] W fun e w' => e = .returned (.bool true) ∧ Below W.heap.size W w' := by
  have HR := Aside0.mk hR
  have h' : (64 : Int) < (l.length : Int) := by omega
  clear h
  clear hR
  go_enter Tryz.func40, Tryz.ntmps40
  go_wp2_with (first
    | ((with_reducible refine gate_dst (N := 2) rfl ?_); refine box_event ?hg (N := 2) ?hd (cs := #[.int .i64 4, .int .i64 i, .float .f64 f, .string s, .slice A l.length c]) (t := 25) ?hr ?_; (case hd => rfl); (case hg => rfl); (case hr => first | (go_simp; done) | (go_simp; rfl)); intro gb hg w1 hbox hb; have HB := Aside0.mk hb; have b0 : w1.cell? ⟨gb, 0, none⟩ = some (.int .i64 4) := blk_cell hbox 0; have b3 : w1.cell? ⟨gb, 3, none⟩ = some (.string s) := blk_cell hbox 3; have b4 : w1.cell? ⟨gb, 4, none⟩ = some (.slice A l.length c) := blk_cell hbox 4; have K := Aside0.mk hbox; clear hg hbox hb)
    | ((with_reducible refine gate_dst (N := 3) rfl ?_); refine box_event ?hg (N := 3) ?hd (cs := #[.int .i64 m]) (t := 3) ?hr ?_; (case hd => rfl); (case hg => rfl); (case hr => first | (go_simp; done) | (go_simp; rfl)); intro gm hg w2 hbox hb; have m0 : w2.cell? ⟨gm, 0, none⟩ = some (.int .i64 m) := blk_cell hbox 0; clear b0 b3 b4; have KB2 := Aside0.mk (blk_below K.out hb); have HB := Aside0.mk (below_step HB.out hb); have b0 : w2.cell? ⟨gb, 0, none⟩ = some (.int .i64 4) := blk_cell KB2.out 0; have b3 : w2.cell? ⟨gb, 3, none⟩ = some (.string s) := blk_cell KB2.out 3; have b4 : w2.cell? ⟨gb, 4, none⟩ = some (.slice A l.length c) := blk_cell KB2.out 4; clear hg hbox hb))
  go_ret
  exact ⟨rfl, HB.out⟩

set_option maxHeartbeats 8000000 in
set_option maxRecDepth 100000 in
theorem great_4b (i : Int) (f : Nat) (s : ByteArray) (l : List Val) (A : Option Addr) (c : Nat) (m : Int) (h : ¬ 64 < l.length) (hm : m < 1) (W : World) (ok : Nat → Prop) (hR : RV W ok (.mk 4 i f s l) #[.int .i64 4, .int .i64 i, .float .f64 f, .string s, .slice A l.length c]) :
    Calls Tryz.prog 40 #[.agg #[.int .i64 4, .int .i64 i, .float .f64 f, .string s, .slice A l.length c], .int .i64 m] W fun e w' => e = .returned (.bool true) ∧ Below W.heap.size W w' := by
  have HR := Aside0.mk hR
  have h' : ¬ (64 : Int) < (l.length : Int) := by omega
  clear h
  clear hR
  go_enter Tryz.func40, Tryz.ntmps40
  go_wp2_with (first
    | ((with_reducible refine gate_dst (N := 2) rfl ?_); refine box_event ?hg (N := 2) ?hd (cs := #[.int .i64 4, .int .i64 i, .float .f64 f, .string s, .slice A l.length c]) (t := 25) ?hr ?_; (case hd => rfl); (case hg => rfl); (case hr => first | (go_simp; done) | (go_simp; rfl)); intro gb hg w1 hbox hb; have HB := Aside0.mk hb; have b0 : w1.cell? ⟨gb, 0, none⟩ = some (.int .i64 4) := blk_cell hbox 0; have b3 : w1.cell? ⟨gb, 3, none⟩ = some (.string s) := blk_cell hbox 3; have b4 : w1.cell? ⟨gb, 4, none⟩ = some (.slice A l.length c) := blk_cell hbox 4; have K := Aside0.mk hbox; clear hg hbox hb)
    | ((with_reducible refine gate_dst (N := 3) rfl ?_); refine box_event ?hg (N := 3) ?hd (cs := #[.int .i64 m]) (t := 3) ?hr ?_; (case hd => rfl); (case hg => rfl); (case hr => first | (go_simp; done) | (go_simp; rfl)); intro gm hg w2 hbox hb; have m0 : w2.cell? ⟨gm, 0, none⟩ = some (.int .i64 m) := blk_cell hbox 0; clear b0 b3 b4; have KB2 := Aside0.mk (blk_below K.out hb); have HB := Aside0.mk (below_step HB.out hb); have b0 : w2.cell? ⟨gb, 0, none⟩ = some (.int .i64 4) := blk_cell KB2.out 0; have b3 : w2.cell? ⟨gb, 3, none⟩ = some (.string s) := blk_cell KB2.out 3; have b4 : w2.cell? ⟨gb, 4, none⟩ = some (.slice A l.length c) := blk_cell KB2.out 4; clear hg hbox hb))
  go_ret
  exact ⟨rfl, HB.out⟩

set_option maxHeartbeats 8000000 in
set_option maxRecDepth 100000 in
theorem great_4c (i : Int) (f : Nat) (s : ByteArray) (l : List Val) (A : Option Addr) (c : Nat) (m : Int) (h : ¬ 64 < l.length) (hm : ¬ m < 1) (hE : ∀ (j : Nat) (hj : j < l.length), GreatC l[j]) (W : World) (ok : Nat → Prop) (hR : RV W ok (.mk 4 i f s l) #[.int .i64 4, .int .i64 i, .float .f64 f, .string s, .slice A l.length c]) :
    Calls Tryz.prog 40 #[.agg #[.int .i64 4, .int .i64 i, .float .f64 f, .string s, .slice A l.length c], .int .i64 m] W fun e w' => e = .returned (.bool (greats l (wrap64 (m - 1)))) ∧ Below W.heap.size W w' := by
  have HR := Aside0.mk hR
  have h' : ¬ (64 : Int) < (l.length : Int) := by omega
  clear h
  have hmf : ∀ (fn : Fn) (first cap : Array Value) (w : World), (Instr.makeFunc fn first cap).run Tryz.prog w = .ok (.func fn first cap) w := fun _ _ _ _ => rfl
  have h57 := Aside0.mk (fun (W' : World) (hb : Below W.heap.size W W') (gm : Nat) (hm : W'.cell? ⟨gm, 0, none⟩ = some (.int .i64 m)) => contains57g 4 i f s l hE W' ok _ _ _ _ A c m gm hm (hR.kept hb))
  clear hE
  clear hR
  go_enter Tryz.func40, Tryz.ntmps40
  go_wp2_with (first
    | ((with_reducible refine gate_dst (N := 2) rfl ?_); refine box_event ?hg (N := 2) ?hd (cs := #[.int .i64 4, .int .i64 i, .float .f64 f, .string s, .slice A l.length c]) (t := 25) ?hr ?_; (case hd => rfl); (case hg => rfl); (case hr => first | (go_simp; done) | (go_simp; rfl)); intro gb hg w1 hbox hb; have HB := Aside0.mk hb; have b0 : w1.cell? ⟨gb, 0, none⟩ = some (.int .i64 4) := blk_cell hbox 0; have b3 : w1.cell? ⟨gb, 3, none⟩ = some (.string s) := blk_cell hbox 3; have b4 : w1.cell? ⟨gb, 4, none⟩ = some (.slice A l.length c) := blk_cell hbox 4; have K := Aside0.mk hbox; clear hg hbox hb)
    | ((with_reducible refine gate_dst (N := 3) rfl ?_); refine box_event ?hg (N := 3) ?hd (cs := #[.int .i64 m]) (t := 3) ?hr ?_; (case hd => rfl); (case hg => rfl); (case hr => first | (go_simp; done) | (go_simp; rfl)); intro gm hg w2 hbox hb; have m0 : w2.cell? ⟨gm, 0, none⟩ = some (.int .i64 m) := blk_cell hbox 0; clear b0 b3 b4; have KB2 := Aside0.mk (blk_below K.out hb); have HB := Aside0.mk (below_step HB.out hb); have b0 : w2.cell? ⟨gb, 0, none⟩ = some (.int .i64 4) := blk_cell KB2.out 0; have b3 : w2.cell? ⟨gb, 3, none⟩ = some (.string s) := blk_cell KB2.out 3; have b4 : w2.cell? ⟨gb, 4, none⟩ = some (.slice A l.length c) := blk_cell KB2.out 4; clear hg hbox hb)
    | (go_at_call 57; refine (h57.out _ HB.out _ m0).mono ?_; rintro e w3 ⟨rfl, hb⟩; have HB := Aside0.mk (below_step HB.out hb); clear hb))
  go_ret
  exact ⟨rfl, HB.out⟩

set_option maxHeartbeats 8000000 in
set_option maxRecDepth 100000 in
theorem great_no (k i : Int) (f : Nat) (s : ByteArray) (l : List Val) (A : Option Addr) (c : Nat) (m : Int) (h3 : k ≠ 3) (h4 : k ≠ 4) (W : World) (ok : Nat → Prop) (hR : RV W ok (.mk k i f s l) #[.int .i64 k, .int .i64 i, .float .f64 f, .string s, .slice A l.length c]) :
    Calls Tryz.prog 40 #[.agg #[.int .i64 k, .int .i64 i, .float .f64 f, .string s, .slice A l.length c], .int .i64 m] W fun e w' => e = .returned (.bool false) ∧ Below W.heap.size W w' := by
  have HR := Aside0.mk hR
  have e3 : (k == 3) = false := beq_eq_false_iff_ne.2 h3
  have e4 : (k == 4) = false := beq_eq_false_iff_ne.2 h4
  clear h3 h4
  clear hR
  go_enter Tryz.func40, Tryz.ntmps40
  go_wp2_with (first
    | ((with_reducible refine gate_dst (N := 2) rfl ?_); refine box_event ?hg (N := 2) ?hd (cs := #[.int .i64 k, .int .i64 i, .float .f64 f, .string s, .slice A l.length c]) (t := 25) ?hr ?_; (case hd => rfl); (case hg => rfl); (case hr => first | (go_simp; done) | (go_simp; rfl)); intro gb hg w1 hbox hb; have HB := Aside0.mk hb; have b0 : w1.cell? ⟨gb, 0, none⟩ = some (.int .i64 k) := blk_cell hbox 0; have b3 : w1.cell? ⟨gb, 3, none⟩ = some (.string s) := blk_cell hbox 3; have b4 : w1.cell? ⟨gb, 4, none⟩ = some (.slice A l.length c) := blk_cell hbox 4; have K := Aside0.mk hbox; clear hg hbox hb)
    | ((with_reducible refine gate_dst (N := 3) rfl ?_); refine box_event ?hg (N := 3) ?hd (cs := #[.int .i64 m]) (t := 3) ?hr ?_; (case hd => rfl); (case hg => rfl); (case hr => first | (go_simp; done) | (go_simp; rfl)); intro gm hg w2 hbox hb; have m0 : w2.cell? ⟨gm, 0, none⟩ = some (.int .i64 m) := blk_cell hbox 0; clear b0 b3 b4; have KB2 := Aside0.mk (blk_below K.out hb); have HB := Aside0.mk (below_step HB.out hb); have b0 : w2.cell? ⟨gb, 0, none⟩ = some (.int .i64 k) := blk_cell KB2.out 0; have b3 : w2.cell? ⟨gb, 3, none⟩ = some (.string s) := blk_cell KB2.out 3; have b4 : w2.cell? ⟨gb, 4, none⟩ = some (.slice A l.length c) := blk_cell KB2.out 4; clear hg hbox hb))
  go_ret
  exact ⟨rfl, HB.out⟩

theorem great40 (v : Val) : GreatC v := by
  induction v using Val.ind with
  | h k i f s l ih =>
    intro W ok cs hR m
    obtain ⟨A, c, rfl, _⟩ := hR.len
    unfold greatV
    by_cases h3 : k = 3
    · subst h3; rw [if_pos rfl]; exact great_3 i f s l A c m W ok hR
    · rw [if_neg h3]
      by_cases h4 : k = 4
      · subst h4; rw [if_pos rfl]
        by_cases h : 64 < l.length
        · rw [if_pos h]; exact great_4a i f s l A c m h W ok hR
        · rw [if_neg h]
          by_cases hm : m < 1
          · rw [if_pos hm]; exact great_4b i f s l A c m h hm W ok hR
          · rw [if_neg hm]; exact great_4c i f s l A c m h hm ih W ok hR
      · rw [if_neg h4]; exact great_no k i f s l A c m h3 h4 W ok hR
end Go.Proofs.YtejfmghjmhiodaaGreatDoor.Vz
namespace Go.Proofs.YtejfmghjmhiodaaGreatDoor.Vz
open Go.RowKit Go.Proofs.YtejfmghjmhiodaaGreatDoorW.PrintWords
set_option linter.unusedVariables false
set_option linter.unusedSimpArgs false
attribute [local go_sem] store_float

def checkV (v : Val) : Int := if strangeV v = true then 31 else if greatV v 8 = true then 22 else if 4096 < sizeV v then 22 else 0

set_option maxHeartbeats 8000000 in
set_option maxRecDepth 100000 in
theorem check17 (v : Val) (W : World) (ok : Nat → Prop) (cs : Array Value) (hR : RV W ok v cs) : Calls Tryz.prog 17 #[.agg cs] W fun e w' => e = .returned (.int .i64 (checkV v)) ∧ Below W.heap.size W w' := by
  obtain ⟨k, i, f, s, A, n, c, rfl⟩ := hR.form
  have HR := Aside0.mk hR
  have H1 := Aside0.mk (strange39 v)
  have H2 := Aside0.mk (great40 v)
  have H3 := Aside0.mk (size18 v)
  clear hR
  unfold checkV
  obtain ⟨b, hb⟩ : ∃ b, strangeV v = b := ⟨_, rfl⟩
  obtain ⟨d, hd⟩ : ∃ d, greatV v 8 = d := ⟨_, rfl⟩
  obtain ⟨z, hz⟩ : ∃ z, sizeV v = z := ⟨_, rfl⟩
  rw [hb, hd, hz]
  have G1 := Aside0.mk hb
  have G2 := Aside0.mk hd
  have G3 := Aside0.mk hz
  clear hb hd hz
  cases b
  · cases d
    · by_cases h : 4096 < z
      · rw [if_neg (by decide), if_neg (by decide), if_pos h]
        go_enter Tryz.func17, Tryz.ntmps17
        go_wp2_with (first
          | ((with_reducible refine gate_dst (N := 1) rfl ?_); refine box_event ?hg (N := 1) ?hd (cs := #[.int .i64 k, .int .i64 i, .float .f64 f, .string s, .slice A n c]) (t := 25) ?hr ?_; (case hd => rfl); (case hg => rfl); (case hr => first | (go_simp; done) | (go_simp; rfl)); intro gb hg w1 hbox hb; have HB := Aside0.mk hb; have HR := Aside0.mk (HR.out.kept hb); have KB := Aside0.mk hbox; have b0 : w1.cell? ⟨gb, 0, none⟩ = some (.int .i64 k) := blk_cell KB.out 0; have b1 : w1.cell? ⟨gb, 1, none⟩ = some (.int .i64 i) := blk_cell KB.out 1; have b2 : w1.cell? ⟨gb, 2, none⟩ = some (.float .f64 f) := blk_cell KB.out 2; have b3 : w1.cell? ⟨gb, 3, none⟩ = some (.string s) := blk_cell KB.out 3; have b4 : w1.cell? ⟨gb, 4, none⟩ = some (.slice A n c) := blk_cell KB.out 4; clear hg hbox hb)
          | (go_at_call 39; refine (H1.out _ _ _ HR.out).mono ?_; rw [G1.out]; rintro e w2 ⟨rfl, hb⟩; have HB := Aside0.mk (below_step HB.out hb); have HR := Aside0.mk (HR.out.kept hb); have KB := Aside0.mk (blk_below KB.out hb); clear b0 b1 b2 b3 b4; have b0 : w2.cell? ⟨gb, 0, none⟩ = some (.int .i64 k) := blk_cell KB.out 0; have b1 : w2.cell? ⟨gb, 1, none⟩ = some (.int .i64 i) := blk_cell KB.out 1; have b2 : w2.cell? ⟨gb, 2, none⟩ = some (.float .f64 f) := blk_cell KB.out 2; have b3 : w2.cell? ⟨gb, 3, none⟩ = some (.string s) := blk_cell KB.out 3; have b4 : w2.cell? ⟨gb, 4, none⟩ = some (.slice A n c) := blk_cell KB.out 4; clear hb)
          | (go_at_call 40; refine (H2.out _ _ _ HR.out 8).mono ?_; rw [G2.out]; rintro e w3 ⟨rfl, hb⟩; have HB := Aside0.mk (below_step HB.out hb); have HR := Aside0.mk (HR.out.kept hb); have KB := Aside0.mk (blk_below KB.out hb); clear b0 b1 b2 b3 b4; have b0 : w3.cell? ⟨gb, 0, none⟩ = some (.int .i64 k) := blk_cell KB.out 0; have b1 : w3.cell? ⟨gb, 1, none⟩ = some (.int .i64 i) := blk_cell KB.out 1; have b2 : w3.cell? ⟨gb, 2, none⟩ = some (.float .f64 f) := blk_cell KB.out 2; have b3 : w3.cell? ⟨gb, 3, none⟩ = some (.string s) := blk_cell KB.out 3; have b4 : w3.cell? ⟨gb, 4, none⟩ = some (.slice A n c) := blk_cell KB.out 4; clear hb)
          | (go_at_call 18; refine (H3.out _ _ _ HR.out).mono ?_; rw [G3.out]; rintro e w4 ⟨rfl, hb⟩; have HB := Aside0.mk (below_step HB.out hb); clear hb))
        go_ret
        exact ⟨rfl, HB.out⟩
      · rw [if_neg (by decide), if_neg (by decide), if_neg h]
        go_enter Tryz.func17, Tryz.ntmps17
        go_wp2_with (first
          | ((with_reducible refine gate_dst (N := 1) rfl ?_); refine box_event ?hg (N := 1) ?hd (cs := #[.int .i64 k, .int .i64 i, .float .f64 f, .string s, .slice A n c]) (t := 25) ?hr ?_; (case hd => rfl); (case hg => rfl); (case hr => first | (go_simp; done) | (go_simp; rfl)); intro gb hg w1 hbox hb; have HB := Aside0.mk hb; have HR := Aside0.mk (HR.out.kept hb); have KB := Aside0.mk hbox; have b0 : w1.cell? ⟨gb, 0, none⟩ = some (.int .i64 k) := blk_cell KB.out 0; have b1 : w1.cell? ⟨gb, 1, none⟩ = some (.int .i64 i) := blk_cell KB.out 1; have b2 : w1.cell? ⟨gb, 2, none⟩ = some (.float .f64 f) := blk_cell KB.out 2; have b3 : w1.cell? ⟨gb, 3, none⟩ = some (.string s) := blk_cell KB.out 3; have b4 : w1.cell? ⟨gb, 4, none⟩ = some (.slice A n c) := blk_cell KB.out 4; clear hg hbox hb)
          | (go_at_call 39; refine (H1.out _ _ _ HR.out).mono ?_; rw [G1.out]; rintro e w2 ⟨rfl, hb⟩; have HB := Aside0.mk (below_step HB.out hb); have HR := Aside0.mk (HR.out.kept hb); have KB := Aside0.mk (blk_below KB.out hb); clear b0 b1 b2 b3 b4; have b0 : w2.cell? ⟨gb, 0, none⟩ = some (.int .i64 k) := blk_cell KB.out 0; have b1 : w2.cell? ⟨gb, 1, none⟩ = some (.int .i64 i) := blk_cell KB.out 1; have b2 : w2.cell? ⟨gb, 2, none⟩ = some (.float .f64 f) := blk_cell KB.out 2; have b3 : w2.cell? ⟨gb, 3, none⟩ = some (.string s) := blk_cell KB.out 3; have b4 : w2.cell? ⟨gb, 4, none⟩ = some (.slice A n c) := blk_cell KB.out 4; clear hb)
          | (go_at_call 40; refine (H2.out _ _ _ HR.out 8).mono ?_; rw [G2.out]; rintro e w3 ⟨rfl, hb⟩; have HB := Aside0.mk (below_step HB.out hb); have HR := Aside0.mk (HR.out.kept hb); have KB := Aside0.mk (blk_below KB.out hb); clear b0 b1 b2 b3 b4; have b0 : w3.cell? ⟨gb, 0, none⟩ = some (.int .i64 k) := blk_cell KB.out 0; have b1 : w3.cell? ⟨gb, 1, none⟩ = some (.int .i64 i) := blk_cell KB.out 1; have b2 : w3.cell? ⟨gb, 2, none⟩ = some (.float .f64 f) := blk_cell KB.out 2; have b3 : w3.cell? ⟨gb, 3, none⟩ = some (.string s) := blk_cell KB.out 3; have b4 : w3.cell? ⟨gb, 4, none⟩ = some (.slice A n c) := blk_cell KB.out 4; clear hb)
          | (go_at_call 18; refine (H3.out _ _ _ HR.out).mono ?_; rw [G3.out]; rintro e w4 ⟨rfl, hb⟩; have HB := Aside0.mk (below_step HB.out hb); clear hb))
        go_ret
        exact ⟨rfl, HB.out⟩
    · rw [if_neg (by decide), if_pos rfl]
      go_enter Tryz.func17, Tryz.ntmps17
      go_wp2_with (first
        | ((with_reducible refine gate_dst (N := 1) rfl ?_); refine box_event ?hg (N := 1) ?hd (cs := #[.int .i64 k, .int .i64 i, .float .f64 f, .string s, .slice A n c]) (t := 25) ?hr ?_; (case hd => rfl); (case hg => rfl); (case hr => first | (go_simp; done) | (go_simp; rfl)); intro gb hg w1 hbox hb; have HB := Aside0.mk hb; have HR := Aside0.mk (HR.out.kept hb); have KB := Aside0.mk hbox; have b0 : w1.cell? ⟨gb, 0, none⟩ = some (.int .i64 k) := blk_cell KB.out 0; have b1 : w1.cell? ⟨gb, 1, none⟩ = some (.int .i64 i) := blk_cell KB.out 1; have b2 : w1.cell? ⟨gb, 2, none⟩ = some (.float .f64 f) := blk_cell KB.out 2; have b3 : w1.cell? ⟨gb, 3, none⟩ = some (.string s) := blk_cell KB.out 3; have b4 : w1.cell? ⟨gb, 4, none⟩ = some (.slice A n c) := blk_cell KB.out 4; clear hg hbox hb)
        | (go_at_call 39; refine (H1.out _ _ _ HR.out).mono ?_; rw [G1.out]; rintro e w2 ⟨rfl, hb⟩; have HB := Aside0.mk (below_step HB.out hb); have HR := Aside0.mk (HR.out.kept hb); have KB := Aside0.mk (blk_below KB.out hb); clear b0 b1 b2 b3 b4; have b0 : w2.cell? ⟨gb, 0, none⟩ = some (.int .i64 k) := blk_cell KB.out 0; have b1 : w2.cell? ⟨gb, 1, none⟩ = some (.int .i64 i) := blk_cell KB.out 1; have b2 : w2.cell? ⟨gb, 2, none⟩ = some (.float .f64 f) := blk_cell KB.out 2; have b3 : w2.cell? ⟨gb, 3, none⟩ = some (.string s) := blk_cell KB.out 3; have b4 : w2.cell? ⟨gb, 4, none⟩ = some (.slice A n c) := blk_cell KB.out 4; clear hb)
        | (go_at_call 40; refine (H2.out _ _ _ HR.out 8).mono ?_; rw [G2.out]; rintro e w3 ⟨rfl, hb⟩; have HB := Aside0.mk (below_step HB.out hb); have HR := Aside0.mk (HR.out.kept hb); have KB := Aside0.mk (blk_below KB.out hb); clear b0 b1 b2 b3 b4; have b0 : w3.cell? ⟨gb, 0, none⟩ = some (.int .i64 k) := blk_cell KB.out 0; have b1 : w3.cell? ⟨gb, 1, none⟩ = some (.int .i64 i) := blk_cell KB.out 1; have b2 : w3.cell? ⟨gb, 2, none⟩ = some (.float .f64 f) := blk_cell KB.out 2; have b3 : w3.cell? ⟨gb, 3, none⟩ = some (.string s) := blk_cell KB.out 3; have b4 : w3.cell? ⟨gb, 4, none⟩ = some (.slice A n c) := blk_cell KB.out 4; clear hb)
        | (go_at_call 18; refine (H3.out _ _ _ HR.out).mono ?_; rw [G3.out]; rintro e w4 ⟨rfl, hb⟩; have HB := Aside0.mk (below_step HB.out hb); clear hb))
      go_ret
      exact ⟨rfl, HB.out⟩
  · rw [if_pos rfl]
    go_enter Tryz.func17, Tryz.ntmps17
    go_wp2_with (first
      | ((with_reducible refine gate_dst (N := 1) rfl ?_); refine box_event ?hg (N := 1) ?hd (cs := #[.int .i64 k, .int .i64 i, .float .f64 f, .string s, .slice A n c]) (t := 25) ?hr ?_; (case hd => rfl); (case hg => rfl); (case hr => first | (go_simp; done) | (go_simp; rfl)); intro gb hg w1 hbox hb; have HB := Aside0.mk hb; have HR := Aside0.mk (HR.out.kept hb); have KB := Aside0.mk hbox; have b0 : w1.cell? ⟨gb, 0, none⟩ = some (.int .i64 k) := blk_cell KB.out 0; have b1 : w1.cell? ⟨gb, 1, none⟩ = some (.int .i64 i) := blk_cell KB.out 1; have b2 : w1.cell? ⟨gb, 2, none⟩ = some (.float .f64 f) := blk_cell KB.out 2; have b3 : w1.cell? ⟨gb, 3, none⟩ = some (.string s) := blk_cell KB.out 3; have b4 : w1.cell? ⟨gb, 4, none⟩ = some (.slice A n c) := blk_cell KB.out 4; clear hg hbox hb)
      | (go_at_call 39; refine (H1.out _ _ _ HR.out).mono ?_; rw [G1.out]; rintro e w2 ⟨rfl, hb⟩; have HB := Aside0.mk (below_step HB.out hb); have HR := Aside0.mk (HR.out.kept hb); have KB := Aside0.mk (blk_below KB.out hb); clear b0 b1 b2 b3 b4; have b0 : w2.cell? ⟨gb, 0, none⟩ = some (.int .i64 k) := blk_cell KB.out 0; have b1 : w2.cell? ⟨gb, 1, none⟩ = some (.int .i64 i) := blk_cell KB.out 1; have b2 : w2.cell? ⟨gb, 2, none⟩ = some (.float .f64 f) := blk_cell KB.out 2; have b3 : w2.cell? ⟨gb, 3, none⟩ = some (.string s) := blk_cell KB.out 3; have b4 : w2.cell? ⟨gb, 4, none⟩ = some (.slice A n c) := blk_cell KB.out 4; clear hb)
      | (go_at_call 40; refine (H2.out _ _ _ HR.out 8).mono ?_; rw [G2.out]; rintro e w3 ⟨rfl, hb⟩; have HB := Aside0.mk (below_step HB.out hb); have HR := Aside0.mk (HR.out.kept hb); have KB := Aside0.mk (blk_below KB.out hb); clear b0 b1 b2 b3 b4; have b0 : w3.cell? ⟨gb, 0, none⟩ = some (.int .i64 k) := blk_cell KB.out 0; have b1 : w3.cell? ⟨gb, 1, none⟩ = some (.int .i64 i) := blk_cell KB.out 1; have b2 : w3.cell? ⟨gb, 2, none⟩ = some (.float .f64 f) := blk_cell KB.out 2; have b3 : w3.cell? ⟨gb, 3, none⟩ = some (.string s) := blk_cell KB.out 3; have b4 : w3.cell? ⟨gb, 4, none⟩ = some (.slice A n c) := blk_cell KB.out 4; clear hb)
      | (go_at_call 18; refine (H3.out _ _ _ HR.out).mono ?_; rw [G3.out]; rintro e w4 ⟨rfl, hb⟩; have HB := Aside0.mk (below_step HB.out hb); clear hb))
    go_ret
    exact ⟨rfl, HB.out⟩
end Go.Proofs.YtejfmghjmhiodaaGreatDoor.Vz
namespace Go.Proofs.YtejfmghjmhiodaaGreatDoor.Vz
open Go.RowKit Go.Proofs.YtejfmghjmhiodaaGreatDoorW.PrintWords
set_option linter.unusedVariables false
set_option linter.unusedSimpArgs false
attribute [local go_sem] store_float

set_option maxHeartbeats 8000000 in
set_option maxRecDepth 100000 in
theorem txt_list (i : Int) (f : Nat) (s : ByteArray) (l : List Val) (ts : List ByteArray) (hl : ts.length = l.length) (h0 : 0 < l.length) (hn : l.length ≤ 1000) (hE : ∀ (j : Nat) (hj : j < l.length), TxtC l[j] (ts.getD j ⟨#[]⟩)) (J : ByteArray) (hJ : Lib.join (ts.map (·.data.toList)) [44, 32] = J.data.toList) (hJl : J.size ≤ 1000) :
    TxtC (.mk 4 i f s l) ((⟨#[91]⟩ ++ J) ++ ⟨#[93]⟩) := by
  intro W ok cs T hR
  obtain ⟨A, c, rfl, wk, wi, wf, ws, wc, wb⟩ := hR.len
  have HJ : ∀ (bk c : Nat) (w : World), bk < w.heap.size → ts.length ≤ c → (∀ (j : Nat) x, ts[j]? = some x → w.cell? ⟨bk, j, none⟩ = some (.string x)) → Calls Tryz.prog 47 #[.slice (some ⟨bk, 0, none⟩) ts.length c, .string ⟨#[44, 32]⟩] w fun e w' => e = .returned (.string J) ∧ Below w.heap.size w w' := by
    intro bk c w h1 h2 h3
    have hj2 : Lib.join (ts.map (·.data.toList)) (ByteArray.mk #[44, 32]).data.toList = J.data.toList := hJ
    have h := Tryz.strings_Join bk 0 c ts ⟨#[44, 32]⟩ w (fun j x hx => by rw [Nat.zero_add]; exact h3 j x hx) h1 (by omega) h2 (by rw [hj2]; simp; have : J.size = J.data.size := rfl; omega)
    rw [hj2] at h
    simpa using h
  have HI := Aside0.mk hE
  have HR := Aside0.mk hR
  have HT := Aside0.mk T
  have HJJ := Aside0.mk HJ
  have HLT := Aside0.mk hl
  have HL0 := Aside0.mk h0
  have HWB := Aside0.mk (show (l.length : Int) ≤ 1000 by omega)
  have hnn : (0 : Int) ≤ (l.length : Int) := by omega
  have ha1 : (ByteArray.mk #[91]).size + J.size ≤ 9223372036854775807 := by have : (ByteArray.mk #[91]).size = 1 := rfl; omega
  have ha2 : ((ByteArray.mk #[91]) ++ J).size + (ByteArray.mk #[93]).size ≤ 9223372036854775807 := by
    have : (ByteArray.mk #[91]).size = 1 := rfl
    have : (ByteArray.mk #[93]).size = 1 := rfl
    rw [ByteArray.size_append]
    omega
  have hp1 : ∀ w, (Op.stringOp .add (ByteArray.mk #[91]) J).run Tryz.prog w = .ok (.string (ByteArray.mk #[91] ++ J)) w := fun w => run_string_add_sum w _ _ ha1
  have hp2 : ∀ w, (Op.stringOp .add (ByteArray.mk #[91] ++ J) (ByteArray.mk #[93])).run Tryz.prog w = .ok (.string (ByteArray.mk #[91] ++ J ++ ByteArray.mk #[93])) w := fun w => run_string_add_sum w _ _ ha2
  clear hE hR T HJ hl h0 hn hJ hJl wk wi wf ws wc wb ha1 ha2
  obtain ⟨n, hn⟩ : ∃ n, l.length = n := ⟨_, rfl⟩
  have HNL := Aside0.mk hn
  rw [hn] at HR HWB hnn HLT HL0 ⊢
  clear hn
  go_enter Tryz.func22, Tryz.ntmps22
  go_upto_region 10 with (first
    | ((with_reducible refine gate_dst (N := 1) rfl ?_); refine box_event ?hg (N := 1) ?hd (cs := #[.int .i64 4, .int .i64 i, .float .f64 f, .string s, .slice A n c]) (t := 25) ?hr ?_; (case hd => rfl); (case hg => rfl); (case hr => first | (go_simp; done) | (go_simp; rfl)); intro gb hg w1 hbox hb; have HB := Aside0.mk hb; have KB := Aside0.mk hbox; have b0 : w1.cell? ⟨gb, 0, none⟩ = some (.int .i64 4) := blk_cell hbox 0; clear hg hbox hb))
  clear b0
  have b4 : w1.cell? ⟨gb, 4, none⟩ = some (.slice A n c) := blk_cell KB.out 4
  go_wp2
  clear b4
  go_loopw [3, 28] (fun vx ix wr => ∃ j : Nat, j ≤ n ∧ ix = .int .i64 (j : Int) ∧ Aside0 (Below W.heap.size W wr) ∧ Aside0 (wr.ownsRow W.heap.size 9 1 vx j ((ts.take j).map Value.string))) (fun _ ix _ => n - (intOf ix).toNat)
  case atStart => exact ⟨0, by omega, rfl, HB, Aside0.mk ⟨rfl, .inl ⟨rfl, rfl⟩⟩⟩
  case round =>
    obtain ⟨j, hj, rfl, HB', HO⟩ := hrel
    by_cases hlt : j < n
    · have hji : (j : Int) < (n : Int) := by omega
      have hj0 : (0 : Int) ≤ (j : Int) := by omega
      have hjl : j < l.length := by rw [HNL.out]; exact hlt
      obtain ⟨g, off, k', i', f', s', A', n', c', rfl, hg1, hg2, hsub, p0, p1, p2, p3, p4⟩ := (HR.out.kept HB'.out).elem j hjl
      have hih := HI.out j hjl
      generalize l[j] = x at hsub hih
      obtain ⟨t, ht⟩ : ∃ t, ts.getD j ⟨#[]⟩ = t := ⟨_, rfl⟩
      rw [ht] at hih
      have HTK := Aside0.mk (show (ts.take (j + 1)).map Value.string = (ts.take j).map Value.string ++ [.string t] by
        have hjt : j < ts.length := by rw [HLT.out]; exact hlt
        rw [List.take_add_one, List.getElem?_eq_getElem hjt, List.map_append, ← ht, List.getD_eq_getElem?_getD, List.getElem?_eq_getElem hjt]; rfl)
      have HLX := Aside0.mk (show ((ts.take j).map Value.string).length = j by simp; rw [HLT.out]; omega)
      have HLX2 := Aside0.mk (show ((ts.take (j + 1)).map Value.string).length = j + 1 by simp; rw [HLT.out]; omega)
      have HSub := Aside0.mk hsub
      have HIx := Aside0.mk hih
      have hwk : IntKind.i64.wrap ((j : Int) + 1) = ((j + 1 : Nat) : Int) := by have := HWB.out; rw [IntKind.wrap_i64]; omega
      clear hsub hih hjl hg1 hg2 ht
      go_wp2_with (first
        | ((with_reducible refine gate_dst (N := 5) rfl ?_); refine box_event ?hg (N := 5) ?hd (cs := #[.int .i64 0, .int .i64 0, .float .f64 0, .string ⟨#[]⟩, .slice none 0 0]) (t := 25) ?hr ?_; (case hd => rfl); (case hg => rfl); (case hr => first | (go_simp; done) | (go_simp; rfl)); intro g5 hg w2 hbox hb; have H2 := Aside0.mk hb; have K5 := Aside0.mk hbox; have HG5 := Aside0.mk (show wr.heap.size ≤ g5 by omega); clear hg hbox hb)
        | ((with_reducible refine gate_store (t := 25) (p := 5) rfl ?_); refine put_eventU ?hg (t := 25) (p := 5) (v := .tmp 31) ?ho ?hN (g := g5) (u := .agg #[.int .i64 k', .int .i64 i', .float .f64 f', .string s', .slice A' n' c']) (cs := #[.int .i64 k', .int .i64 i', .float .f64 f', .string s', .slice A' n' c']) ?hp ?hv K5.out ?hs ?hi ?h1 ?hc ?_; (case hs => rfl); (case hi => kernel_rfl); (case h1 => simp [Value.oneCell']); (case hc => simp [Value.cells]); (case hg => rfl); (case ho => rfl); (case hN => rfl); (case hp => rfl); (case hv => rfl); intro w3 hk hs; have H3 := Aside0.mk (below_keep H2.out HG5.out hs); have HS := Aside0.mk (HSub.out.kept H3.out); have a0 : w3.cell? ⟨g5, 0, none⟩ = some (.int .i64 k') := blk_cell hk 0; have a1 : w3.cell? ⟨g5, 1, none⟩ = some (.int .i64 i') := blk_cell hk 1; have a2 : w3.cell? ⟨g5, 2, none⟩ = some (.float .f64 f') := blk_cell hk 2; have a3 : w3.cell? ⟨g5, 3, none⟩ = some (.string s') := blk_cell hk 3; have a4 : w3.cell? ⟨g5, 4, none⟩ = some (.slice A' n' c') := blk_cell hk 4; clear hk hs)
        | (go_at_call 22; refine (HIx.out _ _ _ (HT.out.below (below_step HB'.out H3.out)) HS.out).mono ?_; rintro e w4 ⟨rfl, hb⟩; have HB2 := Aside0.mk (below_step HB'.out (below_step H3.out hb)); have HO2 := Aside0.mk (own_save HO.out (Save.of (S := fun _ => False) (below_step H3.out hb)) (fun _ _ x => x)); clear hb)
        | ((with_reducible refine gate_builtin (b := .append) (xs := #[.tmp 32, .tmp 35]) rfl ?_); at_builtin; refine print_append (w0 := W) W.heap.size rfl (.tmp 32) (.tmp 35) 61 9 (.string ⟨#[]⟩) 16 rfl Tryz.underlying61 info9 rfl (by decide) _ ((ts.take j).map Value.string) (.string t) rfl rfl rfl ?HO ?HB ?hbase ?hl ?_; (case HO => rw [HLX.out]; exact HO2.out); (case HB => exact HB2.out); (case hbase => exact HB2.out.size); (case hl => rw [HLX.out]; have := HWB.out; omega); intro v1 w5 ho hb hg hat; rw [← HTK.out, HLX2.out] at ho; have HO3 := Aside0.mk ho; have HB3 := Aside0.mk hb; clear ho hb hg hat))
      go_roundw
      case rel => exact ⟨j + 1, by omega, by go_num, HB3, HO3⟩
      case measure => simp [intOf]; omega
    · obtain rfl : j = n := by omega
      have ho := HO.out
      rw [← HLT.out, List.take_length] at ho
      obtain ⟨g, cap, rfl, hgb, hgl, hcap⟩ : ∃ (g cap : Nat), u3 = .slice (some ⟨g, 0, none⟩) j cap ∧ g < wr.heap.size ∧ (∀ (q : Nat) x, ts[q]? = some x → wr.cell? ⟨g, q, none⟩ = some (.string x)) ∧ ts.length ≤ cap := by
        obtain ⟨g, cap, hv, _, hlt2⟩ := ho.form (by rw [HLT.out]; exact HL0.out)
        refine ⟨g, cap, by rw [hv, HLT.out], hlt2, fun q x hx => ?_, ?_⟩
        · have hc := ho.cells (g := g) (by rw [hv]; rfl) q (.string x) (by rw [List.getElem?_map, hx]; rfl)
          rwa [add_plain] at hc
        · rcases ho.2 with ⟨h1, h2⟩ | ⟨g2, cap2, cur, h1, _, _, h3, _⟩
          · rw [hv] at h1; cases h1
          · rw [hv] at h1; injection h1 with h4 h5 h6; omega
      have hj47 := HJJ.out g cap _ hgb hcap hgl
      rw [HLT.out] at hj47
      go_wp2_with (go_at_call 47; refine hj47.mono ?_; rintro e w6 ⟨rfl, hb⟩; have HB6 := Aside0.mk (below_step HB'.out hb); clear hb)
      go_ret
      exact ⟨rfl, HB6.out⟩
end Go.Proofs.YtejfmghjmhiodaaGreatDoor.Vz
namespace Go.Proofs.YtejfmghjmhiodaaGreatDoor.Vz
open Go.RowKit Go.Proofs.YtejfmghjmhiodaaGreatDoorW.PrintWords
set_option linter.unusedVariables false
set_option linter.unusedSimpArgs false
attribute [local go_sem] store_float

set_option maxHeartbeats 8000000 in
set_option maxRecDepth 100000 in
theorem list16 (A : Option Addr) (n c : Nat) (W : World) : Calls Tryz.prog 16 #[.slice A n c] W fun e w' => e = .returned (.agg #[.int .i64 4, .int .i64 0, .float .f64 0, .string ⟨#[]⟩, .slice A n c]) ∧ Below W.heap.size W w' := by
  go_enter Tryz.func16, Tryz.ntmps16
  go_wp2_with (first
    | ((with_reducible refine gate_dst (N := 2) rfl ?_); refine box_event ?hg (N := 2) ?hd (cs := #[.int .i64 0, .int .i64 0, .float .f64 0, .string ⟨#[]⟩, .slice none 0 0]) (t := 25) ?hr ?_; (case hd => rfl); (case hg => rfl); (case hr => first | (go_simp; done) | (go_simp; rfl)); intro g hg w1 hbox hb; have HB := Aside0.mk hb; have HG := Aside0.mk (show W.heap.size ≤ g by omega); have K := Aside0.mk hbox; clear hg hbox hb)
    | ((with_reducible refine gate_store (t := 25) (p := 2) rfl ?_); refine put_eventU ?hg (t := 25) (p := 2) (v := .tmp 4) ?ho ?hN (g := g) (u := .agg #[.int .i64 4, .int .i64 0, .float .f64 0, .string ⟨#[]⟩, .slice A n c]) (cs := #[.int .i64 4, .int .i64 0, .float .f64 0, .string ⟨#[]⟩, .slice A n c]) ?hp ?hv K.out ?hs ?hi ?h1 ?hc ?_; (case hs => rfl); (case hi => kernel_rfl); (case h1 => simp [Value.oneCell']); (case hc => simp [Value.cells]); (case hg => rfl); (case ho => rfl); (case hN => rfl); (case hp => rfl); (case hv => rfl); intro w3 hk hs; have HB := Aside0.mk (below_keep HB.out HG.out hs); have K := Aside0.mk hk; clear hk hs))
  have q0 := blk_cell K.out 0
  have q1 := blk_cell K.out 1
  have q2 := blk_cell K.out 2
  have q3 := blk_cell K.out 3
  have q4 := blk_cell K.out 4
  simp at q0 q1 q2 q3 q4
  refine bodyPost_ret (v := .agg #[.int .i64 4, .int .i64 0, .float .f64 0, .string ⟨#[]⟩, .slice A n c]) ?_ rfl ⟨rfl, HB.out⟩
  simp [results, Tryz.results16, go_sem, q0, q1, q2, q3, q4]

theorem mk_zero (W : World) : Calls Tryz.prog 12 #[.float .f64 0] W fun e w' => e = .returned (.agg #[.int .i64 2, .int .i64 0, .float .f64 0, .string ⟨#[]⟩, .slice none 0 0]) ∧ Below W.heap.size W w' := by
  have h := float31 0 W
  rwa [show canon 0 = 0 by decide +kernel] at h

theorem mk_half (W : World) : Calls Tryz.prog 12 #[.float .f64 4602678819172646912] W fun e w' => e = .returned (.agg #[.int .i64 2, .int .i64 0, .float .f64 4602678819172646912, .string ⟨#[]⟩, .slice none 0 0]) ∧ Below W.heap.size W w' := by
  have h := float31 4602678819172646912 W
  rwa [show canon 4602678819172646912 = 4602678819172646912 by decide +kernel] at h

theorem mk_two (W : World) : Calls Tryz.prog 12 #[.float .f64 4611686018427387904] W fun e w' => e = .returned (.agg #[.int .i64 2, .int .i64 0, .float .f64 4611686018427387904, .string ⟨#[]⟩, .slice none 0 0]) ∧ Below W.heap.size W w' := by
  have h := float31 4611686018427387904 W
  rwa [show canon 4611686018427387904 = 4611686018427387904 by decide +kernel] at h

theorem mk_one (W : World) : Calls Tryz.prog 12 #[.float .f64 4607182418800017408] W fun e w' => e = .returned (.agg #[.int .i64 2, .int .i64 0, .float .f64 4607182418800017408, .string ⟨#[]⟩, .slice none 0 0]) ∧ Below W.heap.size W w' := by
  have h := float31 4607182418800017408 W
  rwa [show canon 4607182418800017408 = 4607182418800017408 by decide +kernel] at h

theorem canon_zero (W : World) : Calls Tryz.prog 28 #[.float .f64 0] W fun e w' => e = .returned (.float .f64 0) ∧ w' = W := by
  have h := canon38 0 W
  rwa [show canon 0 = 0 by decide +kernel] at h
def vInt1 : Val := .mk 1 1 0 ⟨#[]⟩ []
def vHalf : Val := .mk 2 0 4602678819172646912 ⟨#[]⟩ []
def vA : Val := .mk 3 0 0 ⟨#[97]⟩ []
def vL : Val := .mk 4 0 0 ⟨#[]⟩ [vInt1, vHalf, vA]
theorem vL_text : TxtC vL ⟨#[91, 49, 44, 32, 48, 46, 53, 44, 32, 34, 97, 34, 93]⟩ := by
  have h := txt_list 0 0 ⟨#[]⟩ [vInt1, vHalf, vA] [⟨#[49]⟩, ⟨#[48, 46, 53]⟩, ⟨#[34, 97, 34]⟩] rfl (by decide) (by decide) (fun j hj => by
    match j, hj with
    | 0, _ => exact txt_int1 _ _ _
    | 1, _ => exact txt_half _ _ _
    | 2, _ => exact txt_a _ _ _) ⟨#[49, 44, 32, 48, 46, 53, 44, 32, 34, 97, 34]⟩ (by decide +kernel) (by decide)
  exact h
theorem vL_equal : equalV vL vL = true := by decide +kernel
theorem vL_check : checkV vL = 0 := by decide +kernel
theorem v9_check : checkV (.mk 9 0 0 ⟨#[]⟩ []) = 31 := by decide +kernel
theorem vL_size : sizeV vL = 24 := by decide +kernel
theorem v_order : order (.mk 2 0 0 ⟨#[]⟩ []) (.mk 2 0 4607182418800017408 ⟨#[]⟩ []) = -1 := by decide +kernel
end Go.Proofs.YtejfmghjmhiodaaGreatDoor.Vz
namespace Go.Proofs.YtejfmghjmhiodaaGreatDoor.Vz
open Go.RowKit Go.Proofs.YtejfmghjmhiodaaGreatDoorW.PrintWords
set_option linter.unusedVariables false
set_option linter.unusedSimpArgs false
attribute [local go_sem] store_float

theorem vL_RV {W : World} {gl : Nat} (K : W.heap[gl]? = some (.cells #[.int .i64 1, .int .i64 1, .float .f64 0, .string ⟨#[]⟩, .slice none 0 0, .int .i64 2, .int .i64 0, .float .f64 4602678819172646912, .string ⟨#[]⟩, .slice none 0 0, .int .i64 3, .int .i64 0, .float .f64 0, .string ⟨#[97]⟩, .slice none 0 0] 25 (0, 0))) : RV W (fun _ => True) vL #[.int .i64 4, .int .i64 0, .float .f64 0, .string ⟨#[]⟩, .slice (some ⟨gl, 0, none⟩) 3 3] := by
  refine .mk 4 0 0 ⟨#[]⟩ [vInt1, vHalf, vA] (some ⟨gl, 0, none⟩) 3 gl 0 (fun j => if j = 0 then #[.int .i64 1, .int .i64 1, .float .f64 0, .string ⟨#[]⟩, .slice none 0 0] else if j = 1 then #[.int .i64 2, .int .i64 0, .float .f64 4602678819172646912, .string ⟨#[]⟩, .slice none 0 0] else #[.int .i64 3, .int .i64 0, .float .f64 0, .string ⟨#[97]⟩, .slice none 0 0]) (by decide) (by decide) (by decide) (by decide) (by decide) (by decide) (fun _ => ⟨rfl, trivial⟩) ?_ ?_
  · intro j hj q hq
    have hj3 : j < 3 := hj
    rw [Nat.zero_add, blk_cell K]
    match j, hj3 with
    | 0, _ => match q, hq with
      | 0, _ => rfl
      | 1, _ => rfl
      | 2, _ => rfl
      | 3, _ => rfl
      | 4, _ => rfl
    | 1, _ => match q, hq with
      | 0, _ => rfl
      | 1, _ => rfl
      | 2, _ => rfl
      | 3, _ => rfl
      | 4, _ => rfl
    | 2, _ => match q, hq with
      | 0, _ => rfl
      | 1, _ => rfl
      | 2, _ => rfl
      | 3, _ => rfl
      | 4, _ => rfl
  · intro j hj
    match j, hj with
    | 0, _ => exact RV.flat (by decide) (by decide) (by decide) (by decide)
    | 1, _ => exact RV.flat (by decide) (by decide) (by decide +kernel) (by decide)
    | 2, _ => exact RV.flat (by decide) (by decide) (by decide) (by decide)
theorem flatRV (W : World) (k : Int) (f : Nat) (hk : (Lit.int .i64 k).wf = true) (hf : (Lit.float .f64 f).wf = true) : RV W (fun _ => True) (.mk k 0 f ⟨#[]⟩ []) #[.int .i64 k, .int .i64 0, .float .f64 f, .string ⟨#[]⟩, .slice none 0 0] := RV.flat hk (by decide) hf (by decide)
theorem tenK {W w : World} {g2 g1 gl : Nat} (K2 : W.heap[g2]? = some (.cells #[.int .i64 4, .int .i64 0, .float .f64 0, .string ⟨#[]⟩, .slice (some ⟨gl, 0, none⟩) 3 3] 25 (0, 0))) (K1 : W.heap[g1]? = some (.cells #[.int .i64 2, .int .i64 0, .float .f64 0, .string ⟨#[]⟩, .slice none 0 0] 25 (0, 0))) (h : Below W.heap.size W w) : w.cell? ⟨g2, 0, none⟩ = some (.int .i64 4) ∧ w.cell? ⟨g2, 1, none⟩ = some (.int .i64 0) ∧ w.cell? ⟨g2, 2, none⟩ = some (.float .f64 0) ∧ w.cell? ⟨g2, 3, none⟩ = some (.string ⟨#[]⟩) ∧ w.cell? ⟨g2, 4, none⟩ = some (.slice (some ⟨gl, 0, none⟩) 3 3) ∧ w.cell? ⟨g1, 0, none⟩ = some (.int .i64 2) ∧ w.cell? ⟨g1, 1, none⟩ = some (.int .i64 0) ∧ w.cell? ⟨g1, 2, none⟩ = some (.float .f64 0) ∧ w.cell? ⟨g1, 3, none⟩ = some (.string ⟨#[]⟩) ∧ w.cell? ⟨g1, 4, none⟩ = some (.slice none 0 0) :=
  ⟨blk_cell (blk_below K2 h) 0, blk_cell (blk_below K2 h) 1, blk_cell (blk_below K2 h) 2, blk_cell (blk_below K2 h) 3, blk_cell (blk_below K2 h) 4, blk_cell (blk_below K1 h) 0, blk_cell (blk_below K1 h) 1, blk_cell (blk_below K1 h) 2, blk_cell (blk_below K1 h) 3, blk_cell (blk_below K1 h) 4⟩

set_option maxHeartbeats 8000000 in
set_option maxRecDepth 100000 in
theorem known9 (hS : CompareC) (W : World) (T : Tabs3 W) : Calls Tryz.prog 9 #[] W fun e w' => e = .returned (.bool true) ∧ Below W.heap.size W w' := by
  have HT := Aside0.mk T
  have HS := Aside0.mk hS
  clear T hS
  go_enter Tryz.func9, Tryz.ntmps9
  go_upto_region 3 with (first
    | (go_at_call 28; refine (canon_zero _).mono ?_; rintro e w1 ⟨rfl, hw⟩; rw [hw]; clear hw w1)
    | (go_at_call 12; with_reducible refine (mk_zero _).mono ?_; rintro e w2 ⟨rfl, hb⟩; have HB := Aside0.mk hb; clear hb)
    | ((with_reducible refine gate_dst (N := 1) rfl ?_); refine box_event ?hg (N := 1) ?hd (cs := #[.int .i64 0, .int .i64 0, .float .f64 0, .string ⟨#[]⟩, .slice none 0 0]) (t := 25) ?hr ?_; (case hd => rfl); (case hg => rfl); (case hr => first | (go_simp; done) | (go_simp; rfl)); intro g1 hg w3 hbox hb; have HG := Aside0.mk (show W.heap.size ≤ g1 by (have := HB.out.size; omega)); have HB := Aside0.mk (below_step HB.out hb); have K1 := Aside0.mk hbox; clear hg hbox hb)
    | ((with_reducible refine gate_store (t := 25) (p := 1) rfl ?_); refine put_eventU ?hg (t := 25) (p := 1) (v := .tmp 4) ?ho ?hN (g := g1) (u := .agg #[.int .i64 2, .int .i64 0, .float .f64 0, .string ⟨#[]⟩, .slice none 0 0]) (cs := #[.int .i64 2, .int .i64 0, .float .f64 0, .string ⟨#[]⟩, .slice none 0 0]) ?hp ?hv K1.out ?hs ?hi ?h1 ?hc ?_; (case hs => rfl); (case hi => kernel_rfl); (case h1 => simp [Value.oneCell']); (case hc => simp [Value.cells]); (case hg => rfl); (case ho => rfl); (case hN => rfl); (case hp => rfl); (case hv => rfl); intro w4 hk hs; have HB := Aside0.mk (below_keep HB.out HG.out hs); have K1 := Aside0.mk hk; clear hk hs)
    | (go_at_call 23; refine (int14 1 _).mono ?_; rintro e w5 ⟨rfl, hb⟩; have K1 := Aside0.mk (blk_below K1.out hb); have HB := Aside0.mk (below_step HB.out hb); clear hb)
    | (go_at_call 12; with_reducible refine (mk_half _).mono ?_; rintro e w6 ⟨rfl, hb⟩; have K1 := Aside0.mk (blk_below K1.out hb); have HB := Aside0.mk (below_step HB.out hb); clear hb)
    | (go_at_call 15; refine (text32 ⟨#[97]⟩ _).mono ?_; rintro e w7 ⟨rfl, hb⟩; have K1 := Aside0.mk (blk_below K1.out hb); have HB := Aside0.mk (below_step HB.out hb); clear hb)
    | (go_at_call 16; refine (list16 _ _ _ _).mono ?_; rintro e w8 ⟨rfl, hb⟩; have hb2 := below_step (below_alloc (Below.refl _ w7) (.cells #[.int .i64 1, .int .i64 1, .float .f64 0, .string ⟨#[]⟩, .slice none 0 0, .int .i64 2, .int .i64 0, .float .f64 4602678819172646912, .string ⟨#[]⟩, .slice none 0 0, .int .i64 3, .int .i64 0, .float .f64 0, .string ⟨#[97]⟩, .slice none 0 0] 25)) hb; have hn := blk_below (blk_new w7 (.cells #[.int .i64 1, .int .i64 1, .float .f64 0, .string ⟨#[]⟩, .slice none 0 0, .int .i64 2, .int .i64 0, .float .f64 4602678819172646912, .string ⟨#[]⟩, .slice none 0 0, .int .i64 3, .int .i64 0, .float .f64 0, .string ⟨#[97]⟩, .slice none 0 0] 25)) hb; have K1 := Aside0.mk (blk_below K1.out hb2); have HB := Aside0.mk (below_step HB.out hb2); have GL := Aside0.mk hn; clear hb hb2 hn; generalize w7.heap.size = gl at GL ⊢)
    | ((with_reducible refine gate_dst (N := 2) rfl ?_); refine box_event ?hg (N := 2) ?hd (cs := #[.int .i64 0, .int .i64 0, .float .f64 0, .string ⟨#[]⟩, .slice none 0 0]) (t := 25) ?hr ?_; (case hd => rfl); (case hg => rfl); (case hr => first | (go_simp; done) | (go_simp; rfl)); intro g2 hg w9 hbox hb; have HG2 := Aside0.mk (show W.heap.size ≤ g2 ∧ g1 ≠ g2 ∧ gl ≠ g2 by (have h1_ := HB.out.size; have h2_ := blk_lt K1.out; have h3_ := blk_lt GL.out; omega)); have HB := Aside0.mk (below_step HB.out hb); have K1 := Aside0.mk (blk_below K1.out hb); have GL := Aside0.mk (blk_below GL.out hb); have K2 := Aside0.mk hbox; clear hg hbox hb)
    | ((with_reducible refine gate_store (t := 25) (p := 2) rfl ?_); refine put_eventU ?hg (t := 25) (p := 2) (v := .tmp 9) ?ho ?hN (g := g2) (u := .agg #[.int .i64 4, .int .i64 0, .float .f64 0, .string ⟨#[]⟩, .slice (some ⟨gl, 0, none⟩) 3 3]) (cs := #[.int .i64 4, .int .i64 0, .float .f64 0, .string ⟨#[]⟩, .slice (some ⟨gl, 0, none⟩) 3 3]) ?hp ?hv K2.out ?hs ?hi ?h1 ?hc ?_; (case hs => rfl); (case hi => kernel_rfl); (case h1 => simp [Value.oneCell']); (case hc => simp [Value.cells]); (case hg => rfl); (case ho => rfl); (case hN => rfl); (case hp => rfl); (case hv => rfl); intro w10 hk hs; have HB := Aside0.mk (below_keep HB.out HG2.out.1 hs); have K1 := Aside0.mk (hs.blk K1.out HG2.out.2.1); have GL := Aside0.mk (hs.blk GL.out HG2.out.2.2); have K2 := Aside0.mk hk; clear hk hs))
  have a0 : w10.cell? ⟨g2, 0, none⟩ = some (.int .i64 4) := blk_cell K2.out 0
  have a1 : w10.cell? ⟨g2, 1, none⟩ = some (.int .i64 0) := blk_cell K2.out 1
  have a2 : w10.cell? ⟨g2, 2, none⟩ = some (.float .f64 0) := blk_cell K2.out 2
  have a3 : w10.cell? ⟨g2, 3, none⟩ = some (.string ⟨#[]⟩) := blk_cell K2.out 3
  have a4 : w10.cell? ⟨g2, 4, none⟩ = some (.slice (some ⟨gl, 0, none⟩) 3 3) := blk_cell K2.out 4
  have b0 : w10.cell? ⟨g1, 0, none⟩ = some (.int .i64 2) := blk_cell K1.out 0
  have b1 : w10.cell? ⟨g1, 1, none⟩ = some (.int .i64 0) := blk_cell K1.out 1
  have b2 : w10.cell? ⟨g1, 2, none⟩ = some (.float .f64 0) := blk_cell K1.out 2
  have b3 : w10.cell? ⟨g1, 3, none⟩ = some (.string ⟨#[]⟩) := blk_cell K1.out 3
  have b4 : w10.cell? ⟨g1, 4, none⟩ = some (.slice none 0 0) := blk_cell K1.out 4
  have C0 := Aside0.mk (Below.refl w10.drew.heap.size w10.drew)
  have HW := Aside0.mk (HB.out.drew)
  have R := Aside0.mk (fun (w' : World) (h : Below w10.drew.heap.size w10.drew w') => (vL_RV (W := w10.drew) GL.out).kept h)
  have HTT := Aside0.mk (fun (w' : World) (h : Below w10.drew.heap.size w10.drew w') => HT.out.below (below_step HW.out h))
  have ceq : ∀ w', Below w10.drew.heap.size w10.drew w' → Calls Tryz.prog 13 #[.agg #[.int .i64 4, .int .i64 0, .float .f64 0, .string ⟨#[]⟩, .slice (some ⟨gl, 0, none⟩) 3 3], .agg #[.int .i64 4, .int .i64 0, .float .f64 0, .string ⟨#[]⟩, .slice (some ⟨gl, 0, none⟩) 3 3]] w' (fun e w'' => e = .returned (.bool true) ∧ Below w'.heap.size w' w'') := fun w' h => by
    have h1 := equal13 vL w' _ _ (R.out w' h) vL _ _ (R.out w' h)
    rwa [vL_equal] at h1
  have cor : ∀ w' : World, Calls Tryz.prog 11 #[.agg #[.int .i64 2, .int .i64 0, .float .f64 0, .string ⟨#[]⟩, .slice none 0 0], .agg #[.int .i64 2, .int .i64 0, .float .f64 4607182418800017408, .string ⟨#[]⟩, .slice none 0 0]] w' (fun e w'' => e = .returned (.int .i64 (-1)) ∧ Below w'.heap.size w' w'') := fun w' => by
    have h1 := order11 HS.out (.mk 2 0 0 ⟨#[]⟩ []) w' (fun _ => True) _ (flatRV _ 2 0 (by decide) (by decide)) (.mk 2 0 4607182418800017408 ⟨#[]⟩ []) (fun _ => True) _ (flatRV _ 2 4607182418800017408 (by decide) (by decide +kernel))
    rwa [v_order] at h1
  have cch : ∀ w', Below w10.drew.heap.size w10.drew w' → Calls Tryz.prog 17 #[.agg #[.int .i64 4, .int .i64 0, .float .f64 0, .string ⟨#[]⟩, .slice (some ⟨gl, 0, none⟩) 3 3]] w' (fun e w'' => e = .returned (.int .i64 0) ∧ Below w'.heap.size w' w'') := fun w' h => by
    have h1 := check17 vL w' _ _ (R.out w' h)
    rwa [vL_check] at h1
  have cc9 : ∀ w' : World, Calls Tryz.prog 17 #[.agg #[.int .i64 9, .int .i64 0, .float .f64 0, .string ⟨#[]⟩, .slice none 0 0]] w' (fun e w'' => e = .returned (.int .i64 31) ∧ Below w'.heap.size w' w'') := fun w' => by
    have h1 := check17 (.mk 9 0 0 ⟨#[]⟩ []) w' (fun _ => True) _ (flatRV _ 9 0 (by decide) (by decide))
    rwa [v9_check] at h1
  have csz : ∀ w', Below w10.drew.heap.size w10.drew w' → Calls Tryz.prog 18 #[.agg #[.int .i64 4, .int .i64 0, .float .f64 0, .string ⟨#[]⟩, .slice (some ⟨gl, 0, none⟩) 3 3]] w' (fun e w'' => e = .returned (.int .i64 24) ∧ Below w'.heap.size w' w'') := fun w' h => by
    have h1 := size18 vL w' _ _ (R.out w' h)
    rwa [vL_size] at h1
  have CE := Aside0.mk (And.intro ceq (And.intro cor (And.intro cch (And.intro cc9 csz))))
  clear ceq cor cch cc9 csz
  refine wp_region_held_drew (S := fun w' => w'.cell? ⟨g2, 0, none⟩ = some (.int .i64 4) ∧ w'.cell? ⟨g2, 1, none⟩ = some (.int .i64 0) ∧ w'.cell? ⟨g2, 2, none⟩ = some (.float .f64 0) ∧ w'.cell? ⟨g2, 3, none⟩ = some (.string ⟨#[]⟩) ∧ w'.cell? ⟨g2, 4, none⟩ = some (.slice (some ⟨gl, 0, none⟩) 3 3) ∧ w'.cell? ⟨g1, 0, none⟩ = some (.int .i64 2) ∧ w'.cell? ⟨g1, 1, none⟩ = some (.int .i64 0) ∧ w'.cell? ⟨g1, 2, none⟩ = some (.float .f64 0) ∧ w'.cell? ⟨g1, 3, none⟩ = some (.string ⟨#[]⟩) ∧ w'.cell? ⟨g1, 4, none⟩ = some (.slice none 0 0)) (by kernel_rfl) ?_ (fun hHeld => ?_)
  · exact ⟨a0, a1, a2, a3, a4, b0, b1, b2, b3, b4⟩
  refine wpAnyH_take (i := 0) (oi := { dst := some 10, op := Go.Op.load 25 (Go.Operand.tmp 2), type := 25, pos := "law.go:15", after := #[], guard := none }) (v := ?_) rfl (by kernel_rfl) (by kernel_rfl) (by kernel_rfl) (fun _ _ _ h => h) (Or.inl ⟨by rfl, ?_⟩) (by assumption) ?_
  rotate_left
  · first | (intro w hSw; (try dsimp only at hSw); go_simp; done) | (intro w hSw; (try dsimp only at hSw); go_simp; with_reducible rfl)
  try simp only [Act.put, List.setIfInBounds_toArray, List.set_cons_zero, List.set_cons_succ]
  refine wpAnyH_ready (rs := [1]) (by kernel_rfl) (by simp) ?_
  refine AllReadyH.cons (o := { dst := some 11, op := Go.Op.call { callee := Go.Callee.value (Go.Operand.func 22), args := #[Go.Operand.tmp 10], argTypes := #[25] }, type := 9, pos := "law.go:15", after := #[{ on := 0, ground := Go.Ground.data }], guard := none }) rfl (fun K hK => ?_) AllReadyH.nil
  go_simp
  refine (vL_text _ _ _ (HTT.out _ C0.out) (R.out _ C0.out)).mono ?_
  rintro e v1 ⟨rfl, hb⟩
  have C1 := Aside0.mk (below_step C0.out hb)
  refine hK.out _ _ ?_ (fun hHeld => ?_)
  · exact tenK (gl := gl) (W := w10.drew) K2.out K1.out C1.out
  clear hK K hb
  try simp only [Act.put, List.setIfInBounds_toArray, List.set_cons_zero, List.set_cons_succ]
  refine wpAnyH_take (i := 2) (oi := { dst := some 12, op := Go.Op.binOp Go.BinOp.eql 9 (Go.Operand.tmp 11) (Go.Operand.const (Go.Value.string { data := #[91, 49, 44, 32, 48, 46, 53, 44, 32, 34, 97, 34, 93] })) 9, type := 4, pos := "law.go:15", after := #[{ on := 1, ground := Go.Ground.data }], guard := none }) (v := ?_) rfl (by kernel_rfl) (by kernel_rfl) (by kernel_rfl) (fun _ _ _ h => h) (Or.inl ⟨by rfl, ?_⟩) (by assumption) ?_
  rotate_left
  · first | (intro w hSw; (try dsimp only at hSw); go_simp; done) | (intro w hSw; (try dsimp only at hSw); go_simp; with_reducible rfl)
  try simp only [Act.put, List.setIfInBounds_toArray, List.set_cons_zero, List.set_cons_succ]
  refine wpAnyH_take (i := 3) (oi := { dst := some 13, op := Go.Op.move (Go.Operand.tmp 12), type := 4, pos := "law.go:15", after := #[{ on := 2, ground := Go.Ground.data }, { on := 1, ground := Go.Ground.chain }], guard := none }) (v := ?_) rfl (by kernel_rfl) (by kernel_rfl) (by kernel_rfl) (fun _ _ _ h => h) (Or.inl ⟨by rfl, ?_⟩) (by assumption) ?_
  rotate_left
  · first | (intro w hSw; (try dsimp only at hSw); go_simp; done) | (intro w hSw; (try dsimp only at hSw); go_simp; with_reducible rfl)
  try simp only [Act.put, List.setIfInBounds_toArray, List.set_cons_zero, List.set_cons_succ]
  refine wpAnyH_ready (rs := [4]) (by kernel_rfl) (by simp) ?_
  refine AllReadyH.cons (o := { dst := some 14, op := Go.Op.call { callee := Go.Callee.value (Go.Operand.func 12), args := #[Go.Operand.const (Go.Value.float Go.FloatKind.f64 4611686018427387904)], argTypes := #[22] }, type := 25, pos := "law.go:15", after := #[{ on := 3, ground := Go.Ground.chain }, { on := 3, ground := Go.Ground.guard }], guard := some (3, true) }) rfl (fun K hK => ?_) AllReadyH.nil
  go_simp
  refine (mk_two _).mono ?_
  rintro e v2 ⟨rfl, hb⟩
  have C2 := Aside0.mk (below_step C1.out hb)
  refine hK.out _ _ ?_ (fun hHeld => ?_)
  · exact tenK (gl := gl) (W := w10.drew) K2.out K1.out C2.out
  clear hK K hb
  try simp only [Act.put, List.setIfInBounds_toArray, List.set_cons_zero, List.set_cons_succ]
  refine wpAnyH_ready (rs := [5]) (by kernel_rfl) (by simp) ?_
  refine AllReadyH.cons (o := { dst := some 15, op := Go.Op.call { callee := Go.Callee.value (Go.Operand.func 22), args := #[Go.Operand.tmp 14], argTypes := #[25] }, type := 9, pos := "law.go:15", after := #[{ on := 4, ground := Go.Ground.data }, { on := 4, ground := Go.Ground.chain }, { on := 3, ground := Go.Ground.guard }], guard := some (3, true) }) rfl (fun K hK => ?_) AllReadyH.nil
  go_simp
  refine (txt_two 0 ⟨#[]⟩ [] _ (fun _ => True) _ (HTT.out _ C2.out) (flatRV _ 2 4611686018427387904 (by decide) (by decide +kernel))).mono ?_
  rintro e v3 ⟨rfl, hb⟩
  have C3 := Aside0.mk (below_step C2.out hb)
  refine hK.out _ _ ?_ (fun hHeld => ?_)
  · exact tenK (gl := gl) (W := w10.drew) K2.out K1.out C3.out
  clear hK K hb
  try simp only [Act.put, List.setIfInBounds_toArray, List.set_cons_zero, List.set_cons_succ]
  refine wpAnyH_take (i := 6) (oi := { dst := some 16, op := Go.Op.binOp Go.BinOp.eql 9 (Go.Operand.tmp 15) (Go.Operand.const (Go.Value.string { data := #[50, 46, 48] })) 9, type := 4, pos := "law.go:15", after := #[{ on := 5, ground := Go.Ground.data }, { on := 3, ground := Go.Ground.guard }], guard := some (3, true) }) (v := ?_) rfl (by kernel_rfl) (by kernel_rfl) (by kernel_rfl) (fun _ _ _ h => h) (Or.inl ⟨by rfl, ?_⟩) (by assumption) ?_
  rotate_left
  · first | (intro w hSw; (try dsimp only at hSw); go_simp; done) | (intro w hSw; (try dsimp only at hSw); go_simp; with_reducible rfl)
  try simp only [Act.put, List.setIfInBounds_toArray, List.set_cons_zero, List.set_cons_succ]
  refine wpAnyH_take (i := 7) (oi := { dst := some 17, op := Go.Op.pick (Go.Operand.tmp 13) (Go.Operand.tmp 16) (Go.Operand.const (Go.Value.bool false)), type := 4, pos := "law.go:15", after := #[{ on := 3, ground := Go.Ground.data }, { on := 6, ground := Go.Ground.data }], guard := none }) (v := ?_) rfl (by kernel_rfl) (by kernel_rfl) (by kernel_rfl) (fun _ _ _ h => h) (Or.inl ⟨by rfl, ?_⟩) (by assumption) ?_
  rotate_left
  · first | (intro w hSw; (try dsimp only at hSw); go_simp; done) | (intro w hSw; (try dsimp only at hSw); go_simp; with_reducible rfl)
  try simp only [Act.put, List.setIfInBounds_toArray, List.set_cons_zero, List.set_cons_succ]
  refine wpAnyH_take (i := 8) (oi := { dst := some 18, op := Go.Op.move (Go.Operand.tmp 17), type := 4, pos := "law.go:15", after := #[{ on := 7, ground := Go.Ground.data }, { on := 5, ground := Go.Ground.chain }], guard := none }) (v := ?_) rfl (by kernel_rfl) (by kernel_rfl) (by kernel_rfl) (fun _ _ _ h => h) (Or.inl ⟨by rfl, ?_⟩) (by assumption) ?_
  rotate_left
  · first | (intro w hSw; (try dsimp only at hSw); go_simp; done) | (intro w hSw; (try dsimp only at hSw); go_simp; with_reducible rfl)
  try simp only [Act.put, List.setIfInBounds_toArray, List.set_cons_zero, List.set_cons_succ]
  refine wpAnyH_take (i := 9) (oi := { dst := some 19, op := Go.Op.load 25 (Go.Operand.tmp 2), type := 25, pos := "law.go:15", after := #[{ on := 8, ground := Go.Ground.guard }], guard := some (8, true) }) (v := ?_) rfl (by kernel_rfl) (by kernel_rfl) (by kernel_rfl) (fun _ _ _ h => h) (Or.inl ⟨by rfl, ?_⟩) (by assumption) ?_
  rotate_left
  · first | (intro w hSw; (try dsimp only at hSw); go_simp; done) | (intro w hSw; (try dsimp only at hSw); go_simp; with_reducible rfl)
  try simp only [Act.put, List.setIfInBounds_toArray, List.set_cons_zero, List.set_cons_succ]
  refine wpAnyH_take (i := 10) (oi := { dst := some 20, op := Go.Op.load 25 (Go.Operand.tmp 2), type := 25, pos := "law.go:15", after := #[{ on := 8, ground := Go.Ground.guard }], guard := some (8, true) }) (v := ?_) rfl (by kernel_rfl) (by kernel_rfl) (by kernel_rfl) (fun _ _ _ h => h) (Or.inl ⟨by rfl, ?_⟩) (by assumption) ?_
  rotate_left
  · first | (intro w hSw; (try dsimp only at hSw); go_simp; done) | (intro w hSw; (try dsimp only at hSw); go_simp; with_reducible rfl)
  try simp only [Act.put, List.setIfInBounds_toArray, List.set_cons_zero, List.set_cons_succ]
  refine wpAnyH_ready (rs := [11]) (by kernel_rfl) (by simp) ?_
  refine AllReadyH.cons (o := { dst := some 21, op := Go.Op.call { callee := Go.Callee.value (Go.Operand.func 13), args := #[Go.Operand.tmp 19, Go.Operand.tmp 20], argTypes := #[25, 25] }, type := 4, pos := "law.go:15", after := #[{ on := 9, ground := Go.Ground.data }, { on := 10, ground := Go.Ground.data }, { on := 8, ground := Go.Ground.chain }, { on := 8, ground := Go.Ground.guard }], guard := some (8, true) }) rfl (fun K hK => ?_) AllReadyH.nil
  go_simp
  refine (CE.out.1 _ C3.out).mono ?_
  rintro e v4 ⟨rfl, hb⟩
  have C4 := Aside0.mk (below_step C3.out hb)
  refine hK.out _ _ ?_ (fun hHeld => ?_)
  · exact tenK (gl := gl) (W := w10.drew) K2.out K1.out C4.out
  clear hK K hb
  try simp only [Act.put, List.setIfInBounds_toArray, List.set_cons_zero, List.set_cons_succ]
  refine wpAnyH_take (i := 12) (oi := { dst := some 22, op := Go.Op.pick (Go.Operand.tmp 18) (Go.Operand.tmp 21) (Go.Operand.const (Go.Value.bool false)), type := 4, pos := "law.go:15", after := #[{ on := 8, ground := Go.Ground.data }, { on := 11, ground := Go.Ground.data }], guard := none }) (v := ?_) rfl (by kernel_rfl) (by kernel_rfl) (by kernel_rfl) (fun _ _ _ h => h) (Or.inl ⟨by rfl, ?_⟩) (by assumption) ?_
  rotate_left
  · first | (intro w hSw; (try dsimp only at hSw); go_simp; done) | (intro w hSw; (try dsimp only at hSw); go_simp; with_reducible rfl)
  try simp only [Act.put, List.setIfInBounds_toArray, List.set_cons_zero, List.set_cons_succ]
  refine wpAnyH_take (i := 13) (oi := { dst := some 23, op := Go.Op.move (Go.Operand.tmp 22), type := 4, pos := "law.go:15", after := #[{ on := 12, ground := Go.Ground.data }, { on := 11, ground := Go.Ground.chain }], guard := none }) (v := ?_) rfl (by kernel_rfl) (by kernel_rfl) (by kernel_rfl) (fun _ _ _ h => h) (Or.inl ⟨by rfl, ?_⟩) (by assumption) ?_
  rotate_left
  · first | (intro w hSw; (try dsimp only at hSw); go_simp; done) | (intro w hSw; (try dsimp only at hSw); go_simp; with_reducible rfl)
  try simp only [Act.put, List.setIfInBounds_toArray, List.set_cons_zero, List.set_cons_succ]
  refine wpAnyH_take (i := 14) (oi := { dst := some 24, op := Go.Op.load 25 (Go.Operand.tmp 1), type := 25, pos := "law.go:15", after := #[{ on := 13, ground := Go.Ground.guard }], guard := some (13, true) }) (v := ?_) rfl (by kernel_rfl) (by kernel_rfl) (by kernel_rfl) (fun _ _ _ h => h) (Or.inl ⟨by rfl, ?_⟩) (by assumption) ?_
  rotate_left
  · first | (intro w hSw; (try dsimp only at hSw); go_simp; done) | (intro w hSw; (try dsimp only at hSw); go_simp; with_reducible rfl)
  try simp only [Act.put, List.setIfInBounds_toArray, List.set_cons_zero, List.set_cons_succ]
  refine wpAnyH_ready (rs := [15]) (by kernel_rfl) (by simp) ?_
  refine AllReadyH.cons (o := { dst := some 25, op := Go.Op.call { callee := Go.Callee.value (Go.Operand.func 12), args := #[Go.Operand.const (Go.Value.float Go.FloatKind.f64 4607182418800017408)], argTypes := #[22] }, type := 25, pos := "law.go:15", after := #[{ on := 13, ground := Go.Ground.chain }, { on := 13, ground := Go.Ground.guard }], guard := some (13, true) }) rfl (fun K hK => ?_) AllReadyH.nil
  go_simp
  refine (mk_one _).mono ?_
  rintro e v5 ⟨rfl, hb⟩
  have C5 := Aside0.mk (below_step C4.out hb)
  refine hK.out _ _ ?_ (fun hHeld => ?_)
  · exact tenK (gl := gl) (W := w10.drew) K2.out K1.out C5.out
  clear hK K hb
  try simp only [Act.put, List.setIfInBounds_toArray, List.set_cons_zero, List.set_cons_succ]
  refine wpAnyH_ready (rs := [16]) (by kernel_rfl) (by simp) ?_
  refine AllReadyH.cons (o := { dst := some 26, op := Go.Op.call { callee := Go.Callee.value (Go.Operand.func 11), args := #[Go.Operand.tmp 24, Go.Operand.tmp 25], argTypes := #[25, 25] }, type := 3, pos := "law.go:15", after := #[{ on := 14, ground := Go.Ground.data }, { on := 15, ground := Go.Ground.data }, { on := 15, ground := Go.Ground.chain }, { on := 13, ground := Go.Ground.guard }], guard := some (13, true) }) rfl (fun K hK => ?_) AllReadyH.nil
  go_simp
  refine (CE.out.2.1 _).mono ?_
  rintro e v6 ⟨rfl, hb⟩
  have C6 := Aside0.mk (below_step C5.out hb)
  refine hK.out _ _ ?_ (fun hHeld => ?_)
  · exact tenK (gl := gl) (W := w10.drew) K2.out K1.out C6.out
  clear hK K hb
  try simp only [Act.put, List.setIfInBounds_toArray, List.set_cons_zero, List.set_cons_succ]
  refine wpAnyH_take (i := 17) (oi := { dst := some 27, op := Go.Op.binOp Go.BinOp.eql 3 (Go.Operand.tmp 26) (Go.Operand.const (Go.Value.int Go.IntKind.i64 (-1))) 3, type := 4, pos := "law.go:15", after := #[{ on := 16, ground := Go.Ground.data }, { on := 13, ground := Go.Ground.guard }], guard := some (13, true) }) (v := ?_) rfl (by kernel_rfl) (by kernel_rfl) (by kernel_rfl) (fun _ _ _ h => h) (Or.inl ⟨by rfl, ?_⟩) (by assumption) ?_
  rotate_left
  · first | (intro w hSw; (try dsimp only at hSw); go_simp; done) | (intro w hSw; (try dsimp only at hSw); go_simp; with_reducible rfl)
  try simp only [Act.put, List.setIfInBounds_toArray, List.set_cons_zero, List.set_cons_succ]
  refine wpAnyH_take (i := 18) (oi := { dst := some 28, op := Go.Op.pick (Go.Operand.tmp 23) (Go.Operand.tmp 27) (Go.Operand.const (Go.Value.bool false)), type := 4, pos := "law.go:15", after := #[{ on := 13, ground := Go.Ground.data }, { on := 17, ground := Go.Ground.data }], guard := none }) (v := ?_) rfl (by kernel_rfl) (by kernel_rfl) (by kernel_rfl) (fun _ _ _ h => h) (Or.inl ⟨by rfl, ?_⟩) (by assumption) ?_
  rotate_left
  · first | (intro w hSw; (try dsimp only at hSw); go_simp; done) | (intro w hSw; (try dsimp only at hSw); go_simp; with_reducible rfl)
  try simp only [Act.put, List.setIfInBounds_toArray, List.set_cons_zero, List.set_cons_succ]
  refine wpAnyH_take (i := 19) (oi := { dst := some 29, op := Go.Op.move (Go.Operand.tmp 28), type := 4, pos := "law.go:15", after := #[{ on := 18, ground := Go.Ground.data }, { on := 16, ground := Go.Ground.chain }], guard := none }) (v := ?_) rfl (by kernel_rfl) (by kernel_rfl) (by kernel_rfl) (fun _ _ _ h => h) (Or.inl ⟨by rfl, ?_⟩) (by assumption) ?_
  rotate_left
  · first | (intro w hSw; (try dsimp only at hSw); go_simp; done) | (intro w hSw; (try dsimp only at hSw); go_simp; with_reducible rfl)
  try simp only [Act.put, List.setIfInBounds_toArray, List.set_cons_zero, List.set_cons_succ]
  refine wpAnyH_take (i := 20) (oi := { dst := some 30, op := Go.Op.load 25 (Go.Operand.tmp 2), type := 25, pos := "law.go:15", after := #[{ on := 19, ground := Go.Ground.guard }], guard := some (19, true) }) (v := ?_) rfl (by kernel_rfl) (by kernel_rfl) (by kernel_rfl) (fun _ _ _ h => h) (Or.inl ⟨by rfl, ?_⟩) (by assumption) ?_
  rotate_left
  · first | (intro w hSw; (try dsimp only at hSw); go_simp; done) | (intro w hSw; (try dsimp only at hSw); go_simp; with_reducible rfl)
  try simp only [Act.put, List.setIfInBounds_toArray, List.set_cons_zero, List.set_cons_succ]
  refine wpAnyH_ready (rs := [21]) (by kernel_rfl) (by simp) ?_
  refine AllReadyH.cons (o := { dst := some 31, op := Go.Op.call { callee := Go.Callee.value (Go.Operand.func 17), args := #[Go.Operand.tmp 30], argTypes := #[25] }, type := 38, pos := "law.go:15", after := #[{ on := 20, ground := Go.Ground.data }, { on := 19, ground := Go.Ground.chain }, { on := 19, ground := Go.Ground.guard }], guard := some (19, true) }) rfl (fun K hK => ?_) AllReadyH.nil
  go_simp
  refine (CE.out.2.2.1 _ C6.out).mono ?_
  rintro e v7 ⟨rfl, hb⟩
  have C7 := Aside0.mk (below_step C6.out hb)
  refine hK.out _ _ ?_ (fun hHeld => ?_)
  · exact tenK (gl := gl) (W := w10.drew) K2.out K1.out C7.out
  clear hK K hb
  try simp only [Act.put, List.setIfInBounds_toArray, List.set_cons_zero, List.set_cons_succ]
  refine wpAnyH_take (i := 22) (oi := { dst := some 32, op := Go.Op.binOp Go.BinOp.eql 3 (Go.Operand.tmp 31) (Go.Operand.const (Go.Value.int Go.IntKind.i64 0)) 3, type := 4, pos := "law.go:15", after := #[{ on := 21, ground := Go.Ground.data }, { on := 19, ground := Go.Ground.guard }], guard := some (19, true) }) (v := ?_) rfl (by kernel_rfl) (by kernel_rfl) (by kernel_rfl) (fun _ _ _ h => h) (Or.inl ⟨by rfl, ?_⟩) (by assumption) ?_
  rotate_left
  · first | (intro w hSw; (try dsimp only at hSw); go_simp; done) | (intro w hSw; (try dsimp only at hSw); go_simp; with_reducible rfl)
  try simp only [Act.put, List.setIfInBounds_toArray, List.set_cons_zero, List.set_cons_succ]
  refine wpAnyH_take (i := 23) (oi := { dst := some 33, op := Go.Op.pick (Go.Operand.tmp 29) (Go.Operand.tmp 32) (Go.Operand.const (Go.Value.bool false)), type := 4, pos := "law.go:15", after := #[{ on := 19, ground := Go.Ground.data }, { on := 22, ground := Go.Ground.data }], guard := none }) (v := ?_) rfl (by kernel_rfl) (by kernel_rfl) (by kernel_rfl) (fun _ _ _ h => h) (Or.inl ⟨by rfl, ?_⟩) (by assumption) ?_
  rotate_left
  · first | (intro w hSw; (try dsimp only at hSw); go_simp; done) | (intro w hSw; (try dsimp only at hSw); go_simp; with_reducible rfl)
  try simp only [Act.put, List.setIfInBounds_toArray, List.set_cons_zero, List.set_cons_succ]
  refine wpAnyH_take (i := 24) (oi := { dst := some 34, op := Go.Op.move (Go.Operand.tmp 33), type := 4, pos := "law.go:15", after := #[{ on := 23, ground := Go.Ground.data }, { on := 21, ground := Go.Ground.chain }], guard := none }) (v := ?_) rfl (by kernel_rfl) (by kernel_rfl) (by kernel_rfl) (fun _ _ _ h => h) (Or.inl ⟨by rfl, ?_⟩) (by assumption) ?_
  rotate_left
  · first | (intro w hSw; (try dsimp only at hSw); go_simp; done) | (intro w hSw; (try dsimp only at hSw); go_simp; with_reducible rfl)
  try simp only [Act.put, List.setIfInBounds_toArray, List.set_cons_zero, List.set_cons_succ]
  refine wpAnyH_take (i := 25) (oi := { dst := some 35, op := Go.Op.build 25 #[(0, Go.Operand.const (Go.Value.int Go.IntKind.i64 9))], type := 25, pos := "law.go:15", after := #[{ on := 24, ground := Go.Ground.guard }], guard := some (24, true) }) (v := ?_) rfl (by kernel_rfl) (by kernel_rfl) (by kernel_rfl) (fun _ _ _ h => h) (Or.inl ⟨by rfl, ?_⟩) (by assumption) ?_
  rotate_left
  · first | (intro w hSw; (try dsimp only at hSw); go_simp; done) | (intro w hSw; (try dsimp only at hSw); go_simp; with_reducible rfl)
  try simp only [Act.put, List.setIfInBounds_toArray, List.set_cons_zero, List.set_cons_succ]
  refine wpAnyH_ready (rs := [26]) (by kernel_rfl) (by simp) ?_
  refine AllReadyH.cons (o := { dst := some 36, op := Go.Op.call { callee := Go.Callee.value (Go.Operand.func 17), args := #[Go.Operand.tmp 35], argTypes := #[25] }, type := 38, pos := "law.go:15", after := #[{ on := 25, ground := Go.Ground.data }, { on := 24, ground := Go.Ground.chain }, { on := 24, ground := Go.Ground.guard }], guard := some (24, true) }) rfl (fun K hK => ?_) AllReadyH.nil
  go_simp
  refine (CE.out.2.2.2.1 _).mono ?_
  rintro e v8 ⟨rfl, hb⟩
  have C8 := Aside0.mk (below_step C7.out hb)
  refine hK.out _ _ ?_ (fun hHeld => ?_)
  · exact tenK (gl := gl) (W := w10.drew) K2.out K1.out C8.out
  clear hK K hb
  try simp only [Act.put, List.setIfInBounds_toArray, List.set_cons_zero, List.set_cons_succ]
  refine wpAnyH_take (i := 27) (oi := { dst := some 37, op := Go.Op.binOp Go.BinOp.eql 3 (Go.Operand.tmp 36) (Go.Operand.const (Go.Value.int Go.IntKind.i64 31)) 3, type := 4, pos := "law.go:15", after := #[{ on := 26, ground := Go.Ground.data }, { on := 24, ground := Go.Ground.guard }], guard := some (24, true) }) (v := ?_) rfl (by kernel_rfl) (by kernel_rfl) (by kernel_rfl) (fun _ _ _ h => h) (Or.inl ⟨by rfl, ?_⟩) (by assumption) ?_
  rotate_left
  · first | (intro w hSw; (try dsimp only at hSw); go_simp; done) | (intro w hSw; (try dsimp only at hSw); go_simp; with_reducible rfl)
  try simp only [Act.put, List.setIfInBounds_toArray, List.set_cons_zero, List.set_cons_succ]
  refine wpAnyH_take (i := 28) (oi := { dst := some 38, op := Go.Op.pick (Go.Operand.tmp 34) (Go.Operand.tmp 37) (Go.Operand.const (Go.Value.bool false)), type := 4, pos := "law.go:15", after := #[{ on := 24, ground := Go.Ground.data }, { on := 27, ground := Go.Ground.data }], guard := none }) (v := ?_) rfl (by kernel_rfl) (by kernel_rfl) (by kernel_rfl) (fun _ _ _ h => h) (Or.inl ⟨by rfl, ?_⟩) (by assumption) ?_
  rotate_left
  · first | (intro w hSw; (try dsimp only at hSw); go_simp; done) | (intro w hSw; (try dsimp only at hSw); go_simp; with_reducible rfl)
  try simp only [Act.put, List.setIfInBounds_toArray, List.set_cons_zero, List.set_cons_succ]
  refine wpAnyH_take (i := 29) (oi := { dst := some 39, op := Go.Op.move (Go.Operand.tmp 38), type := 4, pos := "law.go:15", after := #[{ on := 28, ground := Go.Ground.data }, { on := 26, ground := Go.Ground.chain }], guard := none }) (v := ?_) rfl (by kernel_rfl) (by kernel_rfl) (by kernel_rfl) (fun _ _ _ h => h) (Or.inl ⟨by rfl, ?_⟩) (by assumption) ?_
  rotate_left
  · first | (intro w hSw; (try dsimp only at hSw); go_simp; done) | (intro w hSw; (try dsimp only at hSw); go_simp; with_reducible rfl)
  try simp only [Act.put, List.setIfInBounds_toArray, List.set_cons_zero, List.set_cons_succ]
  refine wpAnyH_take (i := 30) (oi := { dst := some 40, op := Go.Op.load 25 (Go.Operand.tmp 2), type := 25, pos := "law.go:15", after := #[{ on := 29, ground := Go.Ground.guard }], guard := some (29, true) }) (v := ?_) rfl (by kernel_rfl) (by kernel_rfl) (by kernel_rfl) (fun _ _ _ h => h) (Or.inl ⟨by rfl, ?_⟩) (by assumption) ?_
  rotate_left
  · first | (intro w hSw; (try dsimp only at hSw); go_simp; done) | (intro w hSw; (try dsimp only at hSw); go_simp; with_reducible rfl)
  try simp only [Act.put, List.setIfInBounds_toArray, List.set_cons_zero, List.set_cons_succ]
  refine wpAnyH_ready (rs := [31]) (by kernel_rfl) (by simp) ?_
  refine AllReadyH.cons (o := { dst := some 41, op := Go.Op.call { callee := Go.Callee.value (Go.Operand.func 18), args := #[Go.Operand.tmp 40], argTypes := #[25] }, type := 3, pos := "law.go:15", after := #[{ on := 30, ground := Go.Ground.data }, { on := 29, ground := Go.Ground.chain }, { on := 29, ground := Go.Ground.guard }], guard := some (29, true) }) rfl (fun K hK => ?_) AllReadyH.nil
  go_simp
  refine (CE.out.2.2.2.2 _ C8.out).mono ?_
  rintro e v9 ⟨rfl, hb⟩
  have C9 := Aside0.mk (below_step C8.out hb)
  refine hK.out _ _ ?_ (fun hHeld => ?_)
  · exact tenK (gl := gl) (W := w10.drew) K2.out K1.out C9.out
  clear hK K hb
  try simp only [Act.put, List.setIfInBounds_toArray, List.set_cons_zero, List.set_cons_succ]
  refine wpAnyH_take (i := 32) (oi := { dst := some 42, op := Go.Op.binOp Go.BinOp.eql 3 (Go.Operand.tmp 41) (Go.Operand.const (Go.Value.int Go.IntKind.i64 24)) 3, type := 4, pos := "law.go:15", after := #[{ on := 31, ground := Go.Ground.data }, { on := 29, ground := Go.Ground.guard }], guard := some (29, true) }) (v := ?_) rfl (by kernel_rfl) (by kernel_rfl) (by kernel_rfl) (fun _ _ _ h => h) (Or.inl ⟨by rfl, ?_⟩) (by assumption) ?_
  rotate_left
  · first | (intro w hSw; (try dsimp only at hSw); go_simp; done) | (intro w hSw; (try dsimp only at hSw); go_simp; with_reducible rfl)
  try simp only [Act.put, List.setIfInBounds_toArray, List.set_cons_zero, List.set_cons_succ]
  refine wpAnyH_take (i := 33) (oi := { dst := some 43, op := Go.Op.pick (Go.Operand.tmp 39) (Go.Operand.tmp 42) (Go.Operand.const (Go.Value.bool false)), type := 4, pos := "law.go:15", after := #[{ on := 29, ground := Go.Ground.data }, { on := 32, ground := Go.Ground.data }], guard := none }) (v := ?_) rfl (by kernel_rfl) (by kernel_rfl) (by kernel_rfl) (fun _ _ _ h => h) (Or.inl ⟨by rfl, ?_⟩) (by assumption) ?_
  rotate_left
  · first | (intro w hSw; (try dsimp only at hSw); go_simp; done) | (intro w hSw; (try dsimp only at hSw); go_simp; with_reducible rfl)
  try simp only [Act.put, List.setIfInBounds_toArray, List.set_cons_zero, List.set_cons_succ]
  refine wpAnyH_take (i := 34) (oi := { dst := some 0, op := Go.Op.assign (Go.Operand.tmp 43), type := 4, pos := "law.go:15", after := #[{ on := 33, ground := Go.Ground.data }, { on := 31, ground := Go.Ground.chain }, { on := 0, ground := Go.Ground.phase }, { on := 1, ground := Go.Ground.phase }, { on := 2, ground := Go.Ground.phase }, { on := 3, ground := Go.Ground.phase }, { on := 4, ground := Go.Ground.phase }, { on := 5, ground := Go.Ground.phase }, { on := 6, ground := Go.Ground.phase }, { on := 7, ground := Go.Ground.phase }, { on := 8, ground := Go.Ground.phase }, { on := 9, ground := Go.Ground.phase }, { on := 10, ground := Go.Ground.phase }, { on := 11, ground := Go.Ground.phase }, { on := 12, ground := Go.Ground.phase }, { on := 13, ground := Go.Ground.phase }, { on := 14, ground := Go.Ground.phase }, { on := 15, ground := Go.Ground.phase }, { on := 16, ground := Go.Ground.phase }, { on := 17, ground := Go.Ground.phase }, { on := 18, ground := Go.Ground.phase }, { on := 19, ground := Go.Ground.phase }, { on := 20, ground := Go.Ground.phase }, { on := 21, ground := Go.Ground.phase }, { on := 22, ground := Go.Ground.phase }, { on := 23, ground := Go.Ground.phase }, { on := 24, ground := Go.Ground.phase }, { on := 25, ground := Go.Ground.phase }, { on := 26, ground := Go.Ground.phase }, { on := 27, ground := Go.Ground.phase }, { on := 28, ground := Go.Ground.phase }, { on := 29, ground := Go.Ground.phase }, { on := 30, ground := Go.Ground.phase }, { on := 31, ground := Go.Ground.phase }, { on := 32, ground := Go.Ground.phase }, { on := 33, ground := Go.Ground.phase }], guard := none }) (v := ?_) rfl (by kernel_rfl) (by kernel_rfl) (by kernel_rfl) (fun _ _ _ h => h) (Or.inl ⟨by rfl, ?_⟩) (by assumption) ?_
  rotate_left
  · first | (intro w hSw; (try dsimp only at hSw); go_simp; done) | (intro w hSw; (try dsimp only at hSw); go_simp; with_reducible rfl)
  try simp only [Act.put, List.setIfInBounds_toArray, List.set_cons_zero, List.set_cons_succ]
  refine wpAnyH_done (by kernel_rfl) ?_ _
  have HF := Aside0.mk (below_step HW.out C9.out)
  clear hHeld a0 a1 a2 a3 a4 b0 b1 b2 b3 b4
  go_wp2
  go_ret
  exact ⟨rfl, HF.out⟩
end Go.Proofs.YtejfmghjmhiodaaGreatDoor.Vz
