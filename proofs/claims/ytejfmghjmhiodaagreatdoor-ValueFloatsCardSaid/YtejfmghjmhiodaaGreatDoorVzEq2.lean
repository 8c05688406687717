import Derived.Deep.RegionHeld3
import Derived.Laws.StructEq
import Derived.Test.YtejfmghjmhiodaaGreatDoorVzEq1
import Derived.Test.YtejfmghjmhiodaaGreatDoorVzFl9
namespace Go.Proofs.YtejfmghjmhiodaaGreatDoor.Vz
open Go.RowKit Go.Proofs.YtejfmghjmhiodaaGreatDoorW.PrintWords
set_option linter.unusedVariables false
set_option linter.unusedSimpArgs false
attribute [local go_sem] store_float

set_option maxHeartbeats 8000000 in
set_option maxRecDepth 100000 in
theorem equal13_ne (k i : Int) (f : Nat) (s : ByteArray) (l : List Val) (A : Option Addr) (c : Nat) (k2 i2 : Int) (f2 : Nat) (s2 : ByteArray) (l2 : List Val) (A2 : Option Addr) (c2 : Nat) (W : World) (ok ok2 : Nat → Prop)
    (hR : RV W ok (.mk k i f s l) #[.int .i64 k, .int .i64 i, .float .f64 f, .string s, .slice A l.length c]) (hR2 : RV W ok2 (.mk k2 i2 f2 s2 l2) #[.int .i64 k2, .int .i64 i2, .float .f64 f2, .string s2, .slice A2 l2.length c2]) (hc0 : kindV k ≠ kindV k2) :
    Calls Tryz.prog 13 #[.agg #[.int .i64 k, .int .i64 i, .float .f64 f, .string s, .slice A l.length c], .agg #[.int .i64 k2, .int .i64 i2, .float .f64 f2, .string s2, .slice A2 l2.length c2]] W fun e w' => e = .returned (.bool false) ∧ Below W.heap.size W w' := by
  have HR := Aside0.mk hR
  have HR2 := Aside0.mk hR2
  clear hR hR2
  obtain ⟨K, hK⟩ : ∃ K, kindV k = K := ⟨_, rfl⟩
  obtain ⟨K2, hK2⟩ : ∃ K2, kindV k2 = K2 := ⟨_, rfl⟩
  have h31 := fun W => kind31 k i f s A l.length c W
  have h31b := fun W => kind31 k2 i2 f2 s2 A2 l2.length c2 W
  rw [hK] at h31
  rw [hK2] at h31b
  have H31 := Aside0.mk h31
  have H31b := Aside0.mk h31b
  have HK := Aside0.mk hK
  have HK2 := Aside0.mk hK2
  clear h31 h31b
  rw [hK, hK2] at hc0
  have HC0 := Aside0.mk hc0
  clear hK hK2 hc0
  go_enter Tryz.func13, Tryz.ntmps13
  go_upto_region 1 with (first
    | ((with_reducible refine gate_dst (N := 2) rfl ?_); refine box_event ?hg (N := 2) ?hd (cs := #[.int .i64 k, .int .i64 i, .float .f64 f, .string s, .slice A l.length c]) (t := 25) ?hr ?_; (case hd => rfl); (case hg => rfl); (case hr => first | (go_simp; done) | (go_simp; rfl)); intro ga hg w1 hbox hb; have HB := Aside0.mk hb; have KA := Aside0.mk hbox; clear hg hbox hb)
    | ((with_reducible refine gate_dst (N := 3) rfl ?_); refine box_event ?hg (N := 3) ?hd (cs := #[.int .i64 k2, .int .i64 i2, .float .f64 f2, .string s2, .slice A2 l2.length c2]) (t := 25) ?hr ?_; (case hd => rfl); (case hg => rfl); (case hr => first | (go_simp; done) | (go_simp; rfl)); intro gb hg w2 hbox hb; have KA := Aside0.mk (blk_below KA.out hb); have KB := Aside0.mk hbox; have HB := Aside0.mk (below_step HB.out hb); clear hg hbox hb))
  have a0 : w2.cell? ⟨ga, 0, none⟩ = some (.int .i64 k) := blk_cell KA.out 0
  have a1 : w2.cell? ⟨ga, 1, none⟩ = some (.int .i64 i) := blk_cell KA.out 1
  have a2 : w2.cell? ⟨ga, 2, none⟩ = some (.float .f64 f) := blk_cell KA.out 2
  have a3 : w2.cell? ⟨ga, 3, none⟩ = some (.string s) := blk_cell KA.out 3
  have a4 : w2.cell? ⟨ga, 4, none⟩ = some (.slice A l.length c) := blk_cell KA.out 4
  have b0 : w2.cell? ⟨gb, 0, none⟩ = some (.int .i64 k2) := blk_cell KB.out 0
  have b1 : w2.cell? ⟨gb, 1, none⟩ = some (.int .i64 i2) := blk_cell KB.out 1
  have b2 : w2.cell? ⟨gb, 2, none⟩ = some (.float .f64 f2) := blk_cell KB.out 2
  have b3 : w2.cell? ⟨gb, 3, none⟩ = some (.string s2) := blk_cell KB.out 3
  have b4 : w2.cell? ⟨gb, 4, none⟩ = some (.slice A2 l2.length c2) := blk_cell KB.out 4
  go_region_held3 (fun w' => w'.cell? ⟨ga, 0, none⟩ = some (.int .i64 k) ∧ w'.cell? ⟨ga, 1, none⟩ = some (.int .i64 i) ∧ w'.cell? ⟨ga, 2, none⟩ = some (.float .f64 f) ∧ w'.cell? ⟨ga, 3, none⟩ = some (.string s) ∧ w'.cell? ⟨ga, 4, none⟩ = some (.slice A l.length c) ∧ w'.cell? ⟨gb, 0, none⟩ = some (.int .i64 k2) ∧ w'.cell? ⟨gb, 1, none⟩ = some (.int .i64 i2) ∧ w'.cell? ⟨gb, 2, none⟩ = some (.float .f64 f2) ∧ w'.cell? ⟨gb, 3, none⟩ = some (.string s2) ∧ w'.cell? ⟨gb, 4, none⟩ = some (.slice A2 l2.length c2)) (first | exact tenO (W := w2.drew) KA.out KB.out (below_step hb1 hb2) | exact tenO (W := w2.drew) KA.out KB.out hb1 | exact ⟨a0, a1, a2, a3, a4, b0, b1, b2, b3, b4⟩)
    (first
      | (go_at_call 31; have tok := hb1; refine (H31b.out _).mono ?_; clear tok; rintro e w4 ⟨rfl, hb2⟩)
      | (go_at_call 31; refine (H31.out _).mono ?_; rintro e w3 ⟨rfl, hb1⟩))
  have HB4 := Aside0.mk (below_step (below_step HB.out.drew hb1) hb2)
  have KA4 := Aside0.mk (blk_below (w := w2.drew) KA.out (below_step hb1 hb2))
  have KB4 := Aside0.mk (blk_below (w := w2.drew) KB.out (below_step hb1 hb2))
  have H31c := Aside0.mk H31.out
  (try clear hHeld)
  clear hb1 hb2 a0 a1 a2 a3 a4 b0 b1 b2 b3 b4 KA KB HB
  have hc1 : (K != K2) = true := bne_iff_ne.2 HC0.out
  go_wp2
  go_ret
  exact ⟨rfl, HB4.out⟩

set_option maxHeartbeats 8000000 in
set_option maxRecDepth 100000 in
theorem equal13_1 (k i : Int) (f : Nat) (s : ByteArray) (l : List Val) (A : Option Addr) (c : Nat) (k2 i2 : Int) (f2 : Nat) (s2 : ByteArray) (l2 : List Val) (A2 : Option Addr) (c2 : Nat) (W : World) (ok ok2 : Nat → Prop)
    (hR : RV W ok (.mk k i f s l) #[.int .i64 k, .int .i64 i, .float .f64 f, .string s, .slice A l.length c]) (hR2 : RV W ok2 (.mk k2 i2 f2 s2 l2) #[.int .i64 k2, .int .i64 i2, .float .f64 f2, .string s2, .slice A2 l2.length c2]) (hc0 : kindV k = kindV k2) (hkn : kindV k = 1) :
    Calls Tryz.prog 13 #[.agg #[.int .i64 k, .int .i64 i, .float .f64 f, .string s, .slice A l.length c], .agg #[.int .i64 k2, .int .i64 i2, .float .f64 f2, .string s2, .slice A2 l2.length c2]] W fun e w' => e = .returned (.bool (decide (i = i2))) ∧ Below W.heap.size W w' := by
  have HR := Aside0.mk hR
  have HR2 := Aside0.mk hR2
  clear hR hR2
  obtain ⟨K, hK⟩ : ∃ K, kindV k = K := ⟨_, rfl⟩
  obtain ⟨K2, hK2⟩ : ∃ K2, kindV k2 = K2 := ⟨_, rfl⟩
  have h31 := fun W => kind31 k i f s A l.length c W
  have h31b := fun W => kind31 k2 i2 f2 s2 A2 l2.length c2 W
  rw [hK] at h31
  rw [hK2] at h31b
  have H31 := Aside0.mk h31
  have H31b := Aside0.mk h31b
  have HK := Aside0.mk hK
  have HK2 := Aside0.mk hK2
  clear h31 h31b
  rw [hK, hK2] at hc0
  have HC0 := Aside0.mk hc0
  clear hK hK2 hc0
  go_enter Tryz.func13, Tryz.ntmps13
  go_upto_region 1 with (first
    | ((with_reducible refine gate_dst (N := 2) rfl ?_); refine box_event ?hg (N := 2) ?hd (cs := #[.int .i64 k, .int .i64 i, .float .f64 f, .string s, .slice A l.length c]) (t := 25) ?hr ?_; (case hd => rfl); (case hg => rfl); (case hr => first | (go_simp; done) | (go_simp; rfl)); intro ga hg w1 hbox hb; have HB := Aside0.mk hb; have KA := Aside0.mk hbox; clear hg hbox hb)
    | ((with_reducible refine gate_dst (N := 3) rfl ?_); refine box_event ?hg (N := 3) ?hd (cs := #[.int .i64 k2, .int .i64 i2, .float .f64 f2, .string s2, .slice A2 l2.length c2]) (t := 25) ?hr ?_; (case hd => rfl); (case hg => rfl); (case hr => first | (go_simp; done) | (go_simp; rfl)); intro gb hg w2 hbox hb; have KA := Aside0.mk (blk_below KA.out hb); have KB := Aside0.mk hbox; have HB := Aside0.mk (below_step HB.out hb); clear hg hbox hb))
  have a0 : w2.cell? ⟨ga, 0, none⟩ = some (.int .i64 k) := blk_cell KA.out 0
  have a1 : w2.cell? ⟨ga, 1, none⟩ = some (.int .i64 i) := blk_cell KA.out 1
  have a2 : w2.cell? ⟨ga, 2, none⟩ = some (.float .f64 f) := blk_cell KA.out 2
  have a3 : w2.cell? ⟨ga, 3, none⟩ = some (.string s) := blk_cell KA.out 3
  have a4 : w2.cell? ⟨ga, 4, none⟩ = some (.slice A l.length c) := blk_cell KA.out 4
  have b0 : w2.cell? ⟨gb, 0, none⟩ = some (.int .i64 k2) := blk_cell KB.out 0
  have b1 : w2.cell? ⟨gb, 1, none⟩ = some (.int .i64 i2) := blk_cell KB.out 1
  have b2 : w2.cell? ⟨gb, 2, none⟩ = some (.float .f64 f2) := blk_cell KB.out 2
  have b3 : w2.cell? ⟨gb, 3, none⟩ = some (.string s2) := blk_cell KB.out 3
  have b4 : w2.cell? ⟨gb, 4, none⟩ = some (.slice A2 l2.length c2) := blk_cell KB.out 4
  go_region_held3 (fun w' => w'.cell? ⟨ga, 0, none⟩ = some (.int .i64 k) ∧ w'.cell? ⟨ga, 1, none⟩ = some (.int .i64 i) ∧ w'.cell? ⟨ga, 2, none⟩ = some (.float .f64 f) ∧ w'.cell? ⟨ga, 3, none⟩ = some (.string s) ∧ w'.cell? ⟨ga, 4, none⟩ = some (.slice A l.length c) ∧ w'.cell? ⟨gb, 0, none⟩ = some (.int .i64 k2) ∧ w'.cell? ⟨gb, 1, none⟩ = some (.int .i64 i2) ∧ w'.cell? ⟨gb, 2, none⟩ = some (.float .f64 f2) ∧ w'.cell? ⟨gb, 3, none⟩ = some (.string s2) ∧ w'.cell? ⟨gb, 4, none⟩ = some (.slice A2 l2.length c2)) (first | exact tenO (W := w2.drew) KA.out KB.out (below_step hb1 hb2) | exact tenO (W := w2.drew) KA.out KB.out hb1 | exact ⟨a0, a1, a2, a3, a4, b0, b1, b2, b3, b4⟩)
    (first
      | (go_at_call 31; have tok := hb1; refine (H31b.out _).mono ?_; clear tok; rintro e w4 ⟨rfl, hb2⟩)
      | (go_at_call 31; refine (H31.out _).mono ?_; rintro e w3 ⟨rfl, hb1⟩))
  have HB4 := Aside0.mk (below_step (below_step HB.out.drew hb1) hb2)
  have KA4 := Aside0.mk (blk_below (w := w2.drew) KA.out (below_step hb1 hb2))
  have KB4 := Aside0.mk (blk_below (w := w2.drew) KB.out (below_step hb1 hb2))
  have H31c := Aside0.mk H31.out
  (try clear hHeld)
  clear hb1 hb2 a0 a1 a2 a3 a4 b0 b1 b2 b3 b4 KA KB HB
  have hc1 : (K != K2) = false := by rw [HC0.out]; simp
  have a0 : w4.cell? ⟨ga, 0, none⟩ = some (.int .i64 k) := blk_cell KA4.out 0
  have a1 : w4.cell? ⟨ga, 1, none⟩ = some (.int .i64 i) := blk_cell KA4.out 1
  have a2 : w4.cell? ⟨ga, 2, none⟩ = some (.float .f64 f) := blk_cell KA4.out 2
  have a3 : w4.cell? ⟨ga, 3, none⟩ = some (.string s) := blk_cell KA4.out 3
  have a4 : w4.cell? ⟨ga, 4, none⟩ = some (.slice A l.length c) := blk_cell KA4.out 4
  have b0 : w4.cell? ⟨gb, 0, none⟩ = some (.int .i64 k2) := blk_cell KB4.out 0
  have b1 : w4.cell? ⟨gb, 1, none⟩ = some (.int .i64 i2) := blk_cell KB4.out 1
  have b2 : w4.cell? ⟨gb, 2, none⟩ = some (.float .f64 f2) := blk_cell KB4.out 2
  have b3 : w4.cell? ⟨gb, 3, none⟩ = some (.string s2) := blk_cell KB4.out 3
  have b4 : w4.cell? ⟨gb, 4, none⟩ = some (.slice A2 l2.length c2) := blk_cell KB4.out 4
  go_upto_region 4 with (first
    | (go_at_call 31; refine (H31c.out _).mono ?_; rintro e w6 ⟨rfl, hb⟩; have HB6 := Aside0.mk (below_step HB4.out hb); have KA6 := Aside0.mk (blk_below KA4.out hb); have KB6 := Aside0.mk (blk_below KB4.out hb); clear hb))
  clear a0 a1 a2 a3 a4 b0 b1 b2 b3 b4
  have a0 : w6.cell? ⟨ga, 0, none⟩ = some (.int .i64 k) := blk_cell KA6.out 0
  have a1 : w6.cell? ⟨ga, 1, none⟩ = some (.int .i64 i) := blk_cell KA6.out 1
  have a2 : w6.cell? ⟨ga, 2, none⟩ = some (.float .f64 f) := blk_cell KA6.out 2
  have a3 : w6.cell? ⟨ga, 3, none⟩ = some (.string s) := blk_cell KA6.out 3
  have a4 : w6.cell? ⟨ga, 4, none⟩ = some (.slice A l.length c) := blk_cell KA6.out 4
  have b0 : w6.cell? ⟨gb, 0, none⟩ = some (.int .i64 k2) := blk_cell KB6.out 0
  have b1 : w6.cell? ⟨gb, 1, none⟩ = some (.int .i64 i2) := blk_cell KB6.out 1
  have b2 : w6.cell? ⟨gb, 2, none⟩ = some (.float .f64 f2) := blk_cell KB6.out 2
  have b3 : w6.cell? ⟨gb, 3, none⟩ = some (.string s2) := blk_cell KB6.out 3
  have b4 : w6.cell? ⟨gb, 4, none⟩ = some (.slice A2 l2.length c2) := blk_cell KB6.out 4
  obtain rfl : K = 1 := HK.out.symm.trans hkn
  clear hkn
  go_wp2
  go_ret
  exact ⟨by first | rfl | (simp [Value.oneCell']; done) | (congr 2; simp [BEq.beq]), HB6.out⟩

set_option maxHeartbeats 8000000 in
set_option maxRecDepth 100000 in
theorem equal13_2a (k i : Int) (f : Nat) (s : ByteArray) (l : List Val) (A : Option Addr) (c : Nat) (k2 i2 : Int) (f2 : Nat) (s2 : ByteArray) (l2 : List Val) (A2 : Option Addr) (c2 : Nat) (W : World) (ok ok2 : Nat → Prop)
    (hR : RV W ok (.mk k i f s l) #[.int .i64 k, .int .i64 i, .float .f64 f, .string s, .slice A l.length c]) (hR2 : RV W ok2 (.mk k2 i2 f2 s2 l2) #[.int .i64 k2, .int .i64 i2, .float .f64 f2, .string s2, .slice A2 l2.length c2]) (hc0 : kindV k = kindV k2) (hkn : kindV k = 2) (he : (FloatKind.f64.format.order f f2 == some Ordering.eq) = true) :
    Calls Tryz.prog 13 #[.agg #[.int .i64 k, .int .i64 i, .float .f64 f, .string s, .slice A l.length c], .agg #[.int .i64 k2, .int .i64 i2, .float .f64 f2, .string s2, .slice A2 l2.length c2]] W fun e w' => e = .returned (.bool (true)) ∧ Below W.heap.size W w' := by
  have HR := Aside0.mk hR
  have HR2 := Aside0.mk hR2
  clear hR hR2
  obtain ⟨K, hK⟩ : ∃ K, kindV k = K := ⟨_, rfl⟩
  obtain ⟨K2, hK2⟩ : ∃ K2, kindV k2 = K2 := ⟨_, rfl⟩
  have h31 := fun W => kind31 k i f s A l.length c W
  have h31b := fun W => kind31 k2 i2 f2 s2 A2 l2.length c2 W
  rw [hK] at h31
  rw [hK2] at h31b
  have H31 := Aside0.mk h31
  have H31b := Aside0.mk h31b
  have HK := Aside0.mk hK
  have HK2 := Aside0.mk hK2
  clear h31 h31b
  rw [hK, hK2] at hc0
  have HC0 := Aside0.mk hc0
  clear hK hK2 hc0
  go_enter Tryz.func13, Tryz.ntmps13
  go_upto_region 1 with (first
    | ((with_reducible refine gate_dst (N := 2) rfl ?_); refine box_event ?hg (N := 2) ?hd (cs := #[.int .i64 k, .int .i64 i, .float .f64 f, .string s, .slice A l.length c]) (t := 25) ?hr ?_; (case hd => rfl); (case hg => rfl); (case hr => first | (go_simp; done) | (go_simp; rfl)); intro ga hg w1 hbox hb; have HB := Aside0.mk hb; have KA := Aside0.mk hbox; clear hg hbox hb)
    | ((with_reducible refine gate_dst (N := 3) rfl ?_); refine box_event ?hg (N := 3) ?hd (cs := #[.int .i64 k2, .int .i64 i2, .float .f64 f2, .string s2, .slice A2 l2.length c2]) (t := 25) ?hr ?_; (case hd => rfl); (case hg => rfl); (case hr => first | (go_simp; done) | (go_simp; rfl)); intro gb hg w2 hbox hb; have KA := Aside0.mk (blk_below KA.out hb); have KB := Aside0.mk hbox; have HB := Aside0.mk (below_step HB.out hb); clear hg hbox hb))
  have a0 : w2.cell? ⟨ga, 0, none⟩ = some (.int .i64 k) := blk_cell KA.out 0
  have a1 : w2.cell? ⟨ga, 1, none⟩ = some (.int .i64 i) := blk_cell KA.out 1
  have a2 : w2.cell? ⟨ga, 2, none⟩ = some (.float .f64 f) := blk_cell KA.out 2
  have a3 : w2.cell? ⟨ga, 3, none⟩ = some (.string s) := blk_cell KA.out 3
  have a4 : w2.cell? ⟨ga, 4, none⟩ = some (.slice A l.length c) := blk_cell KA.out 4
  have b0 : w2.cell? ⟨gb, 0, none⟩ = some (.int .i64 k2) := blk_cell KB.out 0
  have b1 : w2.cell? ⟨gb, 1, none⟩ = some (.int .i64 i2) := blk_cell KB.out 1
  have b2 : w2.cell? ⟨gb, 2, none⟩ = some (.float .f64 f2) := blk_cell KB.out 2
  have b3 : w2.cell? ⟨gb, 3, none⟩ = some (.string s2) := blk_cell KB.out 3
  have b4 : w2.cell? ⟨gb, 4, none⟩ = some (.slice A2 l2.length c2) := blk_cell KB.out 4
  go_region_held3 (fun w' => w'.cell? ⟨ga, 0, none⟩ = some (.int .i64 k) ∧ w'.cell? ⟨ga, 1, none⟩ = some (.int .i64 i) ∧ w'.cell? ⟨ga, 2, none⟩ = some (.float .f64 f) ∧ w'.cell? ⟨ga, 3, none⟩ = some (.string s) ∧ w'.cell? ⟨ga, 4, none⟩ = some (.slice A l.length c) ∧ w'.cell? ⟨gb, 0, none⟩ = some (.int .i64 k2) ∧ w'.cell? ⟨gb, 1, none⟩ = some (.int .i64 i2) ∧ w'.cell? ⟨gb, 2, none⟩ = some (.float .f64 f2) ∧ w'.cell? ⟨gb, 3, none⟩ = some (.string s2) ∧ w'.cell? ⟨gb, 4, none⟩ = some (.slice A2 l2.length c2)) (first | exact tenO (W := w2.drew) KA.out KB.out (below_step hb1 hb2) | exact tenO (W := w2.drew) KA.out KB.out hb1 | exact ⟨a0, a1, a2, a3, a4, b0, b1, b2, b3, b4⟩)
    (first
      | (go_at_call 31; have tok := hb1; refine (H31b.out _).mono ?_; clear tok; rintro e w4 ⟨rfl, hb2⟩)
      | (go_at_call 31; refine (H31.out _).mono ?_; rintro e w3 ⟨rfl, hb1⟩))
  have HB4 := Aside0.mk (below_step (below_step HB.out.drew hb1) hb2)
  have KA4 := Aside0.mk (blk_below (w := w2.drew) KA.out (below_step hb1 hb2))
  have KB4 := Aside0.mk (blk_below (w := w2.drew) KB.out (below_step hb1 hb2))
  have H31c := Aside0.mk H31.out
  (try clear hHeld)
  clear hb1 hb2 a0 a1 a2 a3 a4 b0 b1 b2 b3 b4 KA KB HB
  have hc1 : (K != K2) = false := by rw [HC0.out]; simp
  have a0 : w4.cell? ⟨ga, 0, none⟩ = some (.int .i64 k) := blk_cell KA4.out 0
  have a1 : w4.cell? ⟨ga, 1, none⟩ = some (.int .i64 i) := blk_cell KA4.out 1
  have a2 : w4.cell? ⟨ga, 2, none⟩ = some (.float .f64 f) := blk_cell KA4.out 2
  have a3 : w4.cell? ⟨ga, 3, none⟩ = some (.string s) := blk_cell KA4.out 3
  have a4 : w4.cell? ⟨ga, 4, none⟩ = some (.slice A l.length c) := blk_cell KA4.out 4
  have b0 : w4.cell? ⟨gb, 0, none⟩ = some (.int .i64 k2) := blk_cell KB4.out 0
  have b1 : w4.cell? ⟨gb, 1, none⟩ = some (.int .i64 i2) := blk_cell KB4.out 1
  have b2 : w4.cell? ⟨gb, 2, none⟩ = some (.float .f64 f2) := blk_cell KB4.out 2
  have b3 : w4.cell? ⟨gb, 3, none⟩ = some (.string s2) := blk_cell KB4.out 3
  have b4 : w4.cell? ⟨gb, 4, none⟩ = some (.slice A2 l2.length c2) := blk_cell KB4.out 4
  go_upto_region 4 with (first
    | (go_at_call 31; refine (H31c.out _).mono ?_; rintro e w6 ⟨rfl, hb⟩; have HB6 := Aside0.mk (below_step HB4.out hb); have KA6 := Aside0.mk (blk_below KA4.out hb); have KB6 := Aside0.mk (blk_below KB4.out hb); clear hb))
  clear a0 a1 a2 a3 a4 b0 b1 b2 b3 b4
  have a0 : w6.cell? ⟨ga, 0, none⟩ = some (.int .i64 k) := blk_cell KA6.out 0
  have a1 : w6.cell? ⟨ga, 1, none⟩ = some (.int .i64 i) := blk_cell KA6.out 1
  have a2 : w6.cell? ⟨ga, 2, none⟩ = some (.float .f64 f) := blk_cell KA6.out 2
  have a3 : w6.cell? ⟨ga, 3, none⟩ = some (.string s) := blk_cell KA6.out 3
  have a4 : w6.cell? ⟨ga, 4, none⟩ = some (.slice A l.length c) := blk_cell KA6.out 4
  have b0 : w6.cell? ⟨gb, 0, none⟩ = some (.int .i64 k2) := blk_cell KB6.out 0
  have b1 : w6.cell? ⟨gb, 1, none⟩ = some (.int .i64 i2) := blk_cell KB6.out 1
  have b2 : w6.cell? ⟨gb, 2, none⟩ = some (.float .f64 f2) := blk_cell KB6.out 2
  have b3 : w6.cell? ⟨gb, 3, none⟩ = some (.string s2) := blk_cell KB6.out 3
  have b4 : w6.cell? ⟨gb, 4, none⟩ = some (.slice A2 l2.length c2) := blk_cell KB6.out 4
  obtain rfl : K = 2 := HK.out.symm.trans hkn
  clear hkn
  go_wp2
  go_ret
  exact ⟨rfl, HB6.out⟩

set_option maxHeartbeats 8000000 in
set_option maxRecDepth 100000 in
theorem equal13_2b (k i : Int) (f : Nat) (s : ByteArray) (l : List Val) (A : Option Addr) (c : Nat) (k2 i2 : Int) (f2 : Nat) (s2 : ByteArray) (l2 : List Val) (A2 : Option Addr) (c2 : Nat) (W : World) (ok ok2 : Nat → Prop)
    (hR : RV W ok (.mk k i f s l) #[.int .i64 k, .int .i64 i, .float .f64 f, .string s, .slice A l.length c]) (hR2 : RV W ok2 (.mk k2 i2 f2 s2 l2) #[.int .i64 k2, .int .i64 i2, .float .f64 f2, .string s2, .slice A2 l2.length c2]) (hc0 : kindV k = kindV k2) (hkn : kindV k = 2) (he : (FloatKind.f64.format.order f f2 == some Ordering.eq) = false) (hn : isNan f = false) :
    Calls Tryz.prog 13 #[.agg #[.int .i64 k, .int .i64 i, .float .f64 f, .string s, .slice A l.length c], .agg #[.int .i64 k2, .int .i64 i2, .float .f64 f2, .string s2, .slice A2 l2.length c2]] W fun e w' => e = .returned (.bool (false)) ∧ Below W.heap.size W w' := by
  have h1 := Aside0.mk (fun W => isNaN36 f W)
  rw [hn] at h1
  clear hn
  have HR := Aside0.mk hR
  have HR2 := Aside0.mk hR2
  clear hR hR2
  obtain ⟨K, hK⟩ : ∃ K, kindV k = K := ⟨_, rfl⟩
  obtain ⟨K2, hK2⟩ : ∃ K2, kindV k2 = K2 := ⟨_, rfl⟩
  have h31 := fun W => kind31 k i f s A l.length c W
  have h31b := fun W => kind31 k2 i2 f2 s2 A2 l2.length c2 W
  rw [hK] at h31
  rw [hK2] at h31b
  have H31 := Aside0.mk h31
  have H31b := Aside0.mk h31b
  have HK := Aside0.mk hK
  have HK2 := Aside0.mk hK2
  clear h31 h31b
  rw [hK, hK2] at hc0
  have HC0 := Aside0.mk hc0
  clear hK hK2 hc0
  go_enter Tryz.func13, Tryz.ntmps13
  go_upto_region 1 with (first
    | ((with_reducible refine gate_dst (N := 2) rfl ?_); refine box_event ?hg (N := 2) ?hd (cs := #[.int .i64 k, .int .i64 i, .float .f64 f, .string s, .slice A l.length c]) (t := 25) ?hr ?_; (case hd => rfl); (case hg => rfl); (case hr => first | (go_simp; done) | (go_simp; rfl)); intro ga hg w1 hbox hb; have HB := Aside0.mk hb; have KA := Aside0.mk hbox; clear hg hbox hb)
    | ((with_reducible refine gate_dst (N := 3) rfl ?_); refine box_event ?hg (N := 3) ?hd (cs := #[.int .i64 k2, .int .i64 i2, .float .f64 f2, .string s2, .slice A2 l2.length c2]) (t := 25) ?hr ?_; (case hd => rfl); (case hg => rfl); (case hr => first | (go_simp; done) | (go_simp; rfl)); intro gb hg w2 hbox hb; have KA := Aside0.mk (blk_below KA.out hb); have KB := Aside0.mk hbox; have HB := Aside0.mk (below_step HB.out hb); clear hg hbox hb))
  have a0 : w2.cell? ⟨ga, 0, none⟩ = some (.int .i64 k) := blk_cell KA.out 0
  have a1 : w2.cell? ⟨ga, 1, none⟩ = some (.int .i64 i) := blk_cell KA.out 1
  have a2 : w2.cell? ⟨ga, 2, none⟩ = some (.float .f64 f) := blk_cell KA.out 2
  have a3 : w2.cell? ⟨ga, 3, none⟩ = some (.string s) := blk_cell KA.out 3
  have a4 : w2.cell? ⟨ga, 4, none⟩ = some (.slice A l.length c) := blk_cell KA.out 4
  have b0 : w2.cell? ⟨gb, 0, none⟩ = some (.int .i64 k2) := blk_cell KB.out 0
  have b1 : w2.cell? ⟨gb, 1, none⟩ = some (.int .i64 i2) := blk_cell KB.out 1
  have b2 : w2.cell? ⟨gb, 2, none⟩ = some (.float .f64 f2) := blk_cell KB.out 2
  have b3 : w2.cell? ⟨gb, 3, none⟩ = some (.string s2) := blk_cell KB.out 3
  have b4 : w2.cell? ⟨gb, 4, none⟩ = some (.slice A2 l2.length c2) := blk_cell KB.out 4
  go_region_held3 (fun w' => w'.cell? ⟨ga, 0, none⟩ = some (.int .i64 k) ∧ w'.cell? ⟨ga, 1, none⟩ = some (.int .i64 i) ∧ w'.cell? ⟨ga, 2, none⟩ = some (.float .f64 f) ∧ w'.cell? ⟨ga, 3, none⟩ = some (.string s) ∧ w'.cell? ⟨ga, 4, none⟩ = some (.slice A l.length c) ∧ w'.cell? ⟨gb, 0, none⟩ = some (.int .i64 k2) ∧ w'.cell? ⟨gb, 1, none⟩ = some (.int .i64 i2) ∧ w'.cell? ⟨gb, 2, none⟩ = some (.float .f64 f2) ∧ w'.cell? ⟨gb, 3, none⟩ = some (.string s2) ∧ w'.cell? ⟨gb, 4, none⟩ = some (.slice A2 l2.length c2)) (first | exact tenO (W := w2.drew) KA.out KB.out (below_step hb1 hb2) | exact tenO (W := w2.drew) KA.out KB.out hb1 | exact ⟨a0, a1, a2, a3, a4, b0, b1, b2, b3, b4⟩)
    (first
      | (go_at_call 31; have tok := hb1; refine (H31b.out _).mono ?_; clear tok; rintro e w4 ⟨rfl, hb2⟩)
      | (go_at_call 31; refine (H31.out _).mono ?_; rintro e w3 ⟨rfl, hb1⟩))
  have HB4 := Aside0.mk (below_step (below_step HB.out.drew hb1) hb2)
  have KA4 := Aside0.mk (blk_below (w := w2.drew) KA.out (below_step hb1 hb2))
  have KB4 := Aside0.mk (blk_below (w := w2.drew) KB.out (below_step hb1 hb2))
  have H31c := Aside0.mk H31.out
  (try clear hHeld)
  clear hb1 hb2 a0 a1 a2 a3 a4 b0 b1 b2 b3 b4 KA KB HB
  have hc1 : (K != K2) = false := by rw [HC0.out]; simp
  have a0 : w4.cell? ⟨ga, 0, none⟩ = some (.int .i64 k) := blk_cell KA4.out 0
  have a1 : w4.cell? ⟨ga, 1, none⟩ = some (.int .i64 i) := blk_cell KA4.out 1
  have a2 : w4.cell? ⟨ga, 2, none⟩ = some (.float .f64 f) := blk_cell KA4.out 2
  have a3 : w4.cell? ⟨ga, 3, none⟩ = some (.string s) := blk_cell KA4.out 3
  have a4 : w4.cell? ⟨ga, 4, none⟩ = some (.slice A l.length c) := blk_cell KA4.out 4
  have b0 : w4.cell? ⟨gb, 0, none⟩ = some (.int .i64 k2) := blk_cell KB4.out 0
  have b1 : w4.cell? ⟨gb, 1, none⟩ = some (.int .i64 i2) := blk_cell KB4.out 1
  have b2 : w4.cell? ⟨gb, 2, none⟩ = some (.float .f64 f2) := blk_cell KB4.out 2
  have b3 : w4.cell? ⟨gb, 3, none⟩ = some (.string s2) := blk_cell KB4.out 3
  have b4 : w4.cell? ⟨gb, 4, none⟩ = some (.slice A2 l2.length c2) := blk_cell KB4.out 4
  go_upto_region 4 with (first
    | (go_at_call 31; refine (H31c.out _).mono ?_; rintro e w6 ⟨rfl, hb⟩; have HB6 := Aside0.mk (below_step HB4.out hb); have KA6 := Aside0.mk (blk_below KA4.out hb); have KB6 := Aside0.mk (blk_below KB4.out hb); clear hb))
  clear a0 a1 a2 a3 a4 b0 b1 b2 b3 b4
  have a0 : w6.cell? ⟨ga, 0, none⟩ = some (.int .i64 k) := blk_cell KA6.out 0
  have a1 : w6.cell? ⟨ga, 1, none⟩ = some (.int .i64 i) := blk_cell KA6.out 1
  have a2 : w6.cell? ⟨ga, 2, none⟩ = some (.float .f64 f) := blk_cell KA6.out 2
  have a3 : w6.cell? ⟨ga, 3, none⟩ = some (.string s) := blk_cell KA6.out 3
  have a4 : w6.cell? ⟨ga, 4, none⟩ = some (.slice A l.length c) := blk_cell KA6.out 4
  have b0 : w6.cell? ⟨gb, 0, none⟩ = some (.int .i64 k2) := blk_cell KB6.out 0
  have b1 : w6.cell? ⟨gb, 1, none⟩ = some (.int .i64 i2) := blk_cell KB6.out 1
  have b2 : w6.cell? ⟨gb, 2, none⟩ = some (.float .f64 f2) := blk_cell KB6.out 2
  have b3 : w6.cell? ⟨gb, 3, none⟩ = some (.string s2) := blk_cell KB6.out 3
  have b4 : w6.cell? ⟨gb, 4, none⟩ = some (.slice A2 l2.length c2) := blk_cell KB6.out 4
  obtain rfl : K = 2 := HK.out.symm.trans hkn
  clear hkn
  go_wp2_with (first | (go_at_call 36; with_reducible refine (h1.out _).mono ?_; rintro e w7 ⟨rfl, hw⟩; rw [hw]; clear hw w7))
  go_ret
  exact ⟨rfl, HB6.out⟩

set_option maxHeartbeats 8000000 in
set_option maxRecDepth 100000 in
theorem equal13_2c (k i : Int) (f : Nat) (s : ByteArray) (l : List Val) (A : Option Addr) (c : Nat) (k2 i2 : Int) (f2 : Nat) (s2 : ByteArray) (l2 : List Val) (A2 : Option Addr) (c2 : Nat) (W : World) (ok ok2 : Nat → Prop)
    (hR : RV W ok (.mk k i f s l) #[.int .i64 k, .int .i64 i, .float .f64 f, .string s, .slice A l.length c]) (hR2 : RV W ok2 (.mk k2 i2 f2 s2 l2) #[.int .i64 k2, .int .i64 i2, .float .f64 f2, .string s2, .slice A2 l2.length c2]) (hc0 : kindV k = kindV k2) (hkn : kindV k = 2) (he : (FloatKind.f64.format.order f f2 == some Ordering.eq) = false) (hn : isNan f = true) :
    Calls Tryz.prog 13 #[.agg #[.int .i64 k, .int .i64 i, .float .f64 f, .string s, .slice A l.length c], .agg #[.int .i64 k2, .int .i64 i2, .float .f64 f2, .string s2, .slice A2 l2.length c2]] W fun e w' => e = .returned (.bool (isNan f2)) ∧ Below W.heap.size W w' := by
  have h1 := Aside0.mk (fun W => isNaN36 f W)
  have h2 := Aside0.mk (fun W => isNaN36 f2 W)
  rw [hn] at h1
  obtain ⟨N, hN⟩ : ∃ N, isNan f2 = N := ⟨_, rfl⟩
  rw [hN] at h2 ⊢
  clear hn hN
  have HR := Aside0.mk hR
  have HR2 := Aside0.mk hR2
  clear hR hR2
  obtain ⟨K, hK⟩ : ∃ K, kindV k = K := ⟨_, rfl⟩
  obtain ⟨K2, hK2⟩ : ∃ K2, kindV k2 = K2 := ⟨_, rfl⟩
  have h31 := fun W => kind31 k i f s A l.length c W
  have h31b := fun W => kind31 k2 i2 f2 s2 A2 l2.length c2 W
  rw [hK] at h31
  rw [hK2] at h31b
  have H31 := Aside0.mk h31
  have H31b := Aside0.mk h31b
  have HK := Aside0.mk hK
  have HK2 := Aside0.mk hK2
  clear h31 h31b
  rw [hK, hK2] at hc0
  have HC0 := Aside0.mk hc0
  clear hK hK2 hc0
  go_enter Tryz.func13, Tryz.ntmps13
  go_upto_region 1 with (first
    | ((with_reducible refine gate_dst (N := 2) rfl ?_); refine box_event ?hg (N := 2) ?hd (cs := #[.int .i64 k, .int .i64 i, .float .f64 f, .string s, .slice A l.length c]) (t := 25) ?hr ?_; (case hd => rfl); (case hg => rfl); (case hr => first | (go_simp; done) | (go_simp; rfl)); intro ga hg w1 hbox hb; have HB := Aside0.mk hb; have KA := Aside0.mk hbox; clear hg hbox hb)
    | ((with_reducible refine gate_dst (N := 3) rfl ?_); refine box_event ?hg (N := 3) ?hd (cs := #[.int .i64 k2, .int .i64 i2, .float .f64 f2, .string s2, .slice A2 l2.length c2]) (t := 25) ?hr ?_; (case hd => rfl); (case hg => rfl); (case hr => first | (go_simp; done) | (go_simp; rfl)); intro gb hg w2 hbox hb; have KA := Aside0.mk (blk_below KA.out hb); have KB := Aside0.mk hbox; have HB := Aside0.mk (below_step HB.out hb); clear hg hbox hb))
  have a0 : w2.cell? ⟨ga, 0, none⟩ = some (.int .i64 k) := blk_cell KA.out 0
  have a1 : w2.cell? ⟨ga, 1, none⟩ = some (.int .i64 i) := blk_cell KA.out 1
  have a2 : w2.cell? ⟨ga, 2, none⟩ = some (.float .f64 f) := blk_cell KA.out 2
  have a3 : w2.cell? ⟨ga, 3, none⟩ = some (.string s) := blk_cell KA.out 3
  have a4 : w2.cell? ⟨ga, 4, none⟩ = some (.slice A l.length c) := blk_cell KA.out 4
  have b0 : w2.cell? ⟨gb, 0, none⟩ = some (.int .i64 k2) := blk_cell KB.out 0
  have b1 : w2.cell? ⟨gb, 1, none⟩ = some (.int .i64 i2) := blk_cell KB.out 1
  have b2 : w2.cell? ⟨gb, 2, none⟩ = some (.float .f64 f2) := blk_cell KB.out 2
  have b3 : w2.cell? ⟨gb, 3, none⟩ = some (.string s2) := blk_cell KB.out 3
  have b4 : w2.cell? ⟨gb, 4, none⟩ = some (.slice A2 l2.length c2) := blk_cell KB.out 4
  go_region_held3 (fun w' => w'.cell? ⟨ga, 0, none⟩ = some (.int .i64 k) ∧ w'.cell? ⟨ga, 1, none⟩ = some (.int .i64 i) ∧ w'.cell? ⟨ga, 2, none⟩ = some (.float .f64 f) ∧ w'.cell? ⟨ga, 3, none⟩ = some (.string s) ∧ w'.cell? ⟨ga, 4, none⟩ = some (.slice A l.length c) ∧ w'.cell? ⟨gb, 0, none⟩ = some (.int .i64 k2) ∧ w'.cell? ⟨gb, 1, none⟩ = some (.int .i64 i2) ∧ w'.cell? ⟨gb, 2, none⟩ = some (.float .f64 f2) ∧ w'.cell? ⟨gb, 3, none⟩ = some (.string s2) ∧ w'.cell? ⟨gb, 4, none⟩ = some (.slice A2 l2.length c2)) (first | exact tenO (W := w2.drew) KA.out KB.out (below_step hb1 hb2) | exact tenO (W := w2.drew) KA.out KB.out hb1 | exact ⟨a0, a1, a2, a3, a4, b0, b1, b2, b3, b4⟩)
    (first
      | (go_at_call 31; have tok := hb1; refine (H31b.out _).mono ?_; clear tok; rintro e w4 ⟨rfl, hb2⟩)
      | (go_at_call 31; refine (H31.out _).mono ?_; rintro e w3 ⟨rfl, hb1⟩))
  have HB4 := Aside0.mk (below_step (below_step HB.out.drew hb1) hb2)
  have KA4 := Aside0.mk (blk_below (w := w2.drew) KA.out (below_step hb1 hb2))
  have KB4 := Aside0.mk (blk_below (w := w2.drew) KB.out (below_step hb1 hb2))
  have H31c := Aside0.mk H31.out
  (try clear hHeld)
  clear hb1 hb2 a0 a1 a2 a3 a4 b0 b1 b2 b3 b4 KA KB HB
  have hc1 : (K != K2) = false := by rw [HC0.out]; simp
  have a0 : w4.cell? ⟨ga, 0, none⟩ = some (.int .i64 k) := blk_cell KA4.out 0
  have a1 : w4.cell? ⟨ga, 1, none⟩ = some (.int .i64 i) := blk_cell KA4.out 1
  have a2 : w4.cell? ⟨ga, 2, none⟩ = some (.float .f64 f) := blk_cell KA4.out 2
  have a3 : w4.cell? ⟨ga, 3, none⟩ = some (.string s) := blk_cell KA4.out 3
  have a4 : w4.cell? ⟨ga, 4, none⟩ = some (.slice A l.length c) := blk_cell KA4.out 4
  have b0 : w4.cell? ⟨gb, 0, none⟩ = some (.int .i64 k2) := blk_cell KB4.out 0
  have b1 : w4.cell? ⟨gb, 1, none⟩ = some (.int .i64 i2) := blk_cell KB4.out 1
  have b2 : w4.cell? ⟨gb, 2, none⟩ = some (.float .f64 f2) := blk_cell KB4.out 2
  have b3 : w4.cell? ⟨gb, 3, none⟩ = some (.string s2) := blk_cell KB4.out 3
  have b4 : w4.cell? ⟨gb, 4, none⟩ = some (.slice A2 l2.length c2) := blk_cell KB4.out 4
  go_upto_region 4 with (first
    | (go_at_call 31; refine (H31c.out _).mono ?_; rintro e w6 ⟨rfl, hb⟩; have HB6 := Aside0.mk (below_step HB4.out hb); have KA6 := Aside0.mk (blk_below KA4.out hb); have KB6 := Aside0.mk (blk_below KB4.out hb); clear hb))
  clear a0 a1 a2 a3 a4 b0 b1 b2 b3 b4
  have a0 : w6.cell? ⟨ga, 0, none⟩ = some (.int .i64 k) := blk_cell KA6.out 0
  have a1 : w6.cell? ⟨ga, 1, none⟩ = some (.int .i64 i) := blk_cell KA6.out 1
  have a2 : w6.cell? ⟨ga, 2, none⟩ = some (.float .f64 f) := blk_cell KA6.out 2
  have a3 : w6.cell? ⟨ga, 3, none⟩ = some (.string s) := blk_cell KA6.out 3
  have a4 : w6.cell? ⟨ga, 4, none⟩ = some (.slice A l.length c) := blk_cell KA6.out 4
  have b0 : w6.cell? ⟨gb, 0, none⟩ = some (.int .i64 k2) := blk_cell KB6.out 0
  have b1 : w6.cell? ⟨gb, 1, none⟩ = some (.int .i64 i2) := blk_cell KB6.out 1
  have b2 : w6.cell? ⟨gb, 2, none⟩ = some (.float .f64 f2) := blk_cell KB6.out 2
  have b3 : w6.cell? ⟨gb, 3, none⟩ = some (.string s2) := blk_cell KB6.out 3
  have b4 : w6.cell? ⟨gb, 4, none⟩ = some (.slice A2 l2.length c2) := blk_cell KB6.out 4
  obtain rfl : K = 2 := HK.out.symm.trans hkn
  clear hkn
  go_wp2_with (first | (go_at_call 36; with_reducible refine (h1.out _).mono ?_; rintro e w7 ⟨rfl, hw⟩; rw [hw]; clear hw w7) | (go_at_call 36; with_reducible refine (h2.out _).mono ?_; rintro e w8 ⟨rfl, hw⟩; rw [hw]; clear hw w8))
  go_ret
  exact ⟨rfl, HB6.out⟩

set_option maxHeartbeats 8000000 in
set_option maxRecDepth 100000 in
theorem equal13_3 (k i : Int) (f : Nat) (s : ByteArray) (l : List Val) (A : Option Addr) (c : Nat) (k2 i2 : Int) (f2 : Nat) (s2 : ByteArray) (l2 : List Val) (A2 : Option Addr) (c2 : Nat) (W : World) (ok ok2 : Nat → Prop)
    (hR : RV W ok (.mk k i f s l) #[.int .i64 k, .int .i64 i, .float .f64 f, .string s, .slice A l.length c]) (hR2 : RV W ok2 (.mk k2 i2 f2 s2 l2) #[.int .i64 k2, .int .i64 i2, .float .f64 f2, .string s2, .slice A2 l2.length c2]) (hc0 : kindV k = kindV k2) (hkn : kindV k = 3) :
    Calls Tryz.prog 13 #[.agg #[.int .i64 k, .int .i64 i, .float .f64 f, .string s, .slice A l.length c], .agg #[.int .i64 k2, .int .i64 i2, .float .f64 f2, .string s2, .slice A2 l2.length c2]] W fun e w' => e = .returned (.bool ((s == s2))) ∧ Below W.heap.size W w' := by
  have HR := Aside0.mk hR
  have HR2 := Aside0.mk hR2
  clear hR hR2
  obtain ⟨K, hK⟩ : ∃ K, kindV k = K := ⟨_, rfl⟩
  obtain ⟨K2, hK2⟩ : ∃ K2, kindV k2 = K2 := ⟨_, rfl⟩
  have h31 := fun W => kind31 k i f s A l.length c W
  have h31b := fun W => kind31 k2 i2 f2 s2 A2 l2.length c2 W
  rw [hK] at h31
  rw [hK2] at h31b
  have H31 := Aside0.mk h31
  have H31b := Aside0.mk h31b
  have HK := Aside0.mk hK
  have HK2 := Aside0.mk hK2
  clear h31 h31b
  rw [hK, hK2] at hc0
  have HC0 := Aside0.mk hc0
  clear hK hK2 hc0
  go_enter Tryz.func13, Tryz.ntmps13
  go_upto_region 1 with (first
    | ((with_reducible refine gate_dst (N := 2) rfl ?_); refine box_event ?hg (N := 2) ?hd (cs := #[.int .i64 k, .int .i64 i, .float .f64 f, .string s, .slice A l.length c]) (t := 25) ?hr ?_; (case hd => rfl); (case hg => rfl); (case hr => first | (go_simp; done) | (go_simp; rfl)); intro ga hg w1 hbox hb; have HB := Aside0.mk hb; have KA := Aside0.mk hbox; clear hg hbox hb)
    | ((with_reducible refine gate_dst (N := 3) rfl ?_); refine box_event ?hg (N := 3) ?hd (cs := #[.int .i64 k2, .int .i64 i2, .float .f64 f2, .string s2, .slice A2 l2.length c2]) (t := 25) ?hr ?_; (case hd => rfl); (case hg => rfl); (case hr => first | (go_simp; done) | (go_simp; rfl)); intro gb hg w2 hbox hb; have KA := Aside0.mk (blk_below KA.out hb); have KB := Aside0.mk hbox; have HB := Aside0.mk (below_step HB.out hb); clear hg hbox hb))
  have a0 : w2.cell? ⟨ga, 0, none⟩ = some (.int .i64 k) := blk_cell KA.out 0
  have a1 : w2.cell? ⟨ga, 1, none⟩ = some (.int .i64 i) := blk_cell KA.out 1
  have a2 : w2.cell? ⟨ga, 2, none⟩ = some (.float .f64 f) := blk_cell KA.out 2
  have a3 : w2.cell? ⟨ga, 3, none⟩ = some (.string s) := blk_cell KA.out 3
  have a4 : w2.cell? ⟨ga, 4, none⟩ = some (.slice A l.length c) := blk_cell KA.out 4
  have b0 : w2.cell? ⟨gb, 0, none⟩ = some (.int .i64 k2) := blk_cell KB.out 0
  have b1 : w2.cell? ⟨gb, 1, none⟩ = some (.int .i64 i2) := blk_cell KB.out 1
  have b2 : w2.cell? ⟨gb, 2, none⟩ = some (.float .f64 f2) := blk_cell KB.out 2
  have b3 : w2.cell? ⟨gb, 3, none⟩ = some (.string s2) := blk_cell KB.out 3
  have b4 : w2.cell? ⟨gb, 4, none⟩ = some (.slice A2 l2.length c2) := blk_cell KB.out 4
  go_region_held3 (fun w' => w'.cell? ⟨ga, 0, none⟩ = some (.int .i64 k) ∧ w'.cell? ⟨ga, 1, none⟩ = some (.int .i64 i) ∧ w'.cell? ⟨ga, 2, none⟩ = some (.float .f64 f) ∧ w'.cell? ⟨ga, 3, none⟩ = some (.string s) ∧ w'.cell? ⟨ga, 4, none⟩ = some (.slice A l.length c) ∧ w'.cell? ⟨gb, 0, none⟩ = some (.int .i64 k2) ∧ w'.cell? ⟨gb, 1, none⟩ = some (.int .i64 i2) ∧ w'.cell? ⟨gb, 2, none⟩ = some (.float .f64 f2) ∧ w'.cell? ⟨gb, 3, none⟩ = some (.string s2) ∧ w'.cell? ⟨gb, 4, none⟩ = some (.slice A2 l2.length c2)) (first | exact tenO (W := w2.drew) KA.out KB.out (below_step hb1 hb2) | exact tenO (W := w2.drew) KA.out KB.out hb1 | exact ⟨a0, a1, a2, a3, a4, b0, b1, b2, b3, b4⟩)
    (first
      | (go_at_call 31; have tok := hb1; refine (H31b.out _).mono ?_; clear tok; rintro e w4 ⟨rfl, hb2⟩)
      | (go_at_call 31; refine (H31.out _).mono ?_; rintro e w3 ⟨rfl, hb1⟩))
  have HB4 := Aside0.mk (below_step (below_step HB.out.drew hb1) hb2)
  have KA4 := Aside0.mk (blk_below (w := w2.drew) KA.out (below_step hb1 hb2))
  have KB4 := Aside0.mk (blk_below (w := w2.drew) KB.out (below_step hb1 hb2))
  have H31c := Aside0.mk H31.out
  (try clear hHeld)
  clear hb1 hb2 a0 a1 a2 a3 a4 b0 b1 b2 b3 b4 KA KB HB
  have hc1 : (K != K2) = false := by rw [HC0.out]; simp
  have a0 : w4.cell? ⟨ga, 0, none⟩ = some (.int .i64 k) := blk_cell KA4.out 0
  have a1 : w4.cell? ⟨ga, 1, none⟩ = some (.int .i64 i) := blk_cell KA4.out 1
  have a2 : w4.cell? ⟨ga, 2, none⟩ = some (.float .f64 f) := blk_cell KA4.out 2
  have a3 : w4.cell? ⟨ga, 3, none⟩ = some (.string s) := blk_cell KA4.out 3
  have a4 : w4.cell? ⟨ga, 4, none⟩ = some (.slice A l.length c) := blk_cell KA4.out 4
  have b0 : w4.cell? ⟨gb, 0, none⟩ = some (.int .i64 k2) := blk_cell KB4.out 0
  have b1 : w4.cell? ⟨gb, 1, none⟩ = some (.int .i64 i2) := blk_cell KB4.out 1
  have b2 : w4.cell? ⟨gb, 2, none⟩ = some (.float .f64 f2) := blk_cell KB4.out 2
  have b3 : w4.cell? ⟨gb, 3, none⟩ = some (.string s2) := blk_cell KB4.out 3
  have b4 : w4.cell? ⟨gb, 4, none⟩ = some (.slice A2 l2.length c2) := blk_cell KB4.out 4
  go_upto_region 4 with (first
    | (go_at_call 31; refine (H31c.out _).mono ?_; rintro e w6 ⟨rfl, hb⟩; have HB6 := Aside0.mk (below_step HB4.out hb); have KA6 := Aside0.mk (blk_below KA4.out hb); have KB6 := Aside0.mk (blk_below KB4.out hb); clear hb))
  clear a0 a1 a2 a3 a4 b0 b1 b2 b3 b4
  have a0 : w6.cell? ⟨ga, 0, none⟩ = some (.int .i64 k) := blk_cell KA6.out 0
  have a1 : w6.cell? ⟨ga, 1, none⟩ = some (.int .i64 i) := blk_cell KA6.out 1
  have a2 : w6.cell? ⟨ga, 2, none⟩ = some (.float .f64 f) := blk_cell KA6.out 2
  have a3 : w6.cell? ⟨ga, 3, none⟩ = some (.string s) := blk_cell KA6.out 3
  have a4 : w6.cell? ⟨ga, 4, none⟩ = some (.slice A l.length c) := blk_cell KA6.out 4
  have b0 : w6.cell? ⟨gb, 0, none⟩ = some (.int .i64 k2) := blk_cell KB6.out 0
  have b1 : w6.cell? ⟨gb, 1, none⟩ = some (.int .i64 i2) := blk_cell KB6.out 1
  have b2 : w6.cell? ⟨gb, 2, none⟩ = some (.float .f64 f2) := blk_cell KB6.out 2
  have b3 : w6.cell? ⟨gb, 3, none⟩ = some (.string s2) := blk_cell KB6.out 3
  have b4 : w6.cell? ⟨gb, 4, none⟩ = some (.slice A2 l2.length c2) := blk_cell KB6.out 4
  obtain rfl : K = 3 := HK.out.symm.trans hkn
  clear hkn
  go_wp2
  go_ret
  exact ⟨by rw [beq_toListBytes s s2]; rfl, HB6.out⟩

set_option maxHeartbeats 8000000 in
set_option maxRecDepth 100000 in
theorem equal13_4 (k i : Int) (f : Nat) (s : ByteArray) (l : List Val) (A : Option Addr) (c : Nat) (k2 i2 : Int) (f2 : Nat) (s2 : ByteArray) (l2 : List Val) (A2 : Option Addr) (c2 : Nat) (W : World) (ok ok2 : Nat → Prop)
    (hR : RV W ok (.mk k i f s l) #[.int .i64 k, .int .i64 i, .float .f64 f, .string s, .slice A l.length c]) (hR2 : RV W ok2 (.mk k2 i2 f2 s2 l2) #[.int .i64 k2, .int .i64 i2, .float .f64 f2, .string s2, .slice A2 l2.length c2]) (hc0 : kindV k = kindV k2) (hkn : kindV k = 4) (hE : ∀ (j : Nat) (hj : j < l.length), EqC l[j]) :
    Calls Tryz.prog 13 #[.agg #[.int .i64 k, .int .i64 i, .float .f64 f, .string s, .slice A l.length c], .agg #[.int .i64 k2, .int .i64 i2, .float .f64 f2, .string s2, .slice A2 l2.length c2]] W fun e w' => e = .returned (.bool (equals l l2)) ∧ Below W.heap.size W w' := by
  obtain ⟨F, hF⟩ : ∃ F, equals l l2 = F := ⟨_, rfl⟩
  have h35 := Aside0.mk (fun (W' : World) (hb : Below W.heap.size W W') => equal37 k i f s l k2 i2 f2 s2 l2 hE W' ok ok2 _ _ _ _ _ _ _ _ A A2 c c2 (hR.kept hb) (hR2.kept hb))
  rw [hF] at h35 ⊢
  clear hF hE
  have HR := Aside0.mk hR
  have HR2 := Aside0.mk hR2
  clear hR hR2
  obtain ⟨K, hK⟩ : ∃ K, kindV k = K := ⟨_, rfl⟩
  obtain ⟨K2, hK2⟩ : ∃ K2, kindV k2 = K2 := ⟨_, rfl⟩
  have h31 := fun W => kind31 k i f s A l.length c W
  have h31b := fun W => kind31 k2 i2 f2 s2 A2 l2.length c2 W
  rw [hK] at h31
  rw [hK2] at h31b
  have H31 := Aside0.mk h31
  have H31b := Aside0.mk h31b
  have HK := Aside0.mk hK
  have HK2 := Aside0.mk hK2
  clear h31 h31b
  rw [hK, hK2] at hc0
  have HC0 := Aside0.mk hc0
  clear hK hK2 hc0
  go_enter Tryz.func13, Tryz.ntmps13
  go_upto_region 1 with (first
    | ((with_reducible refine gate_dst (N := 2) rfl ?_); refine box_event ?hg (N := 2) ?hd (cs := #[.int .i64 k, .int .i64 i, .float .f64 f, .string s, .slice A l.length c]) (t := 25) ?hr ?_; (case hd => rfl); (case hg => rfl); (case hr => first | (go_simp; done) | (go_simp; rfl)); intro ga hg w1 hbox hb; have HB := Aside0.mk hb; have KA := Aside0.mk hbox; clear hg hbox hb)
    | ((with_reducible refine gate_dst (N := 3) rfl ?_); refine box_event ?hg (N := 3) ?hd (cs := #[.int .i64 k2, .int .i64 i2, .float .f64 f2, .string s2, .slice A2 l2.length c2]) (t := 25) ?hr ?_; (case hd => rfl); (case hg => rfl); (case hr => first | (go_simp; done) | (go_simp; rfl)); intro gb hg w2 hbox hb; have KA := Aside0.mk (blk_below KA.out hb); have KB := Aside0.mk hbox; have HB := Aside0.mk (below_step HB.out hb); clear hg hbox hb))
  have a0 : w2.cell? ⟨ga, 0, none⟩ = some (.int .i64 k) := blk_cell KA.out 0
  have a1 : w2.cell? ⟨ga, 1, none⟩ = some (.int .i64 i) := blk_cell KA.out 1
  have a2 : w2.cell? ⟨ga, 2, none⟩ = some (.float .f64 f) := blk_cell KA.out 2
  have a3 : w2.cell? ⟨ga, 3, none⟩ = some (.string s) := blk_cell KA.out 3
  have a4 : w2.cell? ⟨ga, 4, none⟩ = some (.slice A l.length c) := blk_cell KA.out 4
  have b0 : w2.cell? ⟨gb, 0, none⟩ = some (.int .i64 k2) := blk_cell KB.out 0
  have b1 : w2.cell? ⟨gb, 1, none⟩ = some (.int .i64 i2) := blk_cell KB.out 1
  have b2 : w2.cell? ⟨gb, 2, none⟩ = some (.float .f64 f2) := blk_cell KB.out 2
  have b3 : w2.cell? ⟨gb, 3, none⟩ = some (.string s2) := blk_cell KB.out 3
  have b4 : w2.cell? ⟨gb, 4, none⟩ = some (.slice A2 l2.length c2) := blk_cell KB.out 4
  go_region_held3 (fun w' => w'.cell? ⟨ga, 0, none⟩ = some (.int .i64 k) ∧ w'.cell? ⟨ga, 1, none⟩ = some (.int .i64 i) ∧ w'.cell? ⟨ga, 2, none⟩ = some (.float .f64 f) ∧ w'.cell? ⟨ga, 3, none⟩ = some (.string s) ∧ w'.cell? ⟨ga, 4, none⟩ = some (.slice A l.length c) ∧ w'.cell? ⟨gb, 0, none⟩ = some (.int .i64 k2) ∧ w'.cell? ⟨gb, 1, none⟩ = some (.int .i64 i2) ∧ w'.cell? ⟨gb, 2, none⟩ = some (.float .f64 f2) ∧ w'.cell? ⟨gb, 3, none⟩ = some (.string s2) ∧ w'.cell? ⟨gb, 4, none⟩ = some (.slice A2 l2.length c2)) (first | exact tenO (W := w2.drew) KA.out KB.out (below_step hb1 hb2) | exact tenO (W := w2.drew) KA.out KB.out hb1 | exact ⟨a0, a1, a2, a3, a4, b0, b1, b2, b3, b4⟩)
    (first
      | (go_at_call 31; have tok := hb1; refine (H31b.out _).mono ?_; clear tok; rintro e w4 ⟨rfl, hb2⟩)
      | (go_at_call 31; refine (H31.out _).mono ?_; rintro e w3 ⟨rfl, hb1⟩))
  have HB4 := Aside0.mk (below_step (below_step HB.out.drew hb1) hb2)
  have KA4 := Aside0.mk (blk_below (w := w2.drew) KA.out (below_step hb1 hb2))
  have KB4 := Aside0.mk (blk_below (w := w2.drew) KB.out (below_step hb1 hb2))
  have H31c := Aside0.mk H31.out
  (try clear hHeld)
  clear hb1 hb2 a0 a1 a2 a3 a4 b0 b1 b2 b3 b4 KA KB HB
  have hc1 : (K != K2) = false := by rw [HC0.out]; simp
  have a0 : w4.cell? ⟨ga, 0, none⟩ = some (.int .i64 k) := blk_cell KA4.out 0
  have a1 : w4.cell? ⟨ga, 1, none⟩ = some (.int .i64 i) := blk_cell KA4.out 1
  have a2 : w4.cell? ⟨ga, 2, none⟩ = some (.float .f64 f) := blk_cell KA4.out 2
  have a3 : w4.cell? ⟨ga, 3, none⟩ = some (.string s) := blk_cell KA4.out 3
  have a4 : w4.cell? ⟨ga, 4, none⟩ = some (.slice A l.length c) := blk_cell KA4.out 4
  have b0 : w4.cell? ⟨gb, 0, none⟩ = some (.int .i64 k2) := blk_cell KB4.out 0
  have b1 : w4.cell? ⟨gb, 1, none⟩ = some (.int .i64 i2) := blk_cell KB4.out 1
  have b2 : w4.cell? ⟨gb, 2, none⟩ = some (.float .f64 f2) := blk_cell KB4.out 2
  have b3 : w4.cell? ⟨gb, 3, none⟩ = some (.string s2) := blk_cell KB4.out 3
  have b4 : w4.cell? ⟨gb, 4, none⟩ = some (.slice A2 l2.length c2) := blk_cell KB4.out 4
  go_upto_region 4 with (first
    | (go_at_call 31; refine (H31c.out _).mono ?_; rintro e w6 ⟨rfl, hb⟩; have HB6 := Aside0.mk (below_step HB4.out hb); have KA6 := Aside0.mk (blk_below KA4.out hb); have KB6 := Aside0.mk (blk_below KB4.out hb); clear hb))
  clear a0 a1 a2 a3 a4 b0 b1 b2 b3 b4
  have a0 : w6.cell? ⟨ga, 0, none⟩ = some (.int .i64 k) := blk_cell KA6.out 0
  have a1 : w6.cell? ⟨ga, 1, none⟩ = some (.int .i64 i) := blk_cell KA6.out 1
  have a2 : w6.cell? ⟨ga, 2, none⟩ = some (.float .f64 f) := blk_cell KA6.out 2
  have a3 : w6.cell? ⟨ga, 3, none⟩ = some (.string s) := blk_cell KA6.out 3
  have a4 : w6.cell? ⟨ga, 4, none⟩ = some (.slice A l.length c) := blk_cell KA6.out 4
  have b0 : w6.cell? ⟨gb, 0, none⟩ = some (.int .i64 k2) := blk_cell KB6.out 0
  have b1 : w6.cell? ⟨gb, 1, none⟩ = some (.int .i64 i2) := blk_cell KB6.out 1
  have b2 : w6.cell? ⟨gb, 2, none⟩ = some (.float .f64 f2) := blk_cell KB6.out 2
  have b3 : w6.cell? ⟨gb, 3, none⟩ = some (.string s2) := blk_cell KB6.out 3
  have b4 : w6.cell? ⟨gb, 4, none⟩ = some (.slice A2 l2.length c2) := blk_cell KB6.out 4
  obtain rfl : K = 4 := HK.out.symm.trans hkn
  clear hkn
  go_wp2_with (go_at_call 37; refine (h35.out _ HB6.out).mono ?_; rintro e w7 ⟨rfl, hb⟩; have HB6 := Aside0.mk (below_step HB6.out hb); clear hb)
  go_ret
  exact ⟨rfl, HB6.out⟩

set_option maxHeartbeats 8000000 in
set_option maxRecDepth 100000 in
theorem equal13_0 (k i : Int) (f : Nat) (s : ByteArray) (l : List Val) (A : Option Addr) (c : Nat) (k2 i2 : Int) (f2 : Nat) (s2 : ByteArray) (l2 : List Val) (A2 : Option Addr) (c2 : Nat) (W : World) (ok ok2 : Nat → Prop)
    (hR : RV W ok (.mk k i f s l) #[.int .i64 k, .int .i64 i, .float .f64 f, .string s, .slice A l.length c]) (hR2 : RV W ok2 (.mk k2 i2 f2 s2 l2) #[.int .i64 k2, .int .i64 i2, .float .f64 f2, .string s2, .slice A2 l2.length c2]) (hc0 : kindV k = kindV k2) (hk1 : kindV k ≠ 1) (hk2 : kindV k ≠ 2) (hk3 : kindV k ≠ 3) (hk4 : kindV k ≠ 4) :
    Calls Tryz.prog 13 #[.agg #[.int .i64 k, .int .i64 i, .float .f64 f, .string s, .slice A l.length c], .agg #[.int .i64 k2, .int .i64 i2, .float .f64 f2, .string s2, .slice A2 l2.length c2]] W fun e w' => e = .returned (.bool (true)) ∧ Below W.heap.size W w' := by
  have HR := Aside0.mk hR
  have HR2 := Aside0.mk hR2
  clear hR hR2
  obtain ⟨K, hK⟩ : ∃ K, kindV k = K := ⟨_, rfl⟩
  obtain ⟨K2, hK2⟩ : ∃ K2, kindV k2 = K2 := ⟨_, rfl⟩
  have h31 := fun W => kind31 k i f s A l.length c W
  have h31b := fun W => kind31 k2 i2 f2 s2 A2 l2.length c2 W
  rw [hK] at h31
  rw [hK2] at h31b
  have H31 := Aside0.mk h31
  have H31b := Aside0.mk h31b
  have HK := Aside0.mk hK
  have HK2 := Aside0.mk hK2
  clear h31 h31b
  rw [hK, hK2] at hc0
  have HC0 := Aside0.mk hc0
  clear hK hK2 hc0
  go_enter Tryz.func13, Tryz.ntmps13
  go_upto_region 1 with (first
    | ((with_reducible refine gate_dst (N := 2) rfl ?_); refine box_event ?hg (N := 2) ?hd (cs := #[.int .i64 k, .int .i64 i, .float .f64 f, .string s, .slice A l.length c]) (t := 25) ?hr ?_; (case hd => rfl); (case hg => rfl); (case hr => first | (go_simp; done) | (go_simp; rfl)); intro ga hg w1 hbox hb; have HB := Aside0.mk hb; have KA := Aside0.mk hbox; clear hg hbox hb)
    | ((with_reducible refine gate_dst (N := 3) rfl ?_); refine box_event ?hg (N := 3) ?hd (cs := #[.int .i64 k2, .int .i64 i2, .float .f64 f2, .string s2, .slice A2 l2.length c2]) (t := 25) ?hr ?_; (case hd => rfl); (case hg => rfl); (case hr => first | (go_simp; done) | (go_simp; rfl)); intro gb hg w2 hbox hb; have KA := Aside0.mk (blk_below KA.out hb); have KB := Aside0.mk hbox; have HB := Aside0.mk (below_step HB.out hb); clear hg hbox hb))
  have a0 : w2.cell? ⟨ga, 0, none⟩ = some (.int .i64 k) := blk_cell KA.out 0
  have a1 : w2.cell? ⟨ga, 1, none⟩ = some (.int .i64 i) := blk_cell KA.out 1
  have a2 : w2.cell? ⟨ga, 2, none⟩ = some (.float .f64 f) := blk_cell KA.out 2
  have a3 : w2.cell? ⟨ga, 3, none⟩ = some (.string s) := blk_cell KA.out 3
  have a4 : w2.cell? ⟨ga, 4, none⟩ = some (.slice A l.length c) := blk_cell KA.out 4
  have b0 : w2.cell? ⟨gb, 0, none⟩ = some (.int .i64 k2) := blk_cell KB.out 0
  have b1 : w2.cell? ⟨gb, 1, none⟩ = some (.int .i64 i2) := blk_cell KB.out 1
  have b2 : w2.cell? ⟨gb, 2, none⟩ = some (.float .f64 f2) := blk_cell KB.out 2
  have b3 : w2.cell? ⟨gb, 3, none⟩ = some (.string s2) := blk_cell KB.out 3
  have b4 : w2.cell? ⟨gb, 4, none⟩ = some (.slice A2 l2.length c2) := blk_cell KB.out 4
  go_region_held3 (fun w' => w'.cell? ⟨ga, 0, none⟩ = some (.int .i64 k) ∧ w'.cell? ⟨ga, 1, none⟩ = some (.int .i64 i) ∧ w'.cell? ⟨ga, 2, none⟩ = some (.float .f64 f) ∧ w'.cell? ⟨ga, 3, none⟩ = some (.string s) ∧ w'.cell? ⟨ga, 4, none⟩ = some (.slice A l.length c) ∧ w'.cell? ⟨gb, 0, none⟩ = some (.int .i64 k2) ∧ w'.cell? ⟨gb, 1, none⟩ = some (.int .i64 i2) ∧ w'.cell? ⟨gb, 2, none⟩ = some (.float .f64 f2) ∧ w'.cell? ⟨gb, 3, none⟩ = some (.string s2) ∧ w'.cell? ⟨gb, 4, none⟩ = some (.slice A2 l2.length c2)) (first | exact tenO (W := w2.drew) KA.out KB.out (below_step hb1 hb2) | exact tenO (W := w2.drew) KA.out KB.out hb1 | exact ⟨a0, a1, a2, a3, a4, b0, b1, b2, b3, b4⟩)
    (first
      | (go_at_call 31; have tok := hb1; refine (H31b.out _).mono ?_; clear tok; rintro e w4 ⟨rfl, hb2⟩)
      | (go_at_call 31; refine (H31.out _).mono ?_; rintro e w3 ⟨rfl, hb1⟩))
  have HB4 := Aside0.mk (below_step (below_step HB.out.drew hb1) hb2)
  have KA4 := Aside0.mk (blk_below (w := w2.drew) KA.out (below_step hb1 hb2))
  have KB4 := Aside0.mk (blk_below (w := w2.drew) KB.out (below_step hb1 hb2))
  have H31c := Aside0.mk H31.out
  (try clear hHeld)
  clear hb1 hb2 a0 a1 a2 a3 a4 b0 b1 b2 b3 b4 KA KB HB
  have hc1 : (K != K2) = false := by rw [HC0.out]; simp
  have a0 : w4.cell? ⟨ga, 0, none⟩ = some (.int .i64 k) := blk_cell KA4.out 0
  have a1 : w4.cell? ⟨ga, 1, none⟩ = some (.int .i64 i) := blk_cell KA4.out 1
  have a2 : w4.cell? ⟨ga, 2, none⟩ = some (.float .f64 f) := blk_cell KA4.out 2
  have a3 : w4.cell? ⟨ga, 3, none⟩ = some (.string s) := blk_cell KA4.out 3
  have a4 : w4.cell? ⟨ga, 4, none⟩ = some (.slice A l.length c) := blk_cell KA4.out 4
  have b0 : w4.cell? ⟨gb, 0, none⟩ = some (.int .i64 k2) := blk_cell KB4.out 0
  have b1 : w4.cell? ⟨gb, 1, none⟩ = some (.int .i64 i2) := blk_cell KB4.out 1
  have b2 : w4.cell? ⟨gb, 2, none⟩ = some (.float .f64 f2) := blk_cell KB4.out 2
  have b3 : w4.cell? ⟨gb, 3, none⟩ = some (.string s2) := blk_cell KB4.out 3
  have b4 : w4.cell? ⟨gb, 4, none⟩ = some (.slice A2 l2.length c2) := blk_cell KB4.out 4
  go_upto_region 4 with (first
    | (go_at_call 31; refine (H31c.out _).mono ?_; rintro e w6 ⟨rfl, hb⟩; have HB6 := Aside0.mk (below_step HB4.out hb); have KA6 := Aside0.mk (blk_below KA4.out hb); have KB6 := Aside0.mk (blk_below KB4.out hb); clear hb))
  clear a0 a1 a2 a3 a4 b0 b1 b2 b3 b4
  have a0 : w6.cell? ⟨ga, 0, none⟩ = some (.int .i64 k) := blk_cell KA6.out 0
  have a1 : w6.cell? ⟨ga, 1, none⟩ = some (.int .i64 i) := blk_cell KA6.out 1
  have a2 : w6.cell? ⟨ga, 2, none⟩ = some (.float .f64 f) := blk_cell KA6.out 2
  have a3 : w6.cell? ⟨ga, 3, none⟩ = some (.string s) := blk_cell KA6.out 3
  have a4 : w6.cell? ⟨ga, 4, none⟩ = some (.slice A l.length c) := blk_cell KA6.out 4
  have b0 : w6.cell? ⟨gb, 0, none⟩ = some (.int .i64 k2) := blk_cell KB6.out 0
  have b1 : w6.cell? ⟨gb, 1, none⟩ = some (.int .i64 i2) := blk_cell KB6.out 1
  have b2 : w6.cell? ⟨gb, 2, none⟩ = some (.float .f64 f2) := blk_cell KB6.out 2
  have b3 : w6.cell? ⟨gb, 3, none⟩ = some (.string s2) := blk_cell KB6.out 3
  have b4 : w6.cell? ⟨gb, 4, none⟩ = some (.slice A2 l2.length c2) := blk_cell KB6.out 4
  have e1 : (K == 1) = false := beq_eq_false_iff_ne.2 (by rw [← HK.out]; exact hk1)
  have e2 : (K == 2) = false := beq_eq_false_iff_ne.2 (by rw [← HK.out]; exact hk2)
  have e3 : (K == 3) = false := beq_eq_false_iff_ne.2 (by rw [← HK.out]; exact hk3)
  have e4 : (K == 4) = false := beq_eq_false_iff_ne.2 (by rw [← HK.out]; exact hk4)
  clear hk1 hk2 hk3 hk4
  go_wp2
  go_ret
  exact ⟨rfl, HB6.out⟩
/-- Equal. -/
theorem equal13 (v : Val) : EqC v := by
  induction v using Val.ind with
  | h k i f s l ih =>
    intro W ok cs hR v2 ok2 cs2 hR2
    cases v2 with
    | mk k2 i2 f2 s2 l2 =>
      obtain ⟨A, c, rfl, _⟩ := hR.len
      obtain ⟨A2, c2, rfl, _⟩ := hR2.len
      unfold equalV
      by_cases h0 : kindV k = kindV k2
      · rw [if_pos h0]
        by_cases h1 : kindV k = 1
        · rw [if_pos h1]; exact equal13_1 k i f s l A c k2 i2 f2 s2 l2 A2 c2 W ok ok2 hR hR2 h0 h1
        · rw [if_neg h1]
          by_cases h2 : kindV k = 2
          · rw [if_pos h2]
            unfold eqF
            cases he : feq f f2
            · rw [if_neg (by decide)]
              cases hn : isNan f
              · rw [if_neg (by decide)]
                exact equal13_2b k i f s l A c k2 i2 f2 s2 l2 A2 c2 W ok ok2 hR hR2 h0 h2 he hn
              · rw [if_pos rfl]
                exact equal13_2c k i f s l A c k2 i2 f2 s2 l2 A2 c2 W ok ok2 hR hR2 h0 h2 he hn
            · rw [if_pos rfl]
              exact equal13_2a k i f s l A c k2 i2 f2 s2 l2 A2 c2 W ok ok2 hR hR2 h0 h2 he
          · rw [if_neg h2]
            by_cases h3 : kindV k = 3
            · rw [if_pos h3]; exact equal13_3 k i f s l A c k2 i2 f2 s2 l2 A2 c2 W ok ok2 hR hR2 h0 h3
            · rw [if_neg h3]
              by_cases h4 : kindV k = 4
              · rw [if_pos h4]; exact equal13_4 k i f s l A c k2 i2 f2 s2 l2 A2 c2 W ok ok2 hR hR2 h0 h4 ih
              · rw [if_neg h4]; exact equal13_0 k i f s l A c k2 i2 f2 s2 l2 A2 c2 W ok ok2 hR hR2 h0 h1 h2 h3 h4
      · rw [if_neg h0]; exact equal13_ne k i f s l A c k2 i2 f2 s2 l2 A2 c2 W ok ok2 hR hR2 h0
end Go.Proofs.YtejfmghjmhiodaaGreatDoor.Vz
