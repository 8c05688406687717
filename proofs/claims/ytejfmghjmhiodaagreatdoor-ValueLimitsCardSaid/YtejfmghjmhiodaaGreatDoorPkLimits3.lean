/- Lemmas of the proof, part 3 of 3. -/
import Derived.Deep.RegionHeld3
import Derived.Laws.StructEq
import Derived.Laws.IdiomStrings
import Derived.Deep.CutBlock
import Derived.Deep.DeepCutAuto
import Derived.OpenShut
import Derived.Test.YtejfmghjmhiodaaGreatDoorRows
import Derived.Laws.Cover2
import Derived.WalkKit
import Derived.ProofKit
import Derived.ShutString
import Derived.ChangeOld
import Derived.Below
import Derived.SizedLaws
import Derived.Test.YtejfmghjmhiodaaGreatDoorPkLimits1
import Derived.Test.YtejfmghjmhiodaaGreatDoorPkLimits2
namespace Go.Proofs.YtejfmghjmhiodaaGreatDoor.Vz
open Go.RowKit Go.Proofs.YtejfmghjmhiodaaGreatDoorW.PrintWords
set_option linter.unusedVariables false
set_option linter.unusedSimpArgs false
attribute [local go_sem] store_float

set_option maxHeartbeats 8000000 in
set_option maxRecDepth 100000 in
theorem equal13_ne (k i : Int) (f : Nat) (s : ByteArray) (l : List Val) (A : Option Addr) (c : Nat) (k2 i2 : Int) (f2 : Nat) (s2 : ByteArray) (l2 : List Val) (A2 : Option Addr) (c2 : Nat) (W : World) (ok ok2 : Nat → Prop)
    (hR : RV W ok (.mk k i f s l) #[.int .i64 k, .int .i64 i, .float .f64 f, .string s, .slice A l.length c]) (hR2 : RV W ok2 (.mk k2 i2 f2 s2 l2) #[.int .i64 k2, .int .i64 i2, .float .f64 f2, .string s2, .slice A2 l2.length c2]) (hc0 : kindV k ≠ kindV k2) :
    Calls Tryz.prog 13 #[.agg #[.int .i64 k, .int .i64 i, .float .f64 f, .string s, .slice A l.length c], .agg #[.int .i64 k2, .int .i64 i2, .float .f64 f2, .string s2, .slice A2 l2.length c2]] W fun e w' => e = .returned (.bool false) ∧ Below W.heap.size W w' := by
  have HR := Aside0.mk hR
  have HR2 := Aside0.mk hR2
  clear hR hR2
  obtain ⟨K, hK⟩ : ∃ K, kindV k = K := ⟨_, rfl⟩
  obtain ⟨K2, hK2⟩ : ∃ K2, kindV k2 = K2 := ⟨_, rfl⟩
  have h31 := fun W => kind31 k i f s A l.length c W
  have h31b := fun W => kind31 k2 i2 f2 s2 A2 l2.length c2 W
  rw [hK] at h31
  rw [hK2] at h31b
  have H31 := Aside0.mk h31
  have H31b := Aside0.mk h31b
  have HK := Aside0.mk hK
  have HK2 := Aside0.mk hK2
  clear h31 h31b
  rw [hK, hK2] at hc0
  have HC0 := Aside0.mk hc0
  clear hK hK2 hc0
  go_enter Tryz.func13, Tryz.ntmps13
  go_upto_region 1 with (first
    | ((with_reducible refine gate_dst (N := 2) rfl ?_); refine box_event ?hg (N := 2) ?hd (cs := #[.int .i64 k, .int .i64 i, .float .f64 f, .string s, .slice A l.length c]) (t := 25) ?hr ?_; (case hd => rfl); (case hg => rfl); (case hr => first | (go_simp; done) | (go_simp; rfl)); intro ga hg w1 hbox hb; have HB := Aside0.mk hb; have KA := Aside0.mk hbox; clear hg hbox hb)
    | ((with_reducible refine gate_dst (N := 3) rfl ?_); refine box_event ?hg (N := 3) ?hd (cs := #[.int .i64 k2, .int .i64 i2, .float .f64 f2, .string s2, .slice A2 l2.length c2]) (t := 25) ?hr ?_; (case hd => rfl); (case hg => rfl); (case hr => first | (go_simp; done) | (go_simp; rfl)); intro gb hg w2 hbox hb; have KA := Aside0.mk (blk_below KA.out hb); have KB := Aside0.mk hbox; have HB := Aside0.mk (below_step HB.out hb); clear hg hbox hb))
  have a0 : w2.cell? ⟨ga, 0, none⟩ = some (.int .i64 k) := blk_cell KA.out 0
  have a1 : w2.cell? ⟨ga, 1, none⟩ = some (.int .i64 i) := blk_cell KA.out 1
  have a2 : w2.cell? ⟨ga, 2, none⟩ = some (.float .f64 f) := blk_cell KA.out 2
  have a3 : w2.cell? ⟨ga, 3, none⟩ = some (.string s) := blk_cell KA.out 3
  have a4 : w2.cell? ⟨ga, 4, none⟩ = some (.slice A l.length c) := blk_cell KA.out 4
  have b0 : w2.cell? ⟨gb, 0, none⟩ = some (.int .i64 k2) := blk_cell KB.out 0
  have b1 : w2.cell? ⟨gb, 1, none⟩ = some (.int .i64 i2) := blk_cell KB.out 1
  have b2 : w2.cell? ⟨gb, 2, none⟩ = some (.float .f64 f2) := blk_cell KB.out 2
  have b3 : w2.cell? ⟨gb, 3, none⟩ = some (.string s2) := blk_cell KB.out 3
  have b4 : w2.cell? ⟨gb, 4, none⟩ = some (.slice A2 l2.length c2) := blk_cell KB.out 4
  go_region_held3 (fun w' => w'.cell? ⟨ga, 0, none⟩ = some (.int .i64 k) ∧ w'.cell? ⟨ga, 1, none⟩ = some (.int .i64 i) ∧ w'.cell? ⟨ga, 2, none⟩ = some (.float .f64 f) ∧ w'.cell? ⟨ga, 3, none⟩ = some (.string s) ∧ w'.cell? ⟨ga, 4, none⟩ = some (.slice A l.length c) ∧ w'.cell? ⟨gb, 0, none⟩ = some (.int .i64 k2) ∧ w'.cell? ⟨gb, 1, none⟩ = some (.int .i64 i2) ∧ w'.cell? ⟨gb, 2, none⟩ = some (.float .f64 f2) ∧ w'.cell? ⟨gb, 3, none⟩ = some (.string s2) ∧ w'.cell? ⟨gb, 4, none⟩ = some (.slice A2 l2.length c2)) (first | exact tenO (W := w2.drew) KA.out KB.out (below_step hb1 hb2) | exact tenO (W := w2.drew) KA.out KB.out hb1 | exact ⟨a0, a1, a2, a3, a4, b0, b1, b2, b3, b4⟩)
    (first
      | (go_at_call 31; have tok := hb1; refine (H31b.out _).mono ?_; clear tok; rintro e w4 ⟨rfl, hb2⟩)
      | (go_at_call 31; refine (H31.out _).mono ?_; rintro e w3 ⟨rfl, hb1⟩))
  have HB4 := Aside0.mk (below_step (below_step HB.out.drew hb1) hb2)
  have KA4 := Aside0.mk (blk_below (w := w2.drew) KA.out (below_step hb1 hb2))
  have KB4 := Aside0.mk (blk_below (w := w2.drew) KB.out (below_step hb1 hb2))
  have H31c := Aside0.mk H31.out
  (try clear hHeld)
  clear hb1 hb2 a0 a1 a2 a3 a4 b0 b1 b2 b3 b4 KA KB HB
  have hc1 : (K != K2) = true := bne_iff_ne.2 HC0.out
  go_wp2
  go_ret
  exact ⟨rfl, HB4.out⟩

set_option maxHeartbeats 8000000 in
set_option maxRecDepth 100000 in
theorem equal13_1 (k i : Int) (f : Nat) (s : ByteArray) (l : List Val) (A : Option Addr) (c : Nat) (k2 i2 : Int) (f2 : Nat) (s2 : ByteArray) (l2 : List Val) (A2 : Option Addr) (c2 : Nat) (W : World) (ok ok2 : Nat → Prop)
    (hR : RV W ok (.mk k i f s l) #[.int .i64 k, .int .i64 i, .float .f64 f, .string s, .slice A l.length c]) (hR2 : RV W ok2 (.mk k2 i2 f2 s2 l2) #[.int .i64 k2, .int .i64 i2, .float .f64 f2, .string s2, .slice A2 l2.length c2]) (hc0 : kindV k = kindV k2) (hkn : kindV k = 1) :
    Calls Tryz.prog 13 #[.agg #[.int .i64 k, .int .i64 i, .float .f64 f, .string s, .slice A l.length c], .agg #[.int .i64 k2, .int .i64 i2, .float .f64 f2, .string s2, .slice A2 l2.length c2]] W fun e w' => e = .returned (.bool (decide (i = i2))) ∧ Below W.heap.size W w' := by
  have HR := Aside0.mk hR
  have HR2 := Aside0.mk hR2
  clear hR hR2
  obtain ⟨K, hK⟩ : ∃ K, kindV k = K := ⟨_, rfl⟩
  obtain ⟨K2, hK2⟩ : ∃ K2, kindV k2 = K2 := ⟨_, rfl⟩
  have h31 := fun W => kind31 k i f s A l.length c W
  have h31b := fun W => kind31 k2 i2 f2 s2 A2 l2.length c2 W
  rw [hK] at h31
  rw [hK2] at h31b
  have H31 := Aside0.mk h31
  have H31b := Aside0.mk h31b
  have HK := Aside0.mk hK
  have HK2 := Aside0.mk hK2
  clear h31 h31b
  rw [hK, hK2] at hc0
  have HC0 := Aside0.mk hc0
  clear hK hK2 hc0
  go_enter Tryz.func13, Tryz.ntmps13
  go_upto_region 1 with (first
    | ((with_reducible refine gate_dst (N := 2) rfl ?_); refine box_event ?hg (N := 2) ?hd (cs := #[.int .i64 k, .int .i64 i, .float .f64 f, .string s, .slice A l.length c]) (t := 25) ?hr ?_; (case hd => rfl); (case hg => rfl); (case hr => first | (go_simp; done) | (go_simp; rfl)); intro ga hg w1 hbox hb; have HB := Aside0.mk hb; have KA := Aside0.mk hbox; clear hg hbox hb)
    | ((with_reducible refine gate_dst (N := 3) rfl ?_); refine box_event ?hg (N := 3) ?hd (cs := #[.int .i64 k2, .int .i64 i2, .float .f64 f2, .string s2, .slice A2 l2.length c2]) (t := 25) ?hr ?_; (case hd => rfl); (case hg => rfl); (case hr => first | (go_simp; done) | (go_simp; rfl)); intro gb hg w2 hbox hb; have KA := Aside0.mk (blk_below KA.out hb); have KB := Aside0.mk hbox; have HB := Aside0.mk (below_step HB.out hb); clear hg hbox hb))
  have a0 : w2.cell? ⟨ga, 0, none⟩ = some (.int .i64 k) := blk_cell KA.out 0
  have a1 : w2.cell? ⟨ga, 1, none⟩ = some (.int .i64 i) := blk_cell KA.out 1
  have a2 : w2.cell? ⟨ga, 2, none⟩ = some (.float .f64 f) := blk_cell KA.out 2
  have a3 : w2.cell? ⟨ga, 3, none⟩ = some (.string s) := blk_cell KA.out 3
  have a4 : w2.cell? ⟨ga, 4, none⟩ = some (.slice A l.length c) := blk_cell KA.out 4
  have b0 : w2.cell? ⟨gb, 0, none⟩ = some (.int .i64 k2) := blk_cell KB.out 0
  have b1 : w2.cell? ⟨gb, 1, none⟩ = some (.int .i64 i2) := blk_cell KB.out 1
  have b2 : w2.cell? ⟨gb, 2, none⟩ = some (.float .f64 f2) := blk_cell KB.out 2
  have b3 : w2.cell? ⟨gb, 3, none⟩ = some (.string s2) := blk_cell KB.out 3
  have b4 : w2.cell? ⟨gb, 4, none⟩ = some (.slice A2 l2.length c2) := blk_cell KB.out 4
  go_region_held3 (fun w' => w'.cell? ⟨ga, 0, none⟩ = some (.int .i64 k) ∧ w'.cell? ⟨ga, 1, none⟩ = some (.int .i64 i) ∧ w'.cell? ⟨ga, 2, none⟩ = some (.float .f64 f) ∧ w'.cell? ⟨ga, 3, none⟩ = some (.string s) ∧ w'.cell? ⟨ga, 4, none⟩ = some (.slice A l.length c) ∧ w'.cell? ⟨gb, 0, none⟩ = some (.int .i64 k2) ∧ w'.cell? ⟨gb, 1, none⟩ = some (.int .i64 i2) ∧ w'.cell? ⟨gb, 2, none⟩ = some (.float .f64 f2) ∧ w'.cell? ⟨gb, 3, none⟩ = some (.string s2) ∧ w'.cell? ⟨gb, 4, none⟩ = some (.slice A2 l2.length c2)) (first | exact tenO (W := w2.drew) KA.out KB.out (below_step hb1 hb2) | exact tenO (W := w2.drew) KA.out KB.out hb1 | exact ⟨a0, a1, a2, a3, a4, b0, b1, b2, b3, b4⟩)
    (first
      | (go_at_call 31; have tok := hb1; refine (H31b.out _).mono ?_; clear tok; rintro e w4 ⟨rfl, hb2⟩)
      | (go_at_call 31; refine (H31.out _).mono ?_; rintro e w3 ⟨rfl, hb1⟩))
  have HB4 := Aside0.mk (below_step (below_step HB.out.drew hb1) hb2)
  have KA4 := Aside0.mk (blk_below (w := w2.drew) KA.out (below_step hb1 hb2))
  have KB4 := Aside0.mk (blk_below (w := w2.drew) KB.out (below_step hb1 hb2))
  have H31c := Aside0.mk H31.out
  (try clear hHeld)
  clear hb1 hb2 a0 a1 a2 a3 a4 b0 b1 b2 b3 b4 KA KB HB
  have hc1 : (K != K2) = false := by rw [HC0.out]; simp
  have a0 : w4.cell? ⟨ga, 0, none⟩ = some (.int .i64 k) := blk_cell KA4.out 0
  have a1 : w4.cell? ⟨ga, 1, none⟩ = some (.int .i64 i) := blk_cell KA4.out 1
  have a2 : w4.cell? ⟨ga, 2, none⟩ = some (.float .f64 f) := blk_cell KA4.out 2
  have a3 : w4.cell? ⟨ga, 3, none⟩ = some (.string s) := blk_cell KA4.out 3
  have a4 : w4.cell? ⟨ga, 4, none⟩ = some (.slice A l.length c) := blk_cell KA4.out 4
  have b0 : w4.cell? ⟨gb, 0, none⟩ = some (.int .i64 k2) := blk_cell KB4.out 0
  have b1 : w4.cell? ⟨gb, 1, none⟩ = some (.int .i64 i2) := blk_cell KB4.out 1
  have b2 : w4.cell? ⟨gb, 2, none⟩ = some (.float .f64 f2) := blk_cell KB4.out 2
  have b3 : w4.cell? ⟨gb, 3, none⟩ = some (.string s2) := blk_cell KB4.out 3
  have b4 : w4.cell? ⟨gb, 4, none⟩ = some (.slice A2 l2.length c2) := blk_cell KB4.out 4
  go_upto_region 4 with (first
    | (go_at_call 31; refine (H31c.out _).mono ?_; rintro e w6 ⟨rfl, hb⟩; have HB6 := Aside0.mk (below_step HB4.out hb); have KA6 := Aside0.mk (blk_below KA4.out hb); have KB6 := Aside0.mk (blk_below KB4.out hb); clear hb))
  clear a0 a1 a2 a3 a4 b0 b1 b2 b3 b4
  have a0 : w6.cell? ⟨ga, 0, none⟩ = some (.int .i64 k) := blk_cell KA6.out 0
  have a1 : w6.cell? ⟨ga, 1, none⟩ = some (.int .i64 i) := blk_cell KA6.out 1
  have a2 : w6.cell? ⟨ga, 2, none⟩ = some (.float .f64 f) := blk_cell KA6.out 2
  have a3 : w6.cell? ⟨ga, 3, none⟩ = some (.string s) := blk_cell KA6.out 3
  have a4 : w6.cell? ⟨ga, 4, none⟩ = some (.slice A l.length c) := blk_cell KA6.out 4
  have b0 : w6.cell? ⟨gb, 0, none⟩ = some (.int .i64 k2) := blk_cell KB6.out 0
  have b1 : w6.cell? ⟨gb, 1, none⟩ = some (.int .i64 i2) := blk_cell KB6.out 1
  have b2 : w6.cell? ⟨gb, 2, none⟩ = some (.float .f64 f2) := blk_cell KB6.out 2
  have b3 : w6.cell? ⟨gb, 3, none⟩ = some (.string s2) := blk_cell KB6.out 3
  have b4 : w6.cell? ⟨gb, 4, none⟩ = some (.slice A2 l2.length c2) := blk_cell KB6.out 4
  obtain rfl : K = 1 := HK.out.symm.trans hkn
  clear hkn
  go_wp2
  go_ret
  exact ⟨by first | rfl | (simp [Value.oneCell']; done) | (congr 2; simp [BEq.beq]), HB6.out⟩

set_option maxHeartbeats 8000000 in
set_option maxRecDepth 100000 in
theorem equal13_2a (k i : Int) (f : Nat) (s : ByteArray) (l : List Val) (A : Option Addr) (c : Nat) (k2 i2 : Int) (f2 : Nat) (s2 : ByteArray) (l2 : List Val) (A2 : Option Addr) (c2 : Nat) (W : World) (ok ok2 : Nat → Prop)
    (hR : RV W ok (.mk k i f s l) #[.int .i64 k, .int .i64 i, .float .f64 f, .string s, .slice A l.length c]) (hR2 : RV W ok2 (.mk k2 i2 f2 s2 l2) #[.int .i64 k2, .int .i64 i2, .float .f64 f2, .string s2, .slice A2 l2.length c2]) (hc0 : kindV k = kindV k2) (hkn : kindV k = 2) (he : (FloatKind.f64.format.order f f2 == some Ordering.eq) = true) :
    Calls Tryz.prog 13 #[.agg #[.int .i64 k, .int .i64 i, .float .f64 f, .string s, .slice A l.length c], .agg #[.int .i64 k2, .int .i64 i2, .float .f64 f2, .string s2, .slice A2 l2.length c2]] W fun e w' => e = .returned (.bool (true)) ∧ Below W.heap.size W w' := by
  have HR := Aside0.mk hR
  have HR2 := Aside0.mk hR2
  clear hR hR2
  obtain ⟨K, hK⟩ : ∃ K, kindV k = K := ⟨_, rfl⟩
  obtain ⟨K2, hK2⟩ : ∃ K2, kindV k2 = K2 := ⟨_, rfl⟩
  have h31 := fun W => kind31 k i f s A l.length c W
  have h31b := fun W => kind31 k2 i2 f2 s2 A2 l2.length c2 W
  rw [hK] at h31
  rw [hK2] at h31b
  have H31 := Aside0.mk h31
  have H31b := Aside0.mk h31b
  have HK := Aside0.mk hK
  have HK2 := Aside0.mk hK2
  clear h31 h31b
  rw [hK, hK2] at hc0
  have HC0 := Aside0.mk hc0
  clear hK hK2 hc0
  go_enter Tryz.func13, Tryz.ntmps13
  go_upto_region 1 with (first
    | ((with_reducible refine gate_dst (N := 2) rfl ?_); refine box_event ?hg (N := 2) ?hd (cs := #[.int .i64 k, .int .i64 i, .float .f64 f, .string s, .slice A l.length c]) (t := 25) ?hr ?_; (case hd => rfl); (case hg => rfl); (case hr => first | (go_simp; done) | (go_simp; rfl)); intro ga hg w1 hbox hb; have HB := Aside0.mk hb; have KA := Aside0.mk hbox; clear hg hbox hb)
    | ((with_reducible refine gate_dst (N := 3) rfl ?_); refine box_event ?hg (N := 3) ?hd (cs := #[.int .i64 k2, .int .i64 i2, .float .f64 f2, .string s2, .slice A2 l2.length c2]) (t := 25) ?hr ?_; (case hd => rfl); (case hg => rfl); (case hr => first | (go_simp; done) | (go_simp; rfl)); intro gb hg w2 hbox hb; have KA := Aside0.mk (blk_below KA.out hb); have KB := Aside0.mk hbox; have HB := Aside0.mk (below_step HB.out hb); clear hg hbox hb))
  have a0 : w2.cell? ⟨ga, 0, none⟩ = some (.int .i64 k) := blk_cell KA.out 0
  have a1 : w2.cell? ⟨ga, 1, none⟩ = some (.int .i64 i) := blk_cell KA.out 1
  have a2 : w2.cell? ⟨ga, 2, none⟩ = some (.float .f64 f) := blk_cell KA.out 2
  have a3 : w2.cell? ⟨ga, 3, none⟩ = some (.string s) := blk_cell KA.out 3
  have a4 : w2.cell? ⟨ga, 4, none⟩ = some (.slice A l.length c) := blk_cell KA.out 4
  have b0 : w2.cell? ⟨gb, 0, none⟩ = some (.int .i64 k2) := blk_cell KB.out 0
  have b1 : w2.cell? ⟨gb, 1, none⟩ = some (.int .i64 i2) := blk_cell KB.out 1
  have b2 : w2.cell? ⟨gb, 2, none⟩ = some (.float .f64 f2) := blk_cell KB.out 2
  have b3 : w2.cell? ⟨gb, 3, none⟩ = some (.string s2) := blk_cell KB.out 3
  have b4 : w2.cell? ⟨gb, 4, none⟩ = some (.slice A2 l2.length c2) := blk_cell KB.out 4
  go_region_held3 (fun w' => w'.cell? ⟨ga, 0, none⟩ = some (.int .i64 k) ∧ w'.cell? ⟨ga, 1, none⟩ = some (.int .i64 i) ∧ w'.cell? ⟨ga, 2, none⟩ = some (.float .f64 f) ∧ w'.cell? ⟨ga, 3, none⟩ = some (.string s) ∧ w'.cell? ⟨ga, 4, none⟩ = some (.slice A l.length c) ∧ w'.cell? ⟨gb, 0, none⟩ = some (.int .i64 k2) ∧ w'.cell? ⟨gb, 1, none⟩ = some (.int .i64 i2) ∧ w'.cell? ⟨gb, 2, none⟩ = some (.float .f64 f2) ∧ w'.cell? ⟨gb, 3, none⟩ = some (.string s2) ∧ w'.cell? ⟨gb, 4, none⟩ = some (.slice A2 l2.length c2)) (first | exact tenO (W := w2.drew) KA.out KB.out (below_step hb1 hb2) | exact tenO (W := w2.drew) KA.out KB.out hb1 | exact ⟨a0, a1, a2, a3, a4, b0, b1, b2, b3, b4⟩)
    (first
      | (go_at_call 31; have tok := hb1; refine (H31b.out _).mono ?_; clear tok; rintro e w4 ⟨rfl, hb2⟩)
      | (go_at_call 31; refine (H31.out _).mono ?_; rintro e w3 ⟨rfl, hb1⟩))
  have HB4 := Aside0.mk (below_step (below_step HB.out.drew hb1) hb2)
  have KA4 := Aside0.mk (blk_below (w := w2.drew) KA.out (below_step hb1 hb2))
  have KB4 := Aside0.mk (blk_below (w := w2.drew) KB.out (below_step hb1 hb2))
  have H31c := Aside0.mk H31.out
  (try clear hHeld)
  clear hb1 hb2 a0 a1 a2 a3 a4 b0 b1 b2 b3 b4 KA KB HB
  have hc1 : (K != K2) = false := by rw [HC0.out]; simp
  have a0 : w4.cell? ⟨ga, 0, none⟩ = some (.int .i64 k) := blk_cell KA4.out 0
  have a1 : w4.cell? ⟨ga, 1, none⟩ = some (.int .i64 i) := blk_cell KA4.out 1
  have a2 : w4.cell? ⟨ga, 2, none⟩ = some (.float .f64 f) := blk_cell KA4.out 2
  have a3 : w4.cell? ⟨ga, 3, none⟩ = some (.string s) := blk_cell KA4.out 3
  have a4 : w4.cell? ⟨ga, 4, none⟩ = some (.slice A l.length c) := blk_cell KA4.out 4
  have b0 : w4.cell? ⟨gb, 0, none⟩ = some (.int .i64 k2) := blk_cell KB4.out 0
  have b1 : w4.cell? ⟨gb, 1, none⟩ = some (.int .i64 i2) := blk_cell KB4.out 1
  have b2 : w4.cell? ⟨gb, 2, none⟩ = some (.float .f64 f2) := blk_cell KB4.out 2
  have b3 : w4.cell? ⟨gb, 3, none⟩ = some (.string s2) := blk_cell KB4.out 3
  have b4 : w4.cell? ⟨gb, 4, none⟩ = some (.slice A2 l2.length c2) := blk_cell KB4.out 4
  go_upto_region 4 with (first
    | (go_at_call 31; refine (H31c.out _).mono ?_; rintro e w6 ⟨rfl, hb⟩; have HB6 := Aside0.mk (below_step HB4.out hb); have KA6 := Aside0.mk (blk_below KA4.out hb); have KB6 := Aside0.mk (blk_below KB4.out hb); clear hb))
  clear a0 a1 a2 a3 a4 b0 b1 b2 b3 b4
  have a0 : w6.cell? ⟨ga, 0, none⟩ = some (.int .i64 k) := blk_cell KA6.out 0
  have a1 : w6.cell? ⟨ga, 1, none⟩ = some (.int .i64 i) := blk_cell KA6.out 1
  have a2 : w6.cell? ⟨ga, 2, none⟩ = some (.float .f64 f) := blk_cell KA6.out 2
  have a3 : w6.cell? ⟨ga, 3, none⟩ = some (.string s) := blk_cell KA6.out 3
  have a4 : w6.cell? ⟨ga, 4, none⟩ = some (.slice A l.length c) := blk_cell KA6.out 4
  have b0 : w6.cell? ⟨gb, 0, none⟩ = some (.int .i64 k2) := blk_cell KB6.out 0
  have b1 : w6.cell? ⟨gb, 1, none⟩ = some (.int .i64 i2) := blk_cell KB6.out 1
  have b2 : w6.cell? ⟨gb, 2, none⟩ = some (.float .f64 f2) := blk_cell KB6.out 2
  have b3 : w6.cell? ⟨gb, 3, none⟩ = some (.string s2) := blk_cell KB6.out 3
  have b4 : w6.cell? ⟨gb, 4, none⟩ = some (.slice A2 l2.length c2) := blk_cell KB6.out 4
  obtain rfl : K = 2 := HK.out.symm.trans hkn
  clear hkn
  go_wp2
  go_ret
  exact ⟨rfl, HB6.out⟩

set_option maxHeartbeats 8000000 in
set_option maxRecDepth 100000 in
theorem equal13_2b (k i : Int) (f : Nat) (s : ByteArray) (l : List Val) (A : Option Addr) (c : Nat) (k2 i2 : Int) (f2 : Nat) (s2 : ByteArray) (l2 : List Val) (A2 : Option Addr) (c2 : Nat) (W : World) (ok ok2 : Nat → Prop)
    (hR : RV W ok (.mk k i f s l) #[.int .i64 k, .int .i64 i, .float .f64 f, .string s, .slice A l.length c]) (hR2 : RV W ok2 (.mk k2 i2 f2 s2 l2) #[.int .i64 k2, .int .i64 i2, .float .f64 f2, .string s2, .slice A2 l2.length c2]) (hc0 : kindV k = kindV k2) (hkn : kindV k = 2) (he : (FloatKind.f64.format.order f f2 == some Ordering.eq) = false) (hn : isNan f = false) :
    Calls Tryz.prog 13 #[.agg #[.int .i64 k, .int .i64 i, .float .f64 f, .string s, .slice A l.length c], .agg #[.int .i64 k2, .int .i64 i2, .float .f64 f2, .string s2, .slice A2 l2.length c2]] W fun e w' => e = .returned (.bool (false)) ∧ Below W.heap.size W w' := by
  have h1 := Aside0.mk (fun W => isNaN36 f W)
  rw [hn] at h1
  clear hn
  have HR := Aside0.mk hR
  have HR2 := Aside0.mk hR2
  clear hR hR2
  obtain ⟨K, hK⟩ : ∃ K, kindV k = K := ⟨_, rfl⟩
  obtain ⟨K2, hK2⟩ : ∃ K2, kindV k2 = K2 := ⟨_, rfl⟩
  have h31 := fun W => kind31 k i f s A l.length c W
  have h31b := fun W => kind31 k2 i2 f2 s2 A2 l2.length c2 W
  rw [hK] at h31
  rw [hK2] at h31b
  have H31 := Aside0.mk h31
  have H31b := Aside0.mk h31b
  have HK := Aside0.mk hK
  have HK2 := Aside0.mk hK2
  clear h31 h31b
  rw [hK, hK2] at hc0
  have HC0 := Aside0.mk hc0
  clear hK hK2 hc0
  go_enter Tryz.func13, Tryz.ntmps13
  go_upto_region 1 with (first
    | ((with_reducible refine gate_dst (N := 2) rfl ?_); refine box_event ?hg (N := 2) ?hd (cs := #[.int .i64 k, .int .i64 i, .float .f64 f, .string s, .slice A l.length c]) (t := 25) ?hr ?_; (case hd => rfl); (case hg => rfl); (case hr => first | (go_simp; done) | (go_simp; rfl)); intro ga hg w1 hbox hb; have HB := Aside0.mk hb; have KA := Aside0.mk hbox; clear hg hbox hb)
    | ((with_reducible refine gate_dst (N := 3) rfl ?_); refine box_event ?hg (N := 3) ?hd (cs := #[.int .i64 k2, .int .i64 i2, .float .f64 f2, .string s2, .slice A2 l2.length c2]) (t := 25) ?hr ?_; (case hd => rfl); (case hg => rfl); (case hr => first | (go_simp; done) | (go_simp; rfl)); intro gb hg w2 hbox hb; have KA := Aside0.mk (blk_below KA.out hb); have KB := Aside0.mk hbox; have HB := Aside0.mk (below_step HB.out hb); clear hg hbox hb))
  have a0 : w2.cell? ⟨ga, 0, none⟩ = some (.int .i64 k) := blk_cell KA.out 0
  have a1 : w2.cell? ⟨ga, 1, none⟩ = some (.int .i64 i) := blk_cell KA.out 1
  have a2 : w2.cell? ⟨ga, 2, none⟩ = some (.float .f64 f) := blk_cell KA.out 2
  have a3 : w2.cell? ⟨ga, 3, none⟩ = some (.string s) := blk_cell KA.out 3
  have a4 : w2.cell? ⟨ga, 4, none⟩ = some (.slice A l.length c) := blk_cell KA.out 4
  have b0 : w2.cell? ⟨gb, 0, none⟩ = some (.int .i64 k2) := blk_cell KB.out 0
  have b1 : w2.cell? ⟨gb, 1, none⟩ = some (.int .i64 i2) := blk_cell KB.out 1
  have b2 : w2.cell? ⟨gb, 2, none⟩ = some (.float .f64 f2) := blk_cell KB.out 2
  have b3 : w2.cell? ⟨gb, 3, none⟩ = some (.string s2) := blk_cell KB.out 3
  have b4 : w2.cell? ⟨gb, 4, none⟩ = some (.slice A2 l2.length c2) := blk_cell KB.out 4
  go_region_held3 (fun w' => w'.cell? ⟨ga, 0, none⟩ = some (.int .i64 k) ∧ w'.cell? ⟨ga, 1, none⟩ = some (.int .i64 i) ∧ w'.cell? ⟨ga, 2, none⟩ = some (.float .f64 f) ∧ w'.cell? ⟨ga, 3, none⟩ = some (.string s) ∧ w'.cell? ⟨ga, 4, none⟩ = some (.slice A l.length c) ∧ w'.cell? ⟨gb, 0, none⟩ = some (.int .i64 k2) ∧ w'.cell? ⟨gb, 1, none⟩ = some (.int .i64 i2) ∧ w'.cell? ⟨gb, 2, none⟩ = some (.float .f64 f2) ∧ w'.cell? ⟨gb, 3, none⟩ = some (.string s2) ∧ w'.cell? ⟨gb, 4, none⟩ = some (.slice A2 l2.length c2)) (first | exact tenO (W := w2.drew) KA.out KB.out (below_step hb1 hb2) | exact tenO (W := w2.drew) KA.out KB.out hb1 | exact ⟨a0, a1, a2, a3, a4, b0, b1, b2, b3, b4⟩)
    (first
      | (go_at_call 31; have tok := hb1; refine (H31b.out _).mono ?_; clear tok; rintro e w4 ⟨rfl, hb2⟩)
      | (go_at_call 31; refine (H31.out _).mono ?_; rintro e w3 ⟨rfl, hb1⟩))
  have HB4 := Aside0.mk (below_step (below_step HB.out.drew hb1) hb2)
  have KA4 := Aside0.mk (blk_below (w := w2.drew) KA.out (below_step hb1 hb2))
  have KB4 := Aside0.mk (blk_below (w := w2.drew) KB.out (below_step hb1 hb2))
  have H31c := Aside0.mk H31.out
  (try clear hHeld)
  clear hb1 hb2 a0 a1 a2 a3 a4 b0 b1 b2 b3 b4 KA KB HB
  have hc1 : (K != K2) = false := by rw [HC0.out]; simp
  have a0 : w4.cell? ⟨ga, 0, none⟩ = some (.int .i64 k) := blk_cell KA4.out 0
  have a1 : w4.cell? ⟨ga, 1, none⟩ = some (.int .i64 i) := blk_cell KA4.out 1
  have a2 : w4.cell? ⟨ga, 2, none⟩ = some (.float .f64 f) := blk_cell KA4.out 2
  have a3 : w4.cell? ⟨ga, 3, none⟩ = some (.string s) := blk_cell KA4.out 3
  have a4 : w4.cell? ⟨ga, 4, none⟩ = some (.slice A l.length c) := blk_cell KA4.out 4
  have b0 : w4.cell? ⟨gb, 0, none⟩ = some (.int .i64 k2) := blk_cell KB4.out 0
  have b1 : w4.cell? ⟨gb, 1, none⟩ = some (.int .i64 i2) := blk_cell KB4.out 1
  have b2 : w4.cell? ⟨gb, 2, none⟩ = some (.float .f64 f2) := blk_cell KB4.out 2
  have b3 : w4.cell? ⟨gb, 3, none⟩ = some (.string s2) := blk_cell KB4.out 3
  have b4 : w4.cell? ⟨gb, 4, none⟩ = some (.slice A2 l2.length c2) := blk_cell KB4.out 4
  go_upto_region 4 with (first
    | (go_at_call 31; refine (H31c.out _).mono ?_; rintro e w6 ⟨rfl, hb⟩; have HB6 := Aside0.mk (below_step HB4.out hb); have KA6 := Aside0.mk (blk_below KA4.out hb); have KB6 := Aside0.mk (blk_below KB4.out hb); clear hb))
  clear a0 a1 a2 a3 a4 b0 b1 b2 b3 b4
  have a0 : w6.cell? ⟨ga, 0, none⟩ = some (.int .i64 k) := blk_cell KA6.out 0
  have a1 : w6.cell? ⟨ga, 1, none⟩ = some (.int .i64 i) := blk_cell KA6.out 1
  have a2 : w6.cell? ⟨ga, 2, none⟩ = some (.float .f64 f) := blk_cell KA6.out 2
  have a3 : w6.cell? ⟨ga, 3, none⟩ = some (.string s) := blk_cell KA6.out 3
  have a4 : w6.cell? ⟨ga, 4, none⟩ = some (.slice A l.length c) := blk_cell KA6.out 4
  have b0 : w6.cell? ⟨gb, 0, none⟩ = some (.int .i64 k2) := blk_cell KB6.out 0
  have b1 : w6.cell? ⟨gb, 1, none⟩ = some (.int .i64 i2) := blk_cell KB6.out 1
  have b2 : w6.cell? ⟨gb, 2, none⟩ = some (.float .f64 f2) := blk_cell KB6.out 2
  have b3 : w6.cell? ⟨gb, 3, none⟩ = some (.string s2) := blk_cell KB6.out 3
  have b4 : w6.cell? ⟨gb, 4, none⟩ = some (.slice A2 l2.length c2) := blk_cell KB6.out 4
  obtain rfl : K = 2 := HK.out.symm.trans hkn
  clear hkn
  go_wp2_with (first | (go_at_call 36; with_reducible refine (h1.out _).mono ?_; rintro e w7 ⟨rfl, hw⟩; rw [hw]; clear hw w7))
  go_ret
  exact ⟨rfl, HB6.out⟩

set_option maxHeartbeats 8000000 in
set_option maxRecDepth 100000 in
theorem equal13_2c (k i : Int) (f : Nat) (s : ByteArray) (l : List Val) (A : Option Addr) (c : Nat) (k2 i2 : Int) (f2 : Nat) (s2 : ByteArray) (l2 : List Val) (A2 : Option Addr) (c2 : Nat) (W : World) (ok ok2 : Nat → Prop)
    (hR : RV W ok (.mk k i f s l) #[.int .i64 k, .int .i64 i, .float .f64 f, .string s, .slice A l.length c]) (hR2 : RV W ok2 (.mk k2 i2 f2 s2 l2) #[.int .i64 k2, .int .i64 i2, .float .f64 f2, .string s2, .slice A2 l2.length c2]) (hc0 : kindV k = kindV k2) (hkn : kindV k = 2) (he : (FloatKind.f64.format.order f f2 == some Ordering.eq) = false) (hn : isNan f = true) :
    Calls Tryz.prog 13 #[.agg #[.int .i64 k, .int .i64 i, .float .f64 f, .string s, .slice A l.length c], .agg #[.int .i64 k2, .int .i64 i2, .float .f64 f2, .string s2, .slice A2 l2.length c2]] W fun e w' => e = .returned (.bool (isNan f2)) ∧ Below W.heap.size W w' := by
  have h1 := Aside0.mk (fun W => isNaN36 f W)
  have h2 := Aside0.mk (fun W => isNaN36 f2 W)
  rw [hn] at h1
  obtain ⟨N, hN⟩ : ∃ N, isNan f2 = N := ⟨_, rfl⟩
  rw [hN] at h2 ⊢
  clear hn hN
  have HR := Aside0.mk hR
  have HR2 := Aside0.mk hR2
  clear hR hR2
  obtain ⟨K, hK⟩ : ∃ K, kindV k = K := ⟨_, rfl⟩
  obtain ⟨K2, hK2⟩ : ∃ K2, kindV k2 = K2 := ⟨_, rfl⟩
  have h31 := fun W => kind31 k i f s A l.length c W
  have h31b := fun W => kind31 k2 i2 f2 s2 A2 l2.length c2 W
  rw [hK] at h31
  rw [hK2] at h31b
  have H31 := Aside0.mk h31
  have H31b := Aside0.mk h31b
  have HK := Aside0.mk hK
  have HK2 := Aside0.mk hK2
  clear h31 h31b
  rw [hK, hK2] at hc0
  have HC0 := Aside0.mk hc0
  clear hK hK2 hc0
  go_enter Tryz.func13, Tryz.ntmps13
  go_upto_region 1 with (first
    | ((with_reducible refine gate_dst (N := 2) rfl ?_); refine box_event ?hg (N := 2) ?hd (cs := #[.int .i64 k, .int .i64 i, .float .f64 f, .string s, .slice A l.length c]) (t := 25) ?hr ?_; (case hd => rfl); (case hg => rfl); (case hr => first | (go_simp; done) | (go_simp; rfl)); intro ga hg w1 hbox hb; have HB := Aside0.mk hb; have KA := Aside0.mk hbox; clear hg hbox hb)
    | ((with_reducible refine gate_dst (N := 3) rfl ?_); refine box_event ?hg (N := 3) ?hd (cs := #[.int .i64 k2, .int .i64 i2, .float .f64 f2, .string s2, .slice A2 l2.length c2]) (t := 25) ?hr ?_; (case hd => rfl); (case hg => rfl); (case hr => first | (go_simp; done) | (go_simp; rfl)); intro gb hg w2 hbox hb; have KA := Aside0.mk (blk_below KA.out hb); have KB := Aside0.mk hbox; have HB := Aside0.mk (below_step HB.out hb); clear hg hbox hb))
  have a0 : w2.cell? ⟨ga, 0, none⟩ = some (.int .i64 k) := blk_cell KA.out 0
  have a1 : w2.cell? ⟨ga, 1, none⟩ = some (.int .i64 i) := blk_cell KA.out 1
  have a2 : w2.cell? ⟨ga, 2, none⟩ = some (.float .f64 f) := blk_cell KA.out 2
  have a3 : w2.cell? ⟨ga, 3, none⟩ = some (.string s) := blk_cell KA.out 3
  have a4 : w2.cell? ⟨ga, 4, none⟩ = some (.slice A l.length c) := blk_cell KA.out 4
  have b0 : w2.cell? ⟨gb, 0, none⟩ = some (.int .i64 k2) := blk_cell KB.out 0
  have b1 : w2.cell? ⟨gb, 1, none⟩ = some (.int .i64 i2) := blk_cell KB.out 1
  have b2 : w2.cell? ⟨gb, 2, none⟩ = some (.float .f64 f2) := blk_cell KB.out 2
  have b3 : w2.cell? ⟨gb, 3, none⟩ = some (.string s2) := blk_cell KB.out 3
  have b4 : w2.cell? ⟨gb, 4, none⟩ = some (.slice A2 l2.length c2) := blk_cell KB.out 4
  go_region_held3 (fun w' => w'.cell? ⟨ga, 0, none⟩ = some (.int .i64 k) ∧ w'.cell? ⟨ga, 1, none⟩ = some (.int .i64 i) ∧ w'.cell? ⟨ga, 2, none⟩ = some (.float .f64 f) ∧ w'.cell? ⟨ga, 3, none⟩ = some (.string s) ∧ w'.cell? ⟨ga, 4, none⟩ = some (.slice A l.length c) ∧ w'.cell? ⟨gb, 0, none⟩ = some (.int .i64 k2) ∧ w'.cell? ⟨gb, 1, none⟩ = some (.int .i64 i2) ∧ w'.cell? ⟨gb, 2, none⟩ = some (.float .f64 f2) ∧ w'.cell? ⟨gb, 3, none⟩ = some (.string s2) ∧ w'.cell? ⟨gb, 4, none⟩ = some (.slice A2 l2.length c2)) (first | exact tenO (W := w2.drew) KA.out KB.out (below_step hb1 hb2) | exact tenO (W := w2.drew) KA.out KB.out hb1 | exact ⟨a0, a1, a2, a3, a4, b0, b1, b2, b3, b4⟩)
    (first
      | (go_at_call 31; have tok := hb1; refine (H31b.out _).mono ?_; clear tok; rintro e w4 ⟨rfl, hb2⟩)
      | (go_at_call 31; refine (H31.out _).mono ?_; rintro e w3 ⟨rfl, hb1⟩))
  have HB4 := Aside0.mk (below_step (below_step HB.out.drew hb1) hb2)
  have KA4 := Aside0.mk (blk_below (w := w2.drew) KA.out (below_step hb1 hb2))
  have KB4 := Aside0.mk (blk_below (w := w2.drew) KB.out (below_step hb1 hb2))
  have H31c := Aside0.mk H31.out
  (try clear hHeld)
  clear hb1 hb2 a0 a1 a2 a3 a4 b0 b1 b2 b3 b4 KA KB HB
  have hc1 : (K != K2) = false := by rw [HC0.out]; simp
  have a0 : w4.cell? ⟨ga, 0, none⟩ = some (.int .i64 k) := blk_cell KA4.out 0
  have a1 : w4.cell? ⟨ga, 1, none⟩ = some (.int .i64 i) := blk_cell KA4.out 1
  have a2 : w4.cell? ⟨ga, 2, none⟩ = some (.float .f64 f) := blk_cell KA4.out 2
  have a3 : w4.cell? ⟨ga, 3, none⟩ = some (.string s) := blk_cell KA4.out 3
  have a4 : w4.cell? ⟨ga, 4, none⟩ = some (.slice A l.length c) := blk_cell KA4.out 4
  have b0 : w4.cell? ⟨gb, 0, none⟩ = some (.int .i64 k2) := blk_cell KB4.out 0
  have b1 : w4.cell? ⟨gb, 1, none⟩ = some (.int .i64 i2) := blk_cell KB4.out 1
  have b2 : w4.cell? ⟨gb, 2, none⟩ = some (.float .f64 f2) := blk_cell KB4.out 2
  have b3 : w4.cell? ⟨gb, 3, none⟩ = some (.string s2) := blk_cell KB4.out 3
  have b4 : w4.cell? ⟨gb, 4, none⟩ = some (.slice A2 l2.length c2) := blk_cell KB4.out 4
  go_upto_region 4 with (first
    | (go_at_call 31; refine (H31c.out _).mono ?_; rintro e w6 ⟨rfl, hb⟩; have HB6 := Aside0.mk (below_step HB4.out hb); have KA6 := Aside0.mk (blk_below KA4.out hb); have KB6 := Aside0.mk (blk_below KB4.out hb); clear hb))
  clear a0 a1 a2 a3 a4 b0 b1 b2 b3 b4
  have a0 : w6.cell? ⟨ga, 0, none⟩ = some (.int .i64 k) := blk_cell KA6.out 0
  have a1 : w6.cell? ⟨ga, 1, none⟩ = some (.int .i64 i) := blk_cell KA6.out 1
  have a2 : w6.cell? ⟨ga, 2, none⟩ = some (.float .f64 f) := blk_cell KA6.out 2
  have a3 : w6.cell? ⟨ga, 3, none⟩ = some (.string s) := blk_cell KA6.out 3
  have a4 : w6.cell? ⟨ga, 4, none⟩ = some (.slice A l.length c) := blk_cell KA6.out 4
  have b0 : w6.cell? ⟨gb, 0, none⟩ = some (.int .i64 k2) := blk_cell KB6.out 0
  have b1 : w6.cell? ⟨gb, 1, none⟩ = some (.int .i64 i2) := blk_cell KB6.out 1
  have b2 : w6.cell? ⟨gb, 2, none⟩ = some (.float .f64 f2) := blk_cell KB6.out 2
  have b3 : w6.cell? ⟨gb, 3, none⟩ = some (.string s2) := blk_cell KB6.out 3
  have b4 : w6.cell? ⟨gb, 4, none⟩ = some (.slice A2 l2.length c2) := blk_cell KB6.out 4
  obtain rfl : K = 2 := HK.out.symm.trans hkn
  clear hkn
  go_wp2_with (first | (go_at_call 36; with_reducible refine (h1.out _).mono ?_; rintro e w7 ⟨rfl, hw⟩; rw [hw]; clear hw w7) | (go_at_call 36; with_reducible refine (h2.out _).mono ?_; rintro e w8 ⟨rfl, hw⟩; rw [hw]; clear hw w8))
  go_ret
  exact ⟨rfl, HB6.out⟩

set_option maxHeartbeats 8000000 in
set_option maxRecDepth 100000 in
theorem equal13_3 (k i : Int) (f : Nat) (s : ByteArray) (l : List Val) (A : Option Addr) (c : Nat) (k2 i2 : Int) (f2 : Nat) (s2 : ByteArray) (l2 : List Val) (A2 : Option Addr) (c2 : Nat) (W : World) (ok ok2 : Nat → Prop)
    (hR : RV W ok (.mk k i f s l) #[.int .i64 k, .int .i64 i, .float .f64 f, .string s, .slice A l.length c]) (hR2 : RV W ok2 (.mk k2 i2 f2 s2 l2) #[.int .i64 k2, .int .i64 i2, .float .f64 f2, .string s2, .slice A2 l2.length c2]) (hc0 : kindV k = kindV k2) (hkn : kindV k = 3) :
    Calls Tryz.prog 13 #[.agg #[.int .i64 k, .int .i64 i, .float .f64 f, .string s, .slice A l.length c], .agg #[.int .i64 k2, .int .i64 i2, .float .f64 f2, .string s2, .slice A2 l2.length c2]] W fun e w' => e = .returned (.bool ((s == s2))) ∧ Below W.heap.size W w' := by
  have HR := Aside0.mk hR
  have HR2 := Aside0.mk hR2
  clear hR hR2
  obtain ⟨K, hK⟩ : ∃ K, kindV k = K := ⟨_, rfl⟩
  obtain ⟨K2, hK2⟩ : ∃ K2, kindV k2 = K2 := ⟨_, rfl⟩
  have h31 := fun W => kind31 k i f s A l.length c W
  have h31b := fun W => kind31 k2 i2 f2 s2 A2 l2.length c2 W
  rw [hK] at h31
  rw [hK2] at h31b
  have H31 := Aside0.mk h31
  have H31b := Aside0.mk h31b
  have HK := Aside0.mk hK
  have HK2 := Aside0.mk hK2
  clear h31 h31b
  rw [hK, hK2] at hc0
  have HC0 := Aside0.mk hc0
  clear hK hK2 hc0
  go_enter Tryz.func13, Tryz.ntmps13
  go_upto_region 1 with (first
    | ((with_reducible refine gate_dst (N := 2) rfl ?_); refine box_event ?hg (N := 2) ?hd (cs := #[.int .i64 k, .int .i64 i, .float .f64 f, .string s, .slice A l.length c]) (t := 25) ?hr ?_; (case hd => rfl); (case hg => rfl); (case hr => first | (go_simp; done) | (go_simp; rfl)); intro ga hg w1 hbox hb; have HB := Aside0.mk hb; have KA := Aside0.mk hbox; clear hg hbox hb)
    | ((with_reducible refine gate_dst (N := 3) rfl ?_); refine box_event ?hg (N := 3) ?hd (cs := #[.int .i64 k2, .int .i64 i2, .float .f64 f2, .string s2, .slice A2 l2.length c2]) (t := 25) ?hr ?_; (case hd => rfl); (case hg => rfl); (case hr => first | (go_simp; done) | (go_simp; rfl)); intro gb hg w2 hbox hb; have KA := Aside0.mk (blk_below KA.out hb); have KB := Aside0.mk hbox; have HB := Aside0.mk (below_step HB.out hb); clear hg hbox hb))
  have a0 : w2.cell? ⟨ga, 0, none⟩ = some (.int .i64 k) := blk_cell KA.out 0
  have a1 : w2.cell? ⟨ga, 1, none⟩ = some (.int .i64 i) := blk_cell KA.out 1
  have a2 : w2.cell? ⟨ga, 2, none⟩ = some (.float .f64 f) := blk_cell KA.out 2
  have a3 : w2.cell? ⟨ga, 3, none⟩ = some (.string s) := blk_cell KA.out 3
  have a4 : w2.cell? ⟨ga, 4, none⟩ = some (.slice A l.length c) := blk_cell KA.out 4
  have b0 : w2.cell? ⟨gb, 0, none⟩ = some (.int .i64 k2) := blk_cell KB.out 0
  have b1 : w2.cell? ⟨gb, 1, none⟩ = some (.int .i64 i2) := blk_cell KB.out 1
  have b2 : w2.cell? ⟨gb, 2, none⟩ = some (.float .f64 f2) := blk_cell KB.out 2
  have b3 : w2.cell? ⟨gb, 3, none⟩ = some (.string s2) := blk_cell KB.out 3
  have b4 : w2.cell? ⟨gb, 4, none⟩ = some (.slice A2 l2.length c2) := blk_cell KB.out 4
  go_region_held3 (fun w' => w'.cell? ⟨ga, 0, none⟩ = some (.int .i64 k) ∧ w'.cell? ⟨ga, 1, none⟩ = some (.int .i64 i) ∧ w'.cell? ⟨ga, 2, none⟩ = some (.float .f64 f) ∧ w'.cell? ⟨ga, 3, none⟩ = some (.string s) ∧ w'.cell? ⟨ga, 4, none⟩ = some (.slice A l.length c) ∧ w'.cell? ⟨gb, 0, none⟩ = some (.int .i64 k2) ∧ w'.cell? ⟨gb, 1, none⟩ = some (.int .i64 i2) ∧ w'.cell? ⟨gb, 2, none⟩ = some (.float .f64 f2) ∧ w'.cell? ⟨gb, 3, none⟩ = some (.string s2) ∧ w'.cell? ⟨gb, 4, none⟩ = some (.slice A2 l2.length c2)) (first | exact tenO (W := w2.drew) KA.out KB.out (below_step hb1 hb2) | exact tenO (W := w2.drew) KA.out KB.out hb1 | exact ⟨a0, a1, a2, a3, a4, b0, b1, b2, b3, b4⟩)
    (first
      | (go_at_call 31; have tok := hb1; refine (H31b.out _).mono ?_; clear tok; rintro e w4 ⟨rfl, hb2⟩)
      | (go_at_call 31; refine (H31.out _).mono ?_; rintro e w3 ⟨rfl, hb1⟩))
  have HB4 := Aside0.mk (below_step (below_step HB.out.drew hb1) hb2)
  have KA4 := Aside0.mk (blk_below (w := w2.drew) KA.out (below_step hb1 hb2))
  have KB4 := Aside0.mk (blk_below (w := w2.drew) KB.out (below_step hb1 hb2))
  have H31c := Aside0.mk H31.out
  (try clear hHeld)
  clear hb1 hb2 a0 a1 a2 a3 a4 b0 b1 b2 b3 b4 KA KB HB
  have hc1 : (K != K2) = false := by rw [HC0.out]; simp
  have a0 : w4.cell? ⟨ga, 0, none⟩ = some (.int .i64 k) := blk_cell KA4.out 0
  have a1 : w4.cell? ⟨ga, 1, none⟩ = some (.int .i64 i) := blk_cell KA4.out 1
  have a2 : w4.cell? ⟨ga, 2, none⟩ = some (.float .f64 f) := blk_cell KA4.out 2
  have a3 : w4.cell? ⟨ga, 3, none⟩ = some (.string s) := blk_cell KA4.out 3
  have a4 : w4.cell? ⟨ga, 4, none⟩ = some (.slice A l.length c) := blk_cell KA4.out 4
  have b0 : w4.cell? ⟨gb, 0, none⟩ = some (.int .i64 k2) := blk_cell KB4.out 0
  have b1 : w4.cell? ⟨gb, 1, none⟩ = some (.int .i64 i2) := blk_cell KB4.out 1
  have b2 : w4.cell? ⟨gb, 2, none⟩ = some (.float .f64 f2) := blk_cell KB4.out 2
  have b3 : w4.cell? ⟨gb, 3, none⟩ = some (.string s2) := blk_cell KB4.out 3
  have b4 : w4.cell? ⟨gb, 4, none⟩ = some (.slice A2 l2.length c2) := blk_cell KB4.out 4
  go_upto_region 4 with (first
    | (go_at_call 31; refine (H31c.out _).mono ?_; rintro e w6 ⟨rfl, hb⟩; have HB6 := Aside0.mk (below_step HB4.out hb); have KA6 := Aside0.mk (blk_below KA4.out hb); have KB6 := Aside0.mk (blk_below KB4.out hb); clear hb))
  clear a0 a1 a2 a3 a4 b0 b1 b2 b3 b4
  have a0 : w6.cell? ⟨ga, 0, none⟩ = some (.int .i64 k) := blk_cell KA6.out 0
  have a1 : w6.cell? ⟨ga, 1, none⟩ = some (.int .i64 i) := blk_cell KA6.out 1
  have a2 : w6.cell? ⟨ga, 2, none⟩ = some (.float .f64 f) := blk_cell KA6.out 2
  have a3 : w6.cell? ⟨ga, 3, none⟩ = some (.string s) := blk_cell KA6.out 3
  have a4 : w6.cell? ⟨ga, 4, none⟩ = some (.slice A l.length c) := blk_cell KA6.out 4
  have b0 : w6.cell? ⟨gb, 0, none⟩ = some (.int .i64 k2) := blk_cell KB6.out 0
  have b1 : w6.cell? ⟨gb, 1, none⟩ = some (.int .i64 i2) := blk_cell KB6.out 1
  have b2 : w6.cell? ⟨gb, 2, none⟩ = some (.float .f64 f2) := blk_cell KB6.out 2
  have b3 : w6.cell? ⟨gb, 3, none⟩ = some (.string s2) := blk_cell KB6.out 3
  have b4 : w6.cell? ⟨gb, 4, none⟩ = some (.slice A2 l2.length c2) := blk_cell KB6.out 4
  obtain rfl : K = 3 := HK.out.symm.trans hkn
  clear hkn
  go_wp2
  go_ret
  exact ⟨by rw [beq_toListBytes s s2]; rfl, HB6.out⟩

set_option maxHeartbeats 8000000 in
set_option maxRecDepth 100000 in
theorem equal13_4 (k i : Int) (f : Nat) (s : ByteArray) (l : List Val) (A : Option Addr) (c : Nat) (k2 i2 : Int) (f2 : Nat) (s2 : ByteArray) (l2 : List Val) (A2 : Option Addr) (c2 : Nat) (W : World) (ok ok2 : Nat → Prop)
    (hR : RV W ok (.mk k i f s l) #[.int .i64 k, .int .i64 i, .float .f64 f, .string s, .slice A l.length c]) (hR2 : RV W ok2 (.mk k2 i2 f2 s2 l2) #[.int .i64 k2, .int .i64 i2, .float .f64 f2, .string s2, .slice A2 l2.length c2]) (hc0 : kindV k = kindV k2) (hkn : kindV k = 4) (hE : ∀ (j : Nat) (hj : j < l.length), EqC l[j]) :
    Calls Tryz.prog 13 #[.agg #[.int .i64 k, .int .i64 i, .float .f64 f, .string s, .slice A l.length c], .agg #[.int .i64 k2, .int .i64 i2, .float .f64 f2, .string s2, .slice A2 l2.length c2]] W fun e w' => e = .returned (.bool (equals l l2)) ∧ Below W.heap.size W w' := by
  obtain ⟨F, hF⟩ : ∃ F, equals l l2 = F := ⟨_, rfl⟩
  have h35 := Aside0.mk (fun (W' : World) (hb : Below W.heap.size W W') => equal37 k i f s l k2 i2 f2 s2 l2 hE W' ok ok2 _ _ _ _ _ _ _ _ A A2 c c2 (hR.kept hb) (hR2.kept hb))
  rw [hF] at h35 ⊢
  clear hF hE
  have HR := Aside0.mk hR
  have HR2 := Aside0.mk hR2
  clear hR hR2
  obtain ⟨K, hK⟩ : ∃ K, kindV k = K := ⟨_, rfl⟩
  obtain ⟨K2, hK2⟩ : ∃ K2, kindV k2 = K2 := ⟨_, rfl⟩
  have h31 := fun W => kind31 k i f s A l.length c W
  have h31b := fun W => kind31 k2 i2 f2 s2 A2 l2.length c2 W
  rw [hK] at h31
  rw [hK2] at h31b
  have H31 := Aside0.mk h31
  have H31b := Aside0.mk h31b
  have HK := Aside0.mk hK
  have HK2 := Aside0.mk hK2
  clear h31 h31b
  rw [hK, hK2] at hc0
  have HC0 := Aside0.mk hc0
  clear hK hK2 hc0
  go_enter Tryz.func13, Tryz.ntmps13
  go_upto_region 1 with (first
    | ((with_reducible refine gate_dst (N := 2) rfl ?_); refine box_event ?hg (N := 2) ?hd (cs := #[.int .i64 k, .int .i64 i, .float .f64 f, .string s, .slice A l.length c]) (t := 25) ?hr ?_; (case hd => rfl); (case hg => rfl); (case hr => first | (go_simp; done) | (go_simp; rfl)); intro ga hg w1 hbox hb; have HB := Aside0.mk hb; have KA := Aside0.mk hbox; clear hg hbox hb)
    | ((with_reducible refine gate_dst (N := 3) rfl ?_); refine box_event ?hg (N := 3) ?hd (cs := #[.int .i64 k2, .int .i64 i2, .float .f64 f2, .string s2, .slice A2 l2.length c2]) (t := 25) ?hr ?_; (case hd => rfl); (case hg => rfl); (case hr => first | (go_simp; done) | (go_simp; rfl)); intro gb hg w2 hbox hb; have KA := Aside0.mk (blk_below KA.out hb); have KB := Aside0.mk hbox; have HB := Aside0.mk (below_step HB.out hb); clear hg hbox hb))
  have a0 : w2.cell? ⟨ga, 0, none⟩ = some (.int .i64 k) := blk_cell KA.out 0
  have a1 : w2.cell? ⟨ga, 1, none⟩ = some (.int .i64 i) := blk_cell KA.out 1
  have a2 : w2.cell? ⟨ga, 2, none⟩ = some (.float .f64 f) := blk_cell KA.out 2
  have a3 : w2.cell? ⟨ga, 3, none⟩ = some (.string s) := blk_cell KA.out 3
  have a4 : w2.cell? ⟨ga, 4, none⟩ = some (.slice A l.length c) := blk_cell KA.out 4
  have b0 : w2.cell? ⟨gb, 0, none⟩ = some (.int .i64 k2) := blk_cell KB.out 0
  have b1 : w2.cell? ⟨gb, 1, none⟩ = some (.int .i64 i2) := blk_cell KB.out 1
  have b2 : w2.cell? ⟨gb, 2, none⟩ = some (.float .f64 f2) := blk_cell KB.out 2
  have b3 : w2.cell? ⟨gb, 3, none⟩ = some (.string s2) := blk_cell KB.out 3
  have b4 : w2.cell? ⟨gb, 4, none⟩ = some (.slice A2 l2.length c2) := blk_cell KB.out 4
  go_region_held3 (fun w' => w'.cell? ⟨ga, 0, none⟩ = some (.int .i64 k) ∧ w'.cell? ⟨ga, 1, none⟩ = some (.int .i64 i) ∧ w'.cell? ⟨ga, 2, none⟩ = some (.float .f64 f) ∧ w'.cell? ⟨ga, 3, none⟩ = some (.string s) ∧ w'.cell? ⟨ga, 4, none⟩ = some (.slice A l.length c) ∧ w'.cell? ⟨gb, 0, none⟩ = some (.int .i64 k2) ∧ w'.cell? ⟨gb, 1, none⟩ = some (.int .i64 i2) ∧ w'.cell? ⟨gb, 2, none⟩ = some (.float .f64 f2) ∧ w'.cell? ⟨gb, 3, none⟩ = some (.string s2) ∧ w'.cell? ⟨gb, 4, none⟩ = some (.slice A2 l2.length c2)) (first | exact tenO (W := w2.drew) KA.out KB.out (below_step hb1 hb2) | exact tenO (W := w2.drew) KA.out KB.out hb1 | exact ⟨a0, a1, a2, a3, a4, b0, b1, b2, b3, b4⟩)
    (first
      | (go_at_call 31; have tok := hb1; refine (H31b.out _).mono ?_; clear tok; rintro e w4 ⟨rfl, hb2⟩)
      | (go_at_call 31; refine (H31.out _).mono ?_; rintro e w3 ⟨rfl, hb1⟩))
  have HB4 := Aside0.mk (below_step (below_step HB.out.drew hb1) hb2)
  have KA4 := Aside0.mk (blk_below (w := w2.drew) KA.out (below_step hb1 hb2))
  have KB4 := Aside0.mk (blk_below (w := w2.drew) KB.out (below_step hb1 hb2))
  have H31c := Aside0.mk H31.out
  (try clear hHeld)
  clear hb1 hb2 a0 a1 a2 a3 a4 b0 b1 b2 b3 b4 KA KB HB
  have hc1 : (K != K2) = false := by rw [HC0.out]; simp
  have a0 : w4.cell? ⟨ga, 0, none⟩ = some (.int .i64 k) := blk_cell KA4.out 0
  have a1 : w4.cell? ⟨ga, 1, none⟩ = some (.int .i64 i) := blk_cell KA4.out 1
  have a2 : w4.cell? ⟨ga, 2, none⟩ = some (.float .f64 f) := blk_cell KA4.out 2
  have a3 : w4.cell? ⟨ga, 3, none⟩ = some (.string s) := blk_cell KA4.out 3
  have a4 : w4.cell? ⟨ga, 4, none⟩ = some (.slice A l.length c) := blk_cell KA4.out 4
  have b0 : w4.cell? ⟨gb, 0, none⟩ = some (.int .i64 k2) := blk_cell KB4.out 0
  have b1 : w4.cell? ⟨gb, 1, none⟩ = some (.int .i64 i2) := blk_cell KB4.out 1
  have b2 : w4.cell? ⟨gb, 2, none⟩ = some (.float .f64 f2) := blk_cell KB4.out 2
  have b3 : w4.cell? ⟨gb, 3, none⟩ = some (.string s2) := blk_cell KB4.out 3
  have b4 : w4.cell? ⟨gb, 4, none⟩ = some (.slice A2 l2.length c2) := blk_cell KB4.out 4
  go_upto_region 4 with (first
    | (go_at_call 31; refine (H31c.out _).mono ?_; rintro e w6 ⟨rfl, hb⟩; have HB6 := Aside0.mk (below_step HB4.out hb); have KA6 := Aside0.mk (blk_below KA4.out hb); have KB6 := Aside0.mk (blk_below KB4.out hb); clear hb))
  clear a0 a1 a2 a3 a4 b0 b1 b2 b3 b4
  have a0 : w6.cell? ⟨ga, 0, none⟩ = some (.int .i64 k) := blk_cell KA6.out 0
  have a1 : w6.cell? ⟨ga, 1, none⟩ = some (.int .i64 i) := blk_cell KA6.out 1
  have a2 : w6.cell? ⟨ga, 2, none⟩ = some (.float .f64 f) := blk_cell KA6.out 2
  have a3 : w6.cell? ⟨ga, 3, none⟩ = some (.string s) := blk_cell KA6.out 3
  have a4 : w6.cell? ⟨ga, 4, none⟩ = some (.slice A l.length c) := blk_cell KA6.out 4
  have b0 : w6.cell? ⟨gb, 0, none⟩ = some (.int .i64 k2) := blk_cell KB6.out 0
  have b1 : w6.cell? ⟨gb, 1, none⟩ = some (.int .i64 i2) := blk_cell KB6.out 1
  have b2 : w6.cell? ⟨gb, 2, none⟩ = some (.float .f64 f2) := blk_cell KB6.out 2
  have b3 : w6.cell? ⟨gb, 3, none⟩ = some (.string s2) := blk_cell KB6.out 3
  have b4 : w6.cell? ⟨gb, 4, none⟩ = some (.slice A2 l2.length c2) := blk_cell KB6.out 4
  obtain rfl : K = 4 := HK.out.symm.trans hkn
  clear hkn
  go_wp2_with (go_at_call 37; refine (h35.out _ HB6.out).mono ?_; rintro e w7 ⟨rfl, hb⟩; have HB6 := Aside0.mk (below_step HB6.out hb); clear hb)
  go_ret
  exact ⟨rfl, HB6.out⟩

set_option maxHeartbeats 8000000 in
set_option maxRecDepth 100000 in
theorem equal13_0 (k i : Int) (f : Nat) (s : ByteArray) (l : List Val) (A : Option Addr) (c : Nat) (k2 i2 : Int) (f2 : Nat) (s2 : ByteArray) (l2 : List Val) (A2 : Option Addr) (c2 : Nat) (W : World) (ok ok2 : Nat → Prop)
    (hR : RV W ok (.mk k i f s l) #[.int .i64 k, .int .i64 i, .float .f64 f, .string s, .slice A l.length c]) (hR2 : RV W ok2 (.mk k2 i2 f2 s2 l2) #[.int .i64 k2, .int .i64 i2, .float .f64 f2, .string s2, .slice A2 l2.length c2]) (hc0 : kindV k = kindV k2) (hk1 : kindV k ≠ 1) (hk2 : kindV k ≠ 2) (hk3 : kindV k ≠ 3) (hk4 : kindV k ≠ 4) :
    Calls Tryz.prog 13 #[.agg #[.int .i64 k, .int .i64 i, .float .f64 f, .string s, .slice A l.length c], .agg #[.int .i64 k2, .int .i64 i2, .float .f64 f2, .string s2, .slice A2 l2.length c2]] W fun e w' => e = .returned (.bool (true)) ∧ Below W.heap.size W w' := by
  have HR := Aside0.mk hR
  have HR2 := Aside0.mk hR2
  clear hR hR2
  obtain ⟨K, hK⟩ : ∃ K, kindV k = K := ⟨_, rfl⟩
  obtain ⟨K2, hK2⟩ : ∃ K2, kindV k2 = K2 := ⟨_, rfl⟩
  have h31 := fun W => kind31 k i f s A l.length c W
  have h31b := fun W => kind31 k2 i2 f2 s2 A2 l2.length c2 W
  rw [hK] at h31
  rw [hK2] at h31b
  have H31 := Aside0.mk h31
  have H31b := Aside0.mk h31b
  have HK := Aside0.mk hK
  have HK2 := Aside0.mk hK2
  clear h31 h31b
  rw [hK, hK2] at hc0
  have HC0 := Aside0.mk hc0
  clear hK hK2 hc0
  go_enter Tryz.func13, Tryz.ntmps13
  go_upto_region 1 with (first
    | ((with_reducible refine gate_dst (N := 2) rfl ?_); refine box_event ?hg (N := 2) ?hd (cs := #[.int .i64 k, .int .i64 i, .float .f64 f, .string s, .slice A l.length c]) (t := 25) ?hr ?_; (case hd => rfl); (case hg => rfl); (case hr => first | (go_simp; done) | (go_simp; rfl)); intro ga hg w1 hbox hb; have HB := Aside0.mk hb; have KA := Aside0.mk hbox; clear hg hbox hb)
    | ((with_reducible refine gate_dst (N := 3) rfl ?_); refine box_event ?hg (N := 3) ?hd (cs := #[.int .i64 k2, .int .i64 i2, .float .f64 f2, .string s2, .slice A2 l2.length c2]) (t := 25) ?hr ?_; (case hd => rfl); (case hg => rfl); (case hr => first | (go_simp; done) | (go_simp; rfl)); intro gb hg w2 hbox hb; have KA := Aside0.mk (blk_below KA.out hb); have KB := Aside0.mk hbox; have HB := Aside0.mk (below_step HB.out hb); clear hg hbox hb))
  have a0 : w2.cell? ⟨ga, 0, none⟩ = some (.int .i64 k) := blk_cell KA.out 0
  have a1 : w2.cell? ⟨ga, 1, none⟩ = some (.int .i64 i) := blk_cell KA.out 1
  have a2 : w2.cell? ⟨ga, 2, none⟩ = some (.float .f64 f) := blk_cell KA.out 2
  have a3 : w2.cell? ⟨ga, 3, none⟩ = some (.string s) := blk_cell KA.out 3
  have a4 : w2.cell? ⟨ga, 4, none⟩ = some (.slice A l.length c) := blk_cell KA.out 4
  have b0 : w2.cell? ⟨gb, 0, none⟩ = some (.int .i64 k2) := blk_cell KB.out 0
  have b1 : w2.cell? ⟨gb, 1, none⟩ = some (.int .i64 i2) := blk_cell KB.out 1
  have b2 : w2.cell? ⟨gb, 2, none⟩ = some (.float .f64 f2) := blk_cell KB.out 2
  have b3 : w2.cell? ⟨gb, 3, none⟩ = some (.string s2) := blk_cell KB.out 3
  have b4 : w2.cell? ⟨gb, 4, none⟩ = some (.slice A2 l2.length c2) := blk_cell KB.out 4
  go_region_held3 (fun w' => w'.cell? ⟨ga, 0, none⟩ = some (.int .i64 k) ∧ w'.cell? ⟨ga, 1, none⟩ = some (.int .i64 i) ∧ w'.cell? ⟨ga, 2, none⟩ = some (.float .f64 f) ∧ w'.cell? ⟨ga, 3, none⟩ = some (.string s) ∧ w'.cell? ⟨ga, 4, none⟩ = some (.slice A l.length c) ∧ w'.cell? ⟨gb, 0, none⟩ = some (.int .i64 k2) ∧ w'.cell? ⟨gb, 1, none⟩ = some (.int .i64 i2) ∧ w'.cell? ⟨gb, 2, none⟩ = some (.float .f64 f2) ∧ w'.cell? ⟨gb, 3, none⟩ = some (.string s2) ∧ w'.cell? ⟨gb, 4, none⟩ = some (.slice A2 l2.length c2)) (first | exact tenO (W := w2.drew) KA.out KB.out (below_step hb1 hb2) | exact tenO (W := w2.drew) KA.out KB.out hb1 | exact ⟨a0, a1, a2, a3, a4, b0, b1, b2, b3, b4⟩)
    (first
      | (go_at_call 31; have tok := hb1; refine (H31b.out _).mono ?_; clear tok; rintro e w4 ⟨rfl, hb2⟩)
      | (go_at_call 31; refine (H31.out _).mono ?_; rintro e w3 ⟨rfl, hb1⟩))
  have HB4 := Aside0.mk (below_step (below_step HB.out.drew hb1) hb2)
  have KA4 := Aside0.mk (blk_below (w := w2.drew) KA.out (below_step hb1 hb2))
  have KB4 := Aside0.mk (blk_below (w := w2.drew) KB.out (below_step hb1 hb2))
  have H31c := Aside0.mk H31.out
  (try clear hHeld)
  clear hb1 hb2 a0 a1 a2 a3 a4 b0 b1 b2 b3 b4 KA KB HB
  have hc1 : (K != K2) = false := by rw [HC0.out]; simp
  have a0 : w4.cell? ⟨ga, 0, none⟩ = some (.int .i64 k) := blk_cell KA4.out 0
  have a1 : w4.cell? ⟨ga, 1, none⟩ = some (.int .i64 i) := blk_cell KA4.out 1
  have a2 : w4.cell? ⟨ga, 2, none⟩ = some (.float .f64 f) := blk_cell KA4.out 2
  have a3 : w4.cell? ⟨ga, 3, none⟩ = some (.string s) := blk_cell KA4.out 3
  have a4 : w4.cell? ⟨ga, 4, none⟩ = some (.slice A l.length c) := blk_cell KA4.out 4
  have b0 : w4.cell? ⟨gb, 0, none⟩ = some (.int .i64 k2) := blk_cell KB4.out 0
  have b1 : w4.cell? ⟨gb, 1, none⟩ = some (.int .i64 i2) := blk_cell KB4.out 1
  have b2 : w4.cell? ⟨gb, 2, none⟩ = some (.float .f64 f2) := blk_cell KB4.out 2
  have b3 : w4.cell? ⟨gb, 3, none⟩ = some (.string s2) := blk_cell KB4.out 3
  have b4 : w4.cell? ⟨gb, 4, none⟩ = some (.slice A2 l2.length c2) := blk_cell KB4.out 4
  go_upto_region 4 with (first
    | (go_at_call 31; refine (H31c.out _).mono ?_; rintro e w6 ⟨rfl, hb⟩; have HB6 := Aside0.mk (below_step HB4.out hb); have KA6 := Aside0.mk (blk_below KA4.out hb); have KB6 := Aside0.mk (blk_below KB4.out hb); clear hb))
  clear a0 a1 a2 a3 a4 b0 b1 b2 b3 b4
  have a0 : w6.cell? ⟨ga, 0, none⟩ = some (.int .i64 k) := blk_cell KA6.out 0
  have a1 : w6.cell? ⟨ga, 1, none⟩ = some (.int .i64 i) := blk_cell KA6.out 1
  have a2 : w6.cell? ⟨ga, 2, none⟩ = some (.float .f64 f) := blk_cell KA6.out 2
  have a3 : w6.cell? ⟨ga, 3, none⟩ = some (.string s) := blk_cell KA6.out 3
  have a4 : w6.cell? ⟨ga, 4, none⟩ = some (.slice A l.length c) := blk_cell KA6.out 4
  have b0 : w6.cell? ⟨gb, 0, none⟩ = some (.int .i64 k2) := blk_cell KB6.out 0
  have b1 : w6.cell? ⟨gb, 1, none⟩ = some (.int .i64 i2) := blk_cell KB6.out 1
  have b2 : w6.cell? ⟨gb, 2, none⟩ = some (.float .f64 f2) := blk_cell KB6.out 2
  have b3 : w6.cell? ⟨gb, 3, none⟩ = some (.string s2) := blk_cell KB6.out 3
  have b4 : w6.cell? ⟨gb, 4, none⟩ = some (.slice A2 l2.length c2) := blk_cell KB6.out 4
  have e1 : (K == 1) = false := beq_eq_false_iff_ne.2 (by rw [← HK.out]; exact hk1)
  have e2 : (K == 2) = false := beq_eq_false_iff_ne.2 (by rw [← HK.out]; exact hk2)
  have e3 : (K == 3) = false := beq_eq_false_iff_ne.2 (by rw [← HK.out]; exact hk3)
  have e4 : (K == 4) = false := beq_eq_false_iff_ne.2 (by rw [← HK.out]; exact hk4)
  clear hk1 hk2 hk3 hk4
  go_wp2
  go_ret
  exact ⟨rfl, HB6.out⟩
/-- Equal. -/
theorem equal13 (v : Val) : EqC v := by
  induction v using Val.ind with
  | h k i f s l ih =>
    intro W ok cs hR v2 ok2 cs2 hR2
    cases v2 with
    | mk k2 i2 f2 s2 l2 =>
      obtain ⟨A, c, rfl, _⟩ := hR.len
      obtain ⟨A2, c2, rfl, _⟩ := hR2.len
      unfold equalV
      by_cases h0 : kindV k = kindV k2
      · rw [if_pos h0]
        by_cases h1 : kindV k = 1
        · rw [if_pos h1]; exact equal13_1 k i f s l A c k2 i2 f2 s2 l2 A2 c2 W ok ok2 hR hR2 h0 h1
        · rw [if_neg h1]
          by_cases h2 : kindV k = 2
          · rw [if_pos h2]
            unfold eqF
            cases he : feq f f2
            · rw [if_neg (by decide)]
              cases hn : isNan f
              · rw [if_neg (by decide)]
                exact equal13_2b k i f s l A c k2 i2 f2 s2 l2 A2 c2 W ok ok2 hR hR2 h0 h2 he hn
              · rw [if_pos rfl]
                exact equal13_2c k i f s l A c k2 i2 f2 s2 l2 A2 c2 W ok ok2 hR hR2 h0 h2 he hn
            · rw [if_pos rfl]
              exact equal13_2a k i f s l A c k2 i2 f2 s2 l2 A2 c2 W ok ok2 hR hR2 h0 h2 he
          · rw [if_neg h2]
            by_cases h3 : kindV k = 3
            · rw [if_pos h3]; exact equal13_3 k i f s l A c k2 i2 f2 s2 l2 A2 c2 W ok ok2 hR hR2 h0 h3
            · rw [if_neg h3]
              by_cases h4 : kindV k = 4
              · rw [if_pos h4]; exact equal13_4 k i f s l A c k2 i2 f2 s2 l2 A2 c2 W ok ok2 hR hR2 h0 h4 ih
              · rw [if_neg h4]; exact equal13_0 k i f s l A c k2 i2 f2 s2 l2 A2 c2 W ok ok2 hR hR2 h0 h1 h2 h3 h4
      · rw [if_neg h0]; exact equal13_ne k i f s l A c k2 i2 f2 s2 l2 A2 c2 W ok ok2 hR hR2 h0
end Go.Proofs.YtejfmghjmhiodaaGreatDoor.Vz
namespace Go.Proofs.YtejfmghjmhiodaaGreatDoor.Vz
open Go.RowKit Go.Proofs.YtejfmghjmhiodaaGreatDoorW.PrintWords
set_option linter.unusedVariables false
set_option linter.unusedSimpArgs false
attribute [local go_sem] store_float

set_option maxHeartbeats 8000000 in
set_option maxRecDepth 100000 in
theorem txt_list (i : Int) (f : Nat) (s : ByteArray) (l : List Val) (ts : List ByteArray) (hl : ts.length = l.length) (h0 : 0 < l.length) (hn : l.length ≤ 1000) (hE : ∀ (j : Nat) (hj : j < l.length), TxtC l[j] (ts.getD j ⟨#[]⟩)) (J : ByteArray) (hJ : Lib.join (ts.map (·.data.toList)) [44, 32] = J.data.toList) (hJl : J.size ≤ 1000) :
    TxtC (.mk 4 i f s l) ((⟨#[91]⟩ ++ J) ++ ⟨#[93]⟩) := by
  intro W ok cs T hR
  obtain ⟨A, c, rfl, wk, wi, wf, ws, wc, wb⟩ := hR.len
  have HJ : ∀ (bk c : Nat) (w : World), bk < w.heap.size → ts.length ≤ c → (∀ (j : Nat) x, ts[j]? = some x → w.cell? ⟨bk, j, none⟩ = some (.string x)) → Calls Tryz.prog 47 #[.slice (some ⟨bk, 0, none⟩) ts.length c, .string ⟨#[44, 32]⟩] w fun e w' => e = .returned (.string J) ∧ Below w.heap.size w w' := by
    intro bk c w h1 h2 h3
    have hj2 : Lib.join (ts.map (·.data.toList)) (ByteArray.mk #[44, 32]).data.toList = J.data.toList := hJ
    have h := Tryz.strings_Join bk 0 c ts ⟨#[44, 32]⟩ w (fun j x hx => by rw [Nat.zero_add]; exact h3 j x hx) h1 (by omega) h2 (by rw [hj2]; simp; have : J.size = J.data.size := rfl; omega)
    rw [hj2] at h
    simpa using h
  have HI := Aside0.mk hE
  have HR := Aside0.mk hR
  have HT := Aside0.mk T
  have HJJ := Aside0.mk HJ
  have HLT := Aside0.mk hl
  have HL0 := Aside0.mk h0
  have HWB := Aside0.mk (show (l.length : Int) ≤ 1000 by omega)
  have hnn : (0 : Int) ≤ (l.length : Int) := by omega
  have ha1 : (ByteArray.mk #[91]).size + J.size ≤ 9223372036854775807 := by have : (ByteArray.mk #[91]).size = 1 := rfl; omega
  have ha2 : ((ByteArray.mk #[91]) ++ J).size + (ByteArray.mk #[93]).size ≤ 9223372036854775807 := by
    have : (ByteArray.mk #[91]).size = 1 := rfl
    have : (ByteArray.mk #[93]).size = 1 := rfl
    rw [ByteArray.size_append]
    omega
  have hp1 : ∀ w, (Op.stringOp .add (ByteArray.mk #[91]) J).run Tryz.prog w = .ok (.string (ByteArray.mk #[91] ++ J)) w := fun w => run_string_add_sum w _ _ ha1
  have hp2 : ∀ w, (Op.stringOp .add (ByteArray.mk #[91] ++ J) (ByteArray.mk #[93])).run Tryz.prog w = .ok (.string (ByteArray.mk #[91] ++ J ++ ByteArray.mk #[93])) w := fun w => run_string_add_sum w _ _ ha2
  clear hE hR T HJ hl h0 hn hJ hJl wk wi wf ws wc wb ha1 ha2
  obtain ⟨n, hn⟩ : ∃ n, l.length = n := ⟨_, rfl⟩
  have HNL := Aside0.mk hn
  rw [hn] at HR HWB hnn HLT HL0 ⊢
  clear hn
  go_enter Tryz.func22, Tryz.ntmps22
  go_upto_region 10 with (first
    | ((with_reducible refine gate_dst (N := 1) rfl ?_); refine box_event ?hg (N := 1) ?hd (cs := #[.int .i64 4, .int .i64 i, .float .f64 f, .string s, .slice A n c]) (t := 25) ?hr ?_; (case hd => rfl); (case hg => rfl); (case hr => first | (go_simp; done) | (go_simp; rfl)); intro gb hg w1 hbox hb; have HB := Aside0.mk hb; have KB := Aside0.mk hbox; have b0 : w1.cell? ⟨gb, 0, none⟩ = some (.int .i64 4) := blk_cell hbox 0; clear hg hbox hb))
  clear b0
  have b4 : w1.cell? ⟨gb, 4, none⟩ = some (.slice A n c) := blk_cell KB.out 4
  go_wp2
  clear b4
  go_loopw [3, 28] (fun vx ix wr => ∃ j : Nat, j ≤ n ∧ ix = .int .i64 (j : Int) ∧ Aside0 (Below W.heap.size W wr) ∧ Aside0 (wr.ownsRow W.heap.size 9 1 vx j ((ts.take j).map Value.string))) (fun _ ix _ => n - (intOf ix).toNat)
  case atStart => exact ⟨0, by omega, rfl, HB, Aside0.mk ⟨rfl, .inl ⟨rfl, rfl⟩⟩⟩
  case round =>
    obtain ⟨j, hj, rfl, HB', HO⟩ := hrel
    by_cases hlt : j < n
    · have hji : (j : Int) < (n : Int) := by omega
      have hj0 : (0 : Int) ≤ (j : Int) := by omega
      have hjl : j < l.length := by rw [HNL.out]; exact hlt
      obtain ⟨g, off, k', i', f', s', A', n', c', rfl, hg1, hg2, hsub, p0, p1, p2, p3, p4⟩ := (HR.out.kept HB'.out).elem j hjl
      have hih := HI.out j hjl
      generalize l[j] = x at hsub hih
      obtain ⟨t, ht⟩ : ∃ t, ts.getD j ⟨#[]⟩ = t := ⟨_, rfl⟩
      rw [ht] at hih
      have HTK := Aside0.mk (show (ts.take (j + 1)).map Value.string = (ts.take j).map Value.string ++ [.string t] by
        have hjt : j < ts.length := by rw [HLT.out]; exact hlt
        rw [List.take_add_one, List.getElem?_eq_getElem hjt, List.map_append, ← ht, List.getD_eq_getElem?_getD, List.getElem?_eq_getElem hjt]; rfl)
      have HLX := Aside0.mk (show ((ts.take j).map Value.string).length = j by simp; rw [HLT.out]; omega)
      have HLX2 := Aside0.mk (show ((ts.take (j + 1)).map Value.string).length = j + 1 by simp; rw [HLT.out]; omega)
      have HSub := Aside0.mk hsub
      have HIx := Aside0.mk hih
      have hwk : IntKind.i64.wrap ((j : Int) + 1) = ((j + 1 : Nat) : Int) := by have := HWB.out; rw [IntKind.wrap_i64]; omega
      clear hsub hih hjl hg1 hg2 ht
      go_wp2_with (first
        | ((with_reducible refine gate_dst (N := 5) rfl ?_); refine box_event ?hg (N := 5) ?hd (cs := #[.int .i64 0, .int .i64 0, .float .f64 0, .string ⟨#[]⟩, .slice none 0 0]) (t := 25) ?hr ?_; (case hd => rfl); (case hg => rfl); (case hr => first | (go_simp; done) | (go_simp; rfl)); intro g5 hg w2 hbox hb; have H2 := Aside0.mk hb; have K5 := Aside0.mk hbox; have HG5 := Aside0.mk (show wr.heap.size ≤ g5 by omega); clear hg hbox hb)
        | ((with_reducible refine gate_store (t := 25) (p := 5) rfl ?_); refine put_eventU ?hg (t := 25) (p := 5) (v := .tmp 31) ?ho ?hN (g := g5) (u := .agg #[.int .i64 k', .int .i64 i', .float .f64 f', .string s', .slice A' n' c']) (cs := #[.int .i64 k', .int .i64 i', .float .f64 f', .string s', .slice A' n' c']) ?hp ?hv K5.out ?hs ?hi ?h1 ?hc ?_; (case hs => rfl); (case hi => kernel_rfl); (case h1 => simp [Value.oneCell']); (case hc => simp [Value.cells]); (case hg => rfl); (case ho => rfl); (case hN => rfl); (case hp => rfl); (case hv => rfl); intro w3 hk hs; have H3 := Aside0.mk (below_keep H2.out HG5.out hs); have HS := Aside0.mk (HSub.out.kept H3.out); have a0 : w3.cell? ⟨g5, 0, none⟩ = some (.int .i64 k') := blk_cell hk 0; have a1 : w3.cell? ⟨g5, 1, none⟩ = some (.int .i64 i') := blk_cell hk 1; have a2 : w3.cell? ⟨g5, 2, none⟩ = some (.float .f64 f') := blk_cell hk 2; have a3 : w3.cell? ⟨g5, 3, none⟩ = some (.string s') := blk_cell hk 3; have a4 : w3.cell? ⟨g5, 4, none⟩ = some (.slice A' n' c') := blk_cell hk 4; clear hk hs)
        | (go_at_call 22; refine (HIx.out _ _ _ (HT.out.below (below_step HB'.out H3.out)) HS.out).mono ?_; rintro e w4 ⟨rfl, hb⟩; have HB2 := Aside0.mk (below_step HB'.out (below_step H3.out hb)); have HO2 := Aside0.mk (own_save HO.out (Save.of (S := fun _ => False) (below_step H3.out hb)) (fun _ _ x => x)); clear hb)
        | ((with_reducible refine gate_builtin (b := .append) (xs := #[.tmp 32, .tmp 35]) rfl ?_); at_builtin; refine print_append (w0 := W) W.heap.size rfl (.tmp 32) (.tmp 35) 61 9 (.string ⟨#[]⟩) 16 rfl Tryz.underlying61 info9 rfl (by decide) _ ((ts.take j).map Value.string) (.string t) rfl rfl rfl ?HO ?HB ?hbase ?hl ?_; (case HO => rw [HLX.out]; exact HO2.out); (case HB => exact HB2.out); (case hbase => exact HB2.out.size); (case hl => rw [HLX.out]; have := HWB.out; omega); intro v1 w5 ho hb hg hat; rw [← HTK.out, HLX2.out] at ho; have HO3 := Aside0.mk ho; have HB3 := Aside0.mk hb; clear ho hb hg hat))
      go_roundw
      case rel => exact ⟨j + 1, by omega, by go_num, HB3, HO3⟩
      case measure => simp [intOf]; omega
    · obtain rfl : j = n := by omega
      have ho := HO.out
      rw [← HLT.out, List.take_length] at ho
      obtain ⟨g, cap, rfl, hgb, hgl, hcap⟩ : ∃ (g cap : Nat), u3 = .slice (some ⟨g, 0, none⟩) j cap ∧ g < wr.heap.size ∧ (∀ (q : Nat) x, ts[q]? = some x → wr.cell? ⟨g, q, none⟩ = some (.string x)) ∧ ts.length ≤ cap := by
        obtain ⟨g, cap, hv, _, hlt2⟩ := ho.form (by rw [HLT.out]; exact HL0.out)
        refine ⟨g, cap, by rw [hv, HLT.out], hlt2, fun q x hx => ?_, ?_⟩
        · have hc := ho.cells (g := g) (by rw [hv]; rfl) q (.string x) (by rw [List.getElem?_map, hx]; rfl)
          rwa [add_plain] at hc
        · rcases ho.2 with ⟨h1, h2⟩ | ⟨g2, cap2, cur, h1, _, _, h3, _⟩
          · rw [hv] at h1; cases h1
          · rw [hv] at h1; injection h1 with h4 h5 h6; omega
      have hj47 := HJJ.out g cap _ hgb hcap hgl
      rw [HLT.out] at hj47
      go_wp2_with (go_at_call 47; refine hj47.mono ?_; rintro e w6 ⟨rfl, hb⟩; have HB6 := Aside0.mk (below_step HB'.out hb); clear hb)
      go_ret
      exact ⟨rfl, HB6.out⟩
end Go.Proofs.YtejfmghjmhiodaaGreatDoor.Vz
namespace Go.Proofs.YtejfmghjmhiodaaGreatDoor.Vz
open Go.RowKit Go.Proofs.YtejfmghjmhiodaaGreatDoorW.PrintWords
set_option linter.unusedVariables false
set_option linter.unusedSimpArgs false
attribute [local go_sem] store_float

set_option maxHeartbeats 8000000 in
set_option maxRecDepth 100000 in
theorem list16 (A : Option Addr) (n c : Nat) (W : World) : Calls Tryz.prog 16 #[.slice A n c] W fun e w' => e = .returned (.agg #[.int .i64 4, .int .i64 0, .float .f64 0, .string ⟨#[]⟩, .slice A n c]) ∧ Below W.heap.size W w' := by
  go_enter Tryz.func16, Tryz.ntmps16
  go_wp2_with (first
    | ((with_reducible refine gate_dst (N := 2) rfl ?_); refine box_event ?hg (N := 2) ?hd (cs := #[.int .i64 0, .int .i64 0, .float .f64 0, .string ⟨#[]⟩, .slice none 0 0]) (t := 25) ?hr ?_; (case hd => rfl); (case hg => rfl); (case hr => first | (go_simp; done) | (go_simp; rfl)); intro g hg w1 hbox hb; have HB := Aside0.mk hb; have HG := Aside0.mk (show W.heap.size ≤ g by omega); have K := Aside0.mk hbox; clear hg hbox hb)
    | ((with_reducible refine gate_store (t := 25) (p := 2) rfl ?_); refine put_eventU ?hg (t := 25) (p := 2) (v := .tmp 4) ?ho ?hN (g := g) (u := .agg #[.int .i64 4, .int .i64 0, .float .f64 0, .string ⟨#[]⟩, .slice A n c]) (cs := #[.int .i64 4, .int .i64 0, .float .f64 0, .string ⟨#[]⟩, .slice A n c]) ?hp ?hv K.out ?hs ?hi ?h1 ?hc ?_; (case hs => rfl); (case hi => kernel_rfl); (case h1 => simp [Value.oneCell']); (case hc => simp [Value.cells]); (case hg => rfl); (case ho => rfl); (case hN => rfl); (case hp => rfl); (case hv => rfl); intro w3 hk hs; have HB := Aside0.mk (below_keep HB.out HG.out hs); have K := Aside0.mk hk; clear hk hs))
  have q0 := blk_cell K.out 0
  have q1 := blk_cell K.out 1
  have q2 := blk_cell K.out 2
  have q3 := blk_cell K.out 3
  have q4 := blk_cell K.out 4
  simp at q0 q1 q2 q3 q4
  refine bodyPost_ret (v := .agg #[.int .i64 4, .int .i64 0, .float .f64 0, .string ⟨#[]⟩, .slice A n c]) ?_ rfl ⟨rfl, HB.out⟩
  simp [results, Tryz.results16, go_sem, q0, q1, q2, q3, q4]

theorem mk_zero (W : World) : Calls Tryz.prog 12 #[.float .f64 0] W fun e w' => e = .returned (.agg #[.int .i64 2, .int .i64 0, .float .f64 0, .string ⟨#[]⟩, .slice none 0 0]) ∧ Below W.heap.size W w' := by
  have h := float31 0 W
  rwa [show canon 0 = 0 by decide +kernel] at h

theorem mk_half (W : World) : Calls Tryz.prog 12 #[.float .f64 4602678819172646912] W fun e w' => e = .returned (.agg #[.int .i64 2, .int .i64 0, .float .f64 4602678819172646912, .string ⟨#[]⟩, .slice none 0 0]) ∧ Below W.heap.size W w' := by
  have h := float31 4602678819172646912 W
  rwa [show canon 4602678819172646912 = 4602678819172646912 by decide +kernel] at h

theorem mk_two (W : World) : Calls Tryz.prog 12 #[.float .f64 4611686018427387904] W fun e w' => e = .returned (.agg #[.int .i64 2, .int .i64 0, .float .f64 4611686018427387904, .string ⟨#[]⟩, .slice none 0 0]) ∧ Below W.heap.size W w' := by
  have h := float31 4611686018427387904 W
  rwa [show canon 4611686018427387904 = 4611686018427387904 by decide +kernel] at h

theorem mk_one (W : World) : Calls Tryz.prog 12 #[.float .f64 4607182418800017408] W fun e w' => e = .returned (.agg #[.int .i64 2, .int .i64 0, .float .f64 4607182418800017408, .string ⟨#[]⟩, .slice none 0 0]) ∧ Below W.heap.size W w' := by
  have h := float31 4607182418800017408 W
  rwa [show canon 4607182418800017408 = 4607182418800017408 by decide +kernel] at h

theorem canon_zero (W : World) : Calls Tryz.prog 28 #[.float .f64 0] W fun e w' => e = .returned (.float .f64 0) ∧ w' = W := by
  have h := canon38 0 W
  rwa [show canon 0 = 0 by decide +kernel] at h
def vInt1 : Val := .mk 1 1 0 ⟨#[]⟩ []
def vHalf : Val := .mk 2 0 4602678819172646912 ⟨#[]⟩ []
def vA : Val := .mk 3 0 0 ⟨#[97]⟩ []
def vL : Val := .mk 4 0 0 ⟨#[]⟩ [vInt1, vHalf, vA]
theorem vL_text : TxtC vL ⟨#[91, 49, 44, 32, 48, 46, 53, 44, 32, 34, 97, 34, 93]⟩ := by
  have h := txt_list 0 0 ⟨#[]⟩ [vInt1, vHalf, vA] [⟨#[49]⟩, ⟨#[48, 46, 53]⟩, ⟨#[34, 97, 34]⟩] rfl (by decide) (by decide) (fun j hj => by
    match j, hj with
    | 0, _ => exact txt_int1 _ _ _
    | 1, _ => exact txt_half _ _ _
    | 2, _ => exact txt_a _ _ _) ⟨#[49, 44, 32, 48, 46, 53, 44, 32, 34, 97, 34]⟩ (by decide +kernel) (by decide)
  exact h
theorem vL_equal : equalV vL vL = true := by decide +kernel
theorem vL_check : checkV vL = 0 := by decide +kernel
theorem v9_check : checkV (.mk 9 0 0 ⟨#[]⟩ []) = 31 := by decide +kernel
theorem vL_size : sizeV vL = 24 := by decide +kernel
theorem v_order : order (.mk 2 0 0 ⟨#[]⟩ []) (.mk 2 0 4607182418800017408 ⟨#[]⟩ []) = -1 := by decide +kernel
end Go.Proofs.YtejfmghjmhiodaaGreatDoor.Vz
namespace Go.Proofs.YtejfmghjmhiodaaGreatDoor.Vz
open Go.RowKit Go.Proofs.YtejfmghjmhiodaaGreatDoorW.PrintWords
set_option linter.unusedVariables false
set_option linter.unusedSimpArgs false
attribute [local go_sem] store_float

theorem vL_RV {W : World} {gl : Nat} (K : W.heap[gl]? = some (.cells #[.int .i64 1, .int .i64 1, .float .f64 0, .string ⟨#[]⟩, .slice none 0 0, .int .i64 2, .int .i64 0, .float .f64 4602678819172646912, .string ⟨#[]⟩, .slice none 0 0, .int .i64 3, .int .i64 0, .float .f64 0, .string ⟨#[97]⟩, .slice none 0 0] 25 (0, 0))) : RV W (fun _ => True) vL #[.int .i64 4, .int .i64 0, .float .f64 0, .string ⟨#[]⟩, .slice (some ⟨gl, 0, none⟩) 3 3] := by
  refine .mk 4 0 0 ⟨#[]⟩ [vInt1, vHalf, vA] (some ⟨gl, 0, none⟩) 3 gl 0 (fun j => if j = 0 then #[.int .i64 1, .int .i64 1, .float .f64 0, .string ⟨#[]⟩, .slice none 0 0] else if j = 1 then #[.int .i64 2, .int .i64 0, .float .f64 4602678819172646912, .string ⟨#[]⟩, .slice none 0 0] else #[.int .i64 3, .int .i64 0, .float .f64 0, .string ⟨#[97]⟩, .slice none 0 0]) (by decide) (by decide) (by decide) (by decide) (by decide) (by decide) (fun _ => ⟨rfl, trivial⟩) ?_ ?_
  · intro j hj q hq
    have hj3 : j < 3 := hj
    rw [Nat.zero_add, blk_cell K]
    match j, hj3 with
    | 0, _ => match q, hq with
      | 0, _ => rfl
      | 1, _ => rfl
      | 2, _ => rfl
      | 3, _ => rfl
      | 4, _ => rfl
    | 1, _ => match q, hq with
      | 0, _ => rfl
      | 1, _ => rfl
      | 2, _ => rfl
      | 3, _ => rfl
      | 4, _ => rfl
    | 2, _ => match q, hq with
      | 0, _ => rfl
      | 1, _ => rfl
      | 2, _ => rfl
      | 3, _ => rfl
      | 4, _ => rfl
  · intro j hj
    match j, hj with
    | 0, _ => exact RV.flat (by decide) (by decide) (by decide) (by decide)
    | 1, _ => exact RV.flat (by decide) (by decide) (by decide +kernel) (by decide)
    | 2, _ => exact RV.flat (by decide) (by decide) (by decide) (by decide)
theorem flatRV (W : World) (k : Int) (f : Nat) (hk : (Lit.int .i64 k).wf = true) (hf : (Lit.float .f64 f).wf = true) : RV W (fun _ => True) (.mk k 0 f ⟨#[]⟩ []) #[.int .i64 k, .int .i64 0, .float .f64 f, .string ⟨#[]⟩, .slice none 0 0] := RV.flat hk (by decide) hf (by decide)
theorem tenK {W w : World} {g2 g1 gl : Nat} (K2 : W.heap[g2]? = some (.cells #[.int .i64 4, .int .i64 0, .float .f64 0, .string ⟨#[]⟩, .slice (some ⟨gl, 0, none⟩) 3 3] 25 (0, 0))) (K1 : W.heap[g1]? = some (.cells #[.int .i64 2, .int .i64 0, .float .f64 0, .string ⟨#[]⟩, .slice none 0 0] 25 (0, 0))) (h : Below W.heap.size W w) : w.cell? ⟨g2, 0, none⟩ = some (.int .i64 4) ∧ w.cell? ⟨g2, 1, none⟩ = some (.int .i64 0) ∧ w.cell? ⟨g2, 2, none⟩ = some (.float .f64 0) ∧ w.cell? ⟨g2, 3, none⟩ = some (.string ⟨#[]⟩) ∧ w.cell? ⟨g2, 4, none⟩ = some (.slice (some ⟨gl, 0, none⟩) 3 3) ∧ w.cell? ⟨g1, 0, none⟩ = some (.int .i64 2) ∧ w.cell? ⟨g1, 1, none⟩ = some (.int .i64 0) ∧ w.cell? ⟨g1, 2, none⟩ = some (.float .f64 0) ∧ w.cell? ⟨g1, 3, none⟩ = some (.string ⟨#[]⟩) ∧ w.cell? ⟨g1, 4, none⟩ = some (.slice none 0 0) :=
  ⟨blk_cell (blk_below K2 h) 0, blk_cell (blk_below K2 h) 1, blk_cell (blk_below K2 h) 2, blk_cell (blk_below K2 h) 3, blk_cell (blk_below K2 h) 4, blk_cell (blk_below K1 h) 0, blk_cell (blk_below K1 h) 1, blk_cell (blk_below K1 h) 2, blk_cell (blk_below K1 h) 3, blk_cell (blk_below K1 h) 4⟩

set_option maxHeartbeats 8000000 in
set_option maxRecDepth 100000 in
theorem known9 (hS : CompareC) (W : World) (T : Tabs3 W) : Calls Tryz.prog 9 #[] W fun e w' => e = .returned (.bool true) ∧ Below W.heap.size W w' := by
  have HT := Aside0.mk T
  have HS := Aside0.mk hS
  clear T hS
  go_enter Tryz.func9, Tryz.ntmps9
  go_upto_region 3 with (first
    | (go_at_call 28; refine (canon_zero _).mono ?_; rintro e w1 ⟨rfl, hw⟩; rw [hw]; clear hw w1)
    | (go_at_call 12; with_reducible refine (mk_zero _).mono ?_; rintro e w2 ⟨rfl, hb⟩; have HB := Aside0.mk hb; clear hb)
    | ((with_reducible refine gate_dst (N := 1) rfl ?_); refine box_event ?hg (N := 1) ?hd (cs := #[.int .i64 0, .int .i64 0, .float .f64 0, .string ⟨#[]⟩, .slice none 0 0]) (t := 25) ?hr ?_; (case hd => rfl); (case hg => rfl); (case hr => first | (go_simp; done) | (go_simp; rfl)); intro g1 hg w3 hbox hb; have HG := Aside0.mk (show W.heap.size ≤ g1 by (have := HB.out.size; omega)); have HB := Aside0.mk (below_step HB.out hb); have K1 := Aside0.mk hbox; clear hg hbox hb)
    | ((with_reducible refine gate_store (t := 25) (p := 1) rfl ?_); refine put_eventU ?hg (t := 25) (p := 1) (v := .tmp 4) ?ho ?hN (g := g1) (u := .agg #[.int .i64 2, .int .i64 0, .float .f64 0, .string ⟨#[]⟩, .slice none 0 0]) (cs := #[.int .i64 2, .int .i64 0, .float .f64 0, .string ⟨#[]⟩, .slice none 0 0]) ?hp ?hv K1.out ?hs ?hi ?h1 ?hc ?_; (case hs => rfl); (case hi => kernel_rfl); (case h1 => simp [Value.oneCell']); (case hc => simp [Value.cells]); (case hg => rfl); (case ho => rfl); (case hN => rfl); (case hp => rfl); (case hv => rfl); intro w4 hk hs; have HB := Aside0.mk (below_keep HB.out HG.out hs); have K1 := Aside0.mk hk; clear hk hs)
    | (go_at_call 23; refine (int14 1 _).mono ?_; rintro e w5 ⟨rfl, hb⟩; have K1 := Aside0.mk (blk_below K1.out hb); have HB := Aside0.mk (below_step HB.out hb); clear hb)
    | (go_at_call 12; with_reducible refine (mk_half _).mono ?_; rintro e w6 ⟨rfl, hb⟩; have K1 := Aside0.mk (blk_below K1.out hb); have HB := Aside0.mk (below_step HB.out hb); clear hb)
    | (go_at_call 15; refine (text32 ⟨#[97]⟩ _).mono ?_; rintro e w7 ⟨rfl, hb⟩; have K1 := Aside0.mk (blk_below K1.out hb); have HB := Aside0.mk (below_step HB.out hb); clear hb)
    | (go_at_call 16; refine (list16 _ _ _ _).mono ?_; rintro e w8 ⟨rfl, hb⟩; have hb2 := below_step (below_alloc (Below.refl _ w7) (.cells #[.int .i64 1, .int .i64 1, .float .f64 0, .string ⟨#[]⟩, .slice none 0 0, .int .i64 2, .int .i64 0, .float .f64 4602678819172646912, .string ⟨#[]⟩, .slice none 0 0, .int .i64 3, .int .i64 0, .float .f64 0, .string ⟨#[97]⟩, .slice none 0 0] 25)) hb; have hn := blk_below (blk_new w7 (.cells #[.int .i64 1, .int .i64 1, .float .f64 0, .string ⟨#[]⟩, .slice none 0 0, .int .i64 2, .int .i64 0, .float .f64 4602678819172646912, .string ⟨#[]⟩, .slice none 0 0, .int .i64 3, .int .i64 0, .float .f64 0, .string ⟨#[97]⟩, .slice none 0 0] 25)) hb; have K1 := Aside0.mk (blk_below K1.out hb2); have HB := Aside0.mk (below_step HB.out hb2); have GL := Aside0.mk hn; clear hb hb2 hn; generalize w7.heap.size = gl at GL ⊢)
    | ((with_reducible refine gate_dst (N := 2) rfl ?_); refine box_event ?hg (N := 2) ?hd (cs := #[.int .i64 0, .int .i64 0, .float .f64 0, .string ⟨#[]⟩, .slice none 0 0]) (t := 25) ?hr ?_; (case hd => rfl); (case hg => rfl); (case hr => first | (go_simp; done) | (go_simp; rfl)); intro g2 hg w9 hbox hb; have HG2 := Aside0.mk (show W.heap.size ≤ g2 ∧ g1 ≠ g2 ∧ gl ≠ g2 by (have h1_ := HB.out.size; have h2_ := blk_lt K1.out; have h3_ := blk_lt GL.out; omega)); have HB := Aside0.mk (below_step HB.out hb); have K1 := Aside0.mk (blk_below K1.out hb); have GL := Aside0.mk (blk_below GL.out hb); have K2 := Aside0.mk hbox; clear hg hbox hb)
    | ((with_reducible refine gate_store (t := 25) (p := 2) rfl ?_); refine put_eventU ?hg (t := 25) (p := 2) (v := .tmp 9) ?ho ?hN (g := g2) (u := .agg #[.int .i64 4, .int .i64 0, .float .f64 0, .string ⟨#[]⟩, .slice (some ⟨gl, 0, none⟩) 3 3]) (cs := #[.int .i64 4, .int .i64 0, .float .f64 0, .string ⟨#[]⟩, .slice (some ⟨gl, 0, none⟩) 3 3]) ?hp ?hv K2.out ?hs ?hi ?h1 ?hc ?_; (case hs => rfl); (case hi => kernel_rfl); (case h1 => simp [Value.oneCell']); (case hc => simp [Value.cells]); (case hg => rfl); (case ho => rfl); (case hN => rfl); (case hp => rfl); (case hv => rfl); intro w10 hk hs; have HB := Aside0.mk (below_keep HB.out HG2.out.1 hs); have K1 := Aside0.mk (hs.blk K1.out HG2.out.2.1); have GL := Aside0.mk (hs.blk GL.out HG2.out.2.2); have K2 := Aside0.mk hk; clear hk hs))
  have a0 : w10.cell? ⟨g2, 0, none⟩ = some (.int .i64 4) := blk_cell K2.out 0
  have a1 : w10.cell? ⟨g2, 1, none⟩ = some (.int .i64 0) := blk_cell K2.out 1
  have a2 : w10.cell? ⟨g2, 2, none⟩ = some (.float .f64 0) := blk_cell K2.out 2
  have a3 : w10.cell? ⟨g2, 3, none⟩ = some (.string ⟨#[]⟩) := blk_cell K2.out 3
  have a4 : w10.cell? ⟨g2, 4, none⟩ = some (.slice (some ⟨gl, 0, none⟩) 3 3) := blk_cell K2.out 4
  have b0 : w10.cell? ⟨g1, 0, none⟩ = some (.int .i64 2) := blk_cell K1.out 0
  have b1 : w10.cell? ⟨g1, 1, none⟩ = some (.int .i64 0) := blk_cell K1.out 1
  have b2 : w10.cell? ⟨g1, 2, none⟩ = some (.float .f64 0) := blk_cell K1.out 2
  have b3 : w10.cell? ⟨g1, 3, none⟩ = some (.string ⟨#[]⟩) := blk_cell K1.out 3
  have b4 : w10.cell? ⟨g1, 4, none⟩ = some (.slice none 0 0) := blk_cell K1.out 4
  have C0 := Aside0.mk (Below.refl w10.drew.heap.size w10.drew)
  have HW := Aside0.mk (HB.out.drew)
  have R := Aside0.mk (fun (w' : World) (h : Below w10.drew.heap.size w10.drew w') => (vL_RV (W := w10.drew) GL.out).kept h)
  have HTT := Aside0.mk (fun (w' : World) (h : Below w10.drew.heap.size w10.drew w') => HT.out.below (below_step HW.out h))
  have ceq : ∀ w', Below w10.drew.heap.size w10.drew w' → Calls Tryz.prog 13 #[.agg #[.int .i64 4, .int .i64 0, .float .f64 0, .string ⟨#[]⟩, .slice (some ⟨gl, 0, none⟩) 3 3], .agg #[.int .i64 4, .int .i64 0, .float .f64 0, .string ⟨#[]⟩, .slice (some ⟨gl, 0, none⟩) 3 3]] w' (fun e w'' => e = .returned (.bool true) ∧ Below w'.heap.size w' w'') := fun w' h => by
    have h1 := equal13 vL w' _ _ (R.out w' h) vL _ _ (R.out w' h)
    rwa [vL_equal] at h1
  have cor : ∀ w' : World, Calls Tryz.prog 11 #[.agg #[.int .i64 2, .int .i64 0, .float .f64 0, .string ⟨#[]⟩, .slice none 0 0], .agg #[.int .i64 2, .int .i64 0, .float .f64 4607182418800017408, .string ⟨#[]⟩, .slice none 0 0]] w' (fun e w'' => e = .returned (.int .i64 (-1)) ∧ Below w'.heap.size w' w'') := fun w' => by
    have h1 := order11 HS.out (.mk 2 0 0 ⟨#[]⟩ []) w' (fun _ => True) _ (flatRV _ 2 0 (by decide) (by decide)) (.mk 2 0 4607182418800017408 ⟨#[]⟩ []) (fun _ => True) _ (flatRV _ 2 4607182418800017408 (by decide) (by decide +kernel))
    rwa [v_order] at h1
  have cch : ∀ w', Below w10.drew.heap.size w10.drew w' → Calls Tryz.prog 17 #[.agg #[.int .i64 4, .int .i64 0, .float .f64 0, .string ⟨#[]⟩, .slice (some ⟨gl, 0, none⟩) 3 3]] w' (fun e w'' => e = .returned (.int .i64 0) ∧ Below w'.heap.size w' w'') := fun w' h => by
    have h1 := check17 vL w' _ _ (R.out w' h)
    rwa [vL_check] at h1
  have cc9 : ∀ w' : World, Calls Tryz.prog 17 #[.agg #[.int .i64 9, .int .i64 0, .float .f64 0, .string ⟨#[]⟩, .slice none 0 0]] w' (fun e w'' => e = .returned (.int .i64 31) ∧ Below w'.heap.size w' w'') := fun w' => by
    have h1 := check17 (.mk 9 0 0 ⟨#[]⟩ []) w' (fun _ => True) _ (flatRV _ 9 0 (by decide) (by decide))
    rwa [v9_check] at h1
  have csz : ∀ w', Below w10.drew.heap.size w10.drew w' → Calls Tryz.prog 18 #[.agg #[.int .i64 4, .int .i64 0, .float .f64 0, .string ⟨#[]⟩, .slice (some ⟨gl, 0, none⟩) 3 3]] w' (fun e w'' => e = .returned (.int .i64 24) ∧ Below w'.heap.size w' w'') := fun w' h => by
    have h1 := size18 vL w' _ _ (R.out w' h)
    rwa [vL_size] at h1
  have CE := Aside0.mk (And.intro ceq (And.intro cor (And.intro cch (And.intro cc9 csz))))
  clear ceq cor cch cc9 csz
  refine wp_region_held_drew (S := fun w' => w'.cell? ⟨g2, 0, none⟩ = some (.int .i64 4) ∧ w'.cell? ⟨g2, 1, none⟩ = some (.int .i64 0) ∧ w'.cell? ⟨g2, 2, none⟩ = some (.float .f64 0) ∧ w'.cell? ⟨g2, 3, none⟩ = some (.string ⟨#[]⟩) ∧ w'.cell? ⟨g2, 4, none⟩ = some (.slice (some ⟨gl, 0, none⟩) 3 3) ∧ w'.cell? ⟨g1, 0, none⟩ = some (.int .i64 2) ∧ w'.cell? ⟨g1, 1, none⟩ = some (.int .i64 0) ∧ w'.cell? ⟨g1, 2, none⟩ = some (.float .f64 0) ∧ w'.cell? ⟨g1, 3, none⟩ = some (.string ⟨#[]⟩) ∧ w'.cell? ⟨g1, 4, none⟩ = some (.slice none 0 0)) (by kernel_rfl) ?_ (fun hHeld => ?_)
  · exact ⟨a0, a1, a2, a3, a4, b0, b1, b2, b3, b4⟩
  refine wpAnyH_take (i := 0) (oi := { dst := some 10, op := Go.Op.load 25 (Go.Operand.tmp 2), type := 25, pos := "law.go:15", after := #[], guard := none }) (v := ?_) rfl (by kernel_rfl) (by kernel_rfl) (by kernel_rfl) (fun _ _ _ h => h) (Or.inl ⟨by rfl, ?_⟩) (by assumption) ?_
  rotate_left
  · first | (intro w hSw; (try dsimp only at hSw); go_simp; done) | (intro w hSw; (try dsimp only at hSw); go_simp; with_reducible rfl)
  try simp only [Act.put, List.setIfInBounds_toArray, List.set_cons_zero, List.set_cons_succ]
  refine wpAnyH_ready (rs := [1]) (by kernel_rfl) (by simp) ?_
  refine AllReadyH.cons (o := { dst := some 11, op := Go.Op.call { callee := Go.Callee.value (Go.Operand.func 22), args := #[Go.Operand.tmp 10], argTypes := #[25] }, type := 9, pos := "law.go:15", after := #[{ on := 0, ground := Go.Ground.data }], guard := none }) rfl (fun K hK => ?_) AllReadyH.nil
  go_simp
  refine (vL_text _ _ _ (HTT.out _ C0.out) (R.out _ C0.out)).mono ?_
  rintro e v1 ⟨rfl, hb⟩
  have C1 := Aside0.mk (below_step C0.out hb)
  refine hK.out _ _ ?_ (fun hHeld => ?_)
  · exact tenK (gl := gl) (W := w10.drew) K2.out K1.out C1.out
  clear hK K hb
  try simp only [Act.put, List.setIfInBounds_toArray, List.set_cons_zero, List.set_cons_succ]
  refine wpAnyH_take (i := 2) (oi := { dst := some 12, op := Go.Op.binOp Go.BinOp.eql 9 (Go.Operand.tmp 11) (Go.Operand.const (Go.Value.string { data := #[91, 49, 44, 32, 48, 46, 53, 44, 32, 34, 97, 34, 93] })) 9, type := 4, pos := "law.go:15", after := #[{ on := 1, ground := Go.Ground.data }], guard := none }) (v := ?_) rfl (by kernel_rfl) (by kernel_rfl) (by kernel_rfl) (fun _ _ _ h => h) (Or.inl ⟨by rfl, ?_⟩) (by assumption) ?_
  rotate_left
  · first | (intro w hSw; (try dsimp only at hSw); go_simp; done) | (intro w hSw; (try dsimp only at hSw); go_simp; with_reducible rfl)
  try simp only [Act.put, List.setIfInBounds_toArray, List.set_cons_zero, List.set_cons_succ]
  refine wpAnyH_take (i := 3) (oi := { dst := some 13, op := Go.Op.move (Go.Operand.tmp 12), type := 4, pos := "law.go:15", after := #[{ on := 2, ground := Go.Ground.data }, { on := 1, ground := Go.Ground.chain }], guard := none }) (v := ?_) rfl (by kernel_rfl) (by kernel_rfl) (by kernel_rfl) (fun _ _ _ h => h) (Or.inl ⟨by rfl, ?_⟩) (by assumption) ?_
  rotate_left
  · first | (intro w hSw; (try dsimp only at hSw); go_simp; done) | (intro w hSw; (try dsimp only at hSw); go_simp; with_reducible rfl)
  try simp only [Act.put, List.setIfInBounds_toArray, List.set_cons_zero, List.set_cons_succ]
  refine wpAnyH_ready (rs := [4]) (by kernel_rfl) (by simp) ?_
  refine AllReadyH.cons (o := { dst := some 14, op := Go.Op.call { callee := Go.Callee.value (Go.Operand.func 12), args := #[Go.Operand.const (Go.Value.float Go.FloatKind.f64 4611686018427387904)], argTypes := #[22] }, type := 25, pos := "law.go:15", after := #[{ on := 3, ground := Go.Ground.chain }, { on := 3, ground := Go.Ground.guard }], guard := some (3, true) }) rfl (fun K hK => ?_) AllReadyH.nil
  go_simp
  refine (mk_two _).mono ?_
  rintro e v2 ⟨rfl, hb⟩
  have C2 := Aside0.mk (below_step C1.out hb)
  refine hK.out _ _ ?_ (fun hHeld => ?_)
  · exact tenK (gl := gl) (W := w10.drew) K2.out K1.out C2.out
  clear hK K hb
  try simp only [Act.put, List.setIfInBounds_toArray, List.set_cons_zero, List.set_cons_succ]
  refine wpAnyH_ready (rs := [5]) (by kernel_rfl) (by simp) ?_
  refine AllReadyH.cons (o := { dst := some 15, op := Go.Op.call { callee := Go.Callee.value (Go.Operand.func 22), args := #[Go.Operand.tmp 14], argTypes := #[25] }, type := 9, pos := "law.go:15", after := #[{ on := 4, ground := Go.Ground.data }, { on := 4, ground := Go.Ground.chain }, { on := 3, ground := Go.Ground.guard }], guard := some (3, true) }) rfl (fun K hK => ?_) AllReadyH.nil
  go_simp
  refine (txt_two 0 ⟨#[]⟩ [] _ (fun _ => True) _ (HTT.out _ C2.out) (flatRV _ 2 4611686018427387904 (by decide) (by decide +kernel))).mono ?_
  rintro e v3 ⟨rfl, hb⟩
  have C3 := Aside0.mk (below_step C2.out hb)
  refine hK.out _ _ ?_ (fun hHeld => ?_)
  · exact tenK (gl := gl) (W := w10.drew) K2.out K1.out C3.out
  clear hK K hb
  try simp only [Act.put, List.setIfInBounds_toArray, List.set_cons_zero, List.set_cons_succ]
  refine wpAnyH_take (i := 6) (oi := { dst := some 16, op := Go.Op.binOp Go.BinOp.eql 9 (Go.Operand.tmp 15) (Go.Operand.const (Go.Value.string { data := #[50, 46, 48] })) 9, type := 4, pos := "law.go:15", after := #[{ on := 5, ground := Go.Ground.data }, { on := 3, ground := Go.Ground.guard }], guard := some (3, true) }) (v := ?_) rfl (by kernel_rfl) (by kernel_rfl) (by kernel_rfl) (fun _ _ _ h => h) (Or.inl ⟨by rfl, ?_⟩) (by assumption) ?_
  rotate_left
  · first | (intro w hSw; (try dsimp only at hSw); go_simp; done) | (intro w hSw; (try dsimp only at hSw); go_simp; with_reducible rfl)
  try simp only [Act.put, List.setIfInBounds_toArray, List.set_cons_zero, List.set_cons_succ]
  refine wpAnyH_take (i := 7) (oi := { dst := some 17, op := Go.Op.pick (Go.Operand.tmp 13) (Go.Operand.tmp 16) (Go.Operand.const (Go.Value.bool false)), type := 4, pos := "law.go:15", after := #[{ on := 3, ground := Go.Ground.data }, { on := 6, ground := Go.Ground.data }], guard := none }) (v := ?_) rfl (by kernel_rfl) (by kernel_rfl) (by kernel_rfl) (fun _ _ _ h => h) (Or.inl ⟨by rfl, ?_⟩) (by assumption) ?_
  rotate_left
  · first | (intro w hSw; (try dsimp only at hSw); go_simp; done) | (intro w hSw; (try dsimp only at hSw); go_simp; with_reducible rfl)
  try simp only [Act.put, List.setIfInBounds_toArray, List.set_cons_zero, List.set_cons_succ]
  refine wpAnyH_take (i := 8) (oi := { dst := some 18, op := Go.Op.move (Go.Operand.tmp 17), type := 4, pos := "law.go:15", after := #[{ on := 7, ground := Go.Ground.data }, { on := 5, ground := Go.Ground.chain }], guard := none }) (v := ?_) rfl (by kernel_rfl) (by kernel_rfl) (by kernel_rfl) (fun _ _ _ h => h) (Or.inl ⟨by rfl, ?_⟩) (by assumption) ?_
  rotate_left
  · first | (intro w hSw; (try dsimp only at hSw); go_simp; done) | (intro w hSw; (try dsimp only at hSw); go_simp; with_reducible rfl)
  try simp only [Act.put, List.setIfInBounds_toArray, List.set_cons_zero, List.set_cons_succ]
  refine wpAnyH_take (i := 9) (oi := { dst := some 19, op := Go.Op.load 25 (Go.Operand.tmp 2), type := 25, pos := "law.go:15", after := #[{ on := 8, ground := Go.Ground.guard }], guard := some (8, true) }) (v := ?_) rfl (by kernel_rfl) (by kernel_rfl) (by kernel_rfl) (fun _ _ _ h => h) (Or.inl ⟨by rfl, ?_⟩) (by assumption) ?_
  rotate_left
  · first | (intro w hSw; (try dsimp only at hSw); go_simp; done) | (intro w hSw; (try dsimp only at hSw); go_simp; with_reducible rfl)
  try simp only [Act.put, List.setIfInBounds_toArray, List.set_cons_zero, List.set_cons_succ]
  refine wpAnyH_take (i := 10) (oi := { dst := some 20, op := Go.Op.load 25 (Go.Operand.tmp 2), type := 25, pos := "law.go:15", after := #[{ on := 8, ground := Go.Ground.guard }], guard := some (8, true) }) (v := ?_) rfl (by kernel_rfl) (by kernel_rfl) (by kernel_rfl) (fun _ _ _ h => h) (Or.inl ⟨by rfl, ?_⟩) (by assumption) ?_
  rotate_left
  · first | (intro w hSw; (try dsimp only at hSw); go_simp; done) | (intro w hSw; (try dsimp only at hSw); go_simp; with_reducible rfl)
  try simp only [Act.put, List.setIfInBounds_toArray, List.set_cons_zero, List.set_cons_succ]
  refine wpAnyH_ready (rs := [11]) (by kernel_rfl) (by simp) ?_
  refine AllReadyH.cons (o := { dst := some 21, op := Go.Op.call { callee := Go.Callee.value (Go.Operand.func 13), args := #[Go.Operand.tmp 19, Go.Operand.tmp 20], argTypes := #[25, 25] }, type := 4, pos := "law.go:15", after := #[{ on := 9, ground := Go.Ground.data }, { on := 10, ground := Go.Ground.data }, { on := 8, ground := Go.Ground.chain }, { on := 8, ground := Go.Ground.guard }], guard := some (8, true) }) rfl (fun K hK => ?_) AllReadyH.nil
  go_simp
  refine (CE.out.1 _ C3.out).mono ?_
  rintro e v4 ⟨rfl, hb⟩
  have C4 := Aside0.mk (below_step C3.out hb)
  refine hK.out _ _ ?_ (fun hHeld => ?_)
  · exact tenK (gl := gl) (W := w10.drew) K2.out K1.out C4.out
  clear hK K hb
  try simp only [Act.put, List.setIfInBounds_toArray, List.set_cons_zero, List.set_cons_succ]
  refine wpAnyH_take (i := 12) (oi := { dst := some 22, op := Go.Op.pick (Go.Operand.tmp 18) (Go.Operand.tmp 21) (Go.Operand.const (Go.Value.bool false)), type := 4, pos := "law.go:15", after := #[{ on := 8, ground := Go.Ground.data }, { on := 11, ground := Go.Ground.data }], guard := none }) (v := ?_) rfl (by kernel_rfl) (by kernel_rfl) (by kernel_rfl) (fun _ _ _ h => h) (Or.inl ⟨by rfl, ?_⟩) (by assumption) ?_
  rotate_left
  · first | (intro w hSw; (try dsimp only at hSw); go_simp; done) | (intro w hSw; (try dsimp only at hSw); go_simp; with_reducible rfl)
  try simp only [Act.put, List.setIfInBounds_toArray, List.set_cons_zero, List.set_cons_succ]
  refine wpAnyH_take (i := 13) (oi := { dst := some 23, op := Go.Op.move (Go.Operand.tmp 22), type := 4, pos := "law.go:15", after := #[{ on := 12, ground := Go.Ground.data }, { on := 11, ground := Go.Ground.chain }], guard := none }) (v := ?_) rfl (by kernel_rfl) (by kernel_rfl) (by kernel_rfl) (fun _ _ _ h => h) (Or.inl ⟨by rfl, ?_⟩) (by assumption) ?_
  rotate_left
  · first | (intro w hSw; (try dsimp only at hSw); go_simp; done) | (intro w hSw; (try dsimp only at hSw); go_simp; with_reducible rfl)
  try simp only [Act.put, List.setIfInBounds_toArray, List.set_cons_zero, List.set_cons_succ]
  refine wpAnyH_take (i := 14) (oi := { dst := some 24, op := Go.Op.load 25 (Go.Operand.tmp 1), type := 25, pos := "law.go:15", after := #[{ on := 13, ground := Go.Ground.guard }], guard := some (13, true) }) (v := ?_) rfl (by kernel_rfl) (by kernel_rfl) (by kernel_rfl) (fun _ _ _ h => h) (Or.inl ⟨by rfl, ?_⟩) (by assumption) ?_
  rotate_left
  · first | (intro w hSw; (try dsimp only at hSw); go_simp; done) | (intro w hSw; (try dsimp only at hSw); go_simp; with_reducible rfl)
  try simp only [Act.put, List.setIfInBounds_toArray, List.set_cons_zero, List.set_cons_succ]
  refine wpAnyH_ready (rs := [15]) (by kernel_rfl) (by simp) ?_
  refine AllReadyH.cons (o := { dst := some 25, op := Go.Op.call { callee := Go.Callee.value (Go.Operand.func 12), args := #[Go.Operand.const (Go.Value.float Go.FloatKind.f64 4607182418800017408)], argTypes := #[22] }, type := 25, pos := "law.go:15", after := #[{ on := 13, ground := Go.Ground.chain }, { on := 13, ground := Go.Ground.guard }], guard := some (13, true) }) rfl (fun K hK => ?_) AllReadyH.nil
  go_simp
  refine (mk_one _).mono ?_
  rintro e v5 ⟨rfl, hb⟩
  have C5 := Aside0.mk (below_step C4.out hb)
  refine hK.out _ _ ?_ (fun hHeld => ?_)
  · exact tenK (gl := gl) (W := w10.drew) K2.out K1.out C5.out
  clear hK K hb
  try simp only [Act.put, List.setIfInBounds_toArray, List.set_cons_zero, List.set_cons_succ]
  refine wpAnyH_ready (rs := [16]) (by kernel_rfl) (by simp) ?_
  refine AllReadyH.cons (o := { dst := some 26, op := Go.Op.call { callee := Go.Callee.value (Go.Operand.func 11), args := #[Go.Operand.tmp 24, Go.Operand.tmp 25], argTypes := #[25, 25] }, type := 3, pos := "law.go:15", after := #[{ on := 14, ground := Go.Ground.data }, { on := 15, ground := Go.Ground.data }, { on := 15, ground := Go.Ground.chain }, { on := 13, ground := Go.Ground.guard }], guard := some (13, true) }) rfl (fun K hK => ?_) AllReadyH.nil
  go_simp
  refine (CE.out.2.1 _).mono ?_
  rintro e v6 ⟨rfl, hb⟩
  have C6 := Aside0.mk (below_step C5.out hb)
  refine hK.out _ _ ?_ (fun hHeld => ?_)
  · exact tenK (gl := gl) (W := w10.drew) K2.out K1.out C6.out
  clear hK K hb
  try simp only [Act.put, List.setIfInBounds_toArray, List.set_cons_zero, List.set_cons_succ]
  refine wpAnyH_take (i := 17) (oi := { dst := some 27, op := Go.Op.binOp Go.BinOp.eql 3 (Go.Operand.tmp 26) (Go.Operand.const (Go.Value.int Go.IntKind.i64 (-1))) 3, type := 4, pos := "law.go:15", after := #[{ on := 16, ground := Go.Ground.data }, { on := 13, ground := Go.Ground.guard }], guard := some (13, true) }) (v := ?_) rfl (by kernel_rfl) (by kernel_rfl) (by kernel_rfl) (fun _ _ _ h => h) (Or.inl ⟨by rfl, ?_⟩) (by assumption) ?_
  rotate_left
  · first | (intro w hSw; (try dsimp only at hSw); go_simp; done) | (intro w hSw; (try dsimp only at hSw); go_simp; with_reducible rfl)
  try simp only [Act.put, List.setIfInBounds_toArray, List.set_cons_zero, List.set_cons_succ]
  refine wpAnyH_take (i := 18) (oi := { dst := some 28, op := Go.Op.pick (Go.Operand.tmp 23) (Go.Operand.tmp 27) (Go.Operand.const (Go.Value.bool false)), type := 4, pos := "law.go:15", after := #[{ on := 13, ground := Go.Ground.data }, { on := 17, ground := Go.Ground.data }], guard := none }) (v := ?_) rfl (by kernel_rfl) (by kernel_rfl) (by kernel_rfl) (fun _ _ _ h => h) (Or.inl ⟨by rfl, ?_⟩) (by assumption) ?_
  rotate_left
  · first | (intro w hSw; (try dsimp only at hSw); go_simp; done) | (intro w hSw; (try dsimp only at hSw); go_simp; with_reducible rfl)
  try simp only [Act.put, List.setIfInBounds_toArray, List.set_cons_zero, List.set_cons_succ]
  refine wpAnyH_take (i := 19) (oi := { dst := some 29, op := Go.Op.move (Go.Operand.tmp 28), type := 4, pos := "law.go:15", after := #[{ on := 18, ground := Go.Ground.data }, { on := 16, ground := Go.Ground.chain }], guard := none }) (v := ?_) rfl (by kernel_rfl) (by kernel_rfl) (by kernel_rfl) (fun _ _ _ h => h) (Or.inl ⟨by rfl, ?_⟩) (by assumption) ?_
  rotate_left
  · first | (intro w hSw; (try dsimp only at hSw); go_simp; done) | (intro w hSw; (try dsimp only at hSw); go_simp; with_reducible rfl)
  try simp only [Act.put, List.setIfInBounds_toArray, List.set_cons_zero, List.set_cons_succ]
  refine wpAnyH_take (i := 20) (oi := { dst := some 30, op := Go.Op.load 25 (Go.Operand.tmp 2), type := 25, pos := "law.go:15", after := #[{ on := 19, ground := Go.Ground.guard }], guard := some (19, true) }) (v := ?_) rfl (by kernel_rfl) (by kernel_rfl) (by kernel_rfl) (fun _ _ _ h => h) (Or.inl ⟨by rfl, ?_⟩) (by assumption) ?_
  rotate_left
  · first | (intro w hSw; (try dsimp only at hSw); go_simp; done) | (intro w hSw; (try dsimp only at hSw); go_simp; with_reducible rfl)
  try simp only [Act.put, List.setIfInBounds_toArray, List.set_cons_zero, List.set_cons_succ]
  refine wpAnyH_ready (rs := [21]) (by kernel_rfl) (by simp) ?_
  refine AllReadyH.cons (o := { dst := some 31, op := Go.Op.call { callee := Go.Callee.value (Go.Operand.func 17), args := #[Go.Operand.tmp 30], argTypes := #[25] }, type := 38, pos := "law.go:15", after := #[{ on := 20, ground := Go.Ground.data }, { on := 19, ground := Go.Ground.chain }, { on := 19, ground := Go.Ground.guard }], guard := some (19, true) }) rfl (fun K hK => ?_) AllReadyH.nil
  go_simp
  refine (CE.out.2.2.1 _ C6.out).mono ?_
  rintro e v7 ⟨rfl, hb⟩
  have C7 := Aside0.mk (below_step C6.out hb)
  refine hK.out _ _ ?_ (fun hHeld => ?_)
  · exact tenK (gl := gl) (W := w10.drew) K2.out K1.out C7.out
  clear hK K hb
  try simp only [Act.put, List.setIfInBounds_toArray, List.set_cons_zero, List.set_cons_succ]
  refine wpAnyH_take (i := 22) (oi := { dst := some 32, op := Go.Op.binOp Go.BinOp.eql 3 (Go.Operand.tmp 31) (Go.Operand.const (Go.Value.int Go.IntKind.i64 0)) 3, type := 4, pos := "law.go:15", after := #[{ on := 21, ground := Go.Ground.data }, { on := 19, ground := Go.Ground.guard }], guard := some (19, true) }) (v := ?_) rfl (by kernel_rfl) (by kernel_rfl) (by kernel_rfl) (fun _ _ _ h => h) (Or.inl ⟨by rfl, ?_⟩) (by assumption) ?_
  rotate_left
  · first | (intro w hSw; (try dsimp only at hSw); go_simp; done) | (intro w hSw; (try dsimp only at hSw); go_simp; with_reducible rfl)
  try simp only [Act.put, List.setIfInBounds_toArray, List.set_cons_zero, List.set_cons_succ]
  refine wpAnyH_take (i := 23) (oi := { dst := some 33, op := Go.Op.pick (Go.Operand.tmp 29) (Go.Operand.tmp 32) (Go.Operand.const (Go.Value.bool false)), type := 4, pos := "law.go:15", after := #[{ on := 19, ground := Go.Ground.data }, { on := 22, ground := Go.Ground.data }], guard := none }) (v := ?_) rfl (by kernel_rfl) (by kernel_rfl) (by kernel_rfl) (fun _ _ _ h => h) (Or.inl ⟨by rfl, ?_⟩) (by assumption) ?_
  rotate_left
  · first | (intro w hSw; (try dsimp only at hSw); go_simp; done) | (intro w hSw; (try dsimp only at hSw); go_simp; with_reducible rfl)
  try simp only [Act.put, List.setIfInBounds_toArray, List.set_cons_zero, List.set_cons_succ]
  refine wpAnyH_take (i := 24) (oi := { dst := some 34, op := Go.Op.move (Go.Operand.tmp 33), type := 4, pos := "law.go:15", after := #[{ on := 23, ground := Go.Ground.data }, { on := 21, ground := Go.Ground.chain }], guard := none }) (v := ?_) rfl (by kernel_rfl) (by kernel_rfl) (by kernel_rfl) (fun _ _ _ h => h) (Or.inl ⟨by rfl, ?_⟩) (by assumption) ?_
  rotate_left
  · first | (intro w hSw; (try dsimp only at hSw); go_simp; done) | (intro w hSw; (try dsimp only at hSw); go_simp; with_reducible rfl)
  try simp only [Act.put, List.setIfInBounds_toArray, List.set_cons_zero, List.set_cons_succ]
  refine wpAnyH_take (i := 25) (oi := { dst := some 35, op := Go.Op.build 25 #[(0, Go.Operand.const (Go.Value.int Go.IntKind.i64 9))], type := 25, pos := "law.go:15", after := #[{ on := 24, ground := Go.Ground.guard }], guard := some (24, true) }) (v := ?_) rfl (by kernel_rfl) (by kernel_rfl) (by kernel_rfl) (fun _ _ _ h => h) (Or.inl ⟨by rfl, ?_⟩) (by assumption) ?_
  rotate_left
  · first | (intro w hSw; (try dsimp only at hSw); go_simp; done) | (intro w hSw; (try dsimp only at hSw); go_simp; with_reducible rfl)
  try simp only [Act.put, List.setIfInBounds_toArray, List.set_cons_zero, List.set_cons_succ]
  refine wpAnyH_ready (rs := [26]) (by kernel_rfl) (by simp) ?_
  refine AllReadyH.cons (o := { dst := some 36, op := Go.Op.call { callee := Go.Callee.value (Go.Operand.func 17), args := #[Go.Operand.tmp 35], argTypes := #[25] }, type := 38, pos := "law.go:15", after := #[{ on := 25, ground := Go.Ground.data }, { on := 24, ground := Go.Ground.chain }, { on := 24, ground := Go.Ground.guard }], guard := some (24, true) }) rfl (fun K hK => ?_) AllReadyH.nil
  go_simp
  refine (CE.out.2.2.2.1 _).mono ?_
  rintro e v8 ⟨rfl, hb⟩
  have C8 := Aside0.mk (below_step C7.out hb)
  refine hK.out _ _ ?_ (fun hHeld => ?_)
  · exact tenK (gl := gl) (W := w10.drew) K2.out K1.out C8.out
  clear hK K hb
  try simp only [Act.put, List.setIfInBounds_toArray, List.set_cons_zero, List.set_cons_succ]
  refine wpAnyH_take (i := 27) (oi := { dst := some 37, op := Go.Op.binOp Go.BinOp.eql 3 (Go.Operand.tmp 36) (Go.Operand.const (Go.Value.int Go.IntKind.i64 31)) 3, type := 4, pos := "law.go:15", after := #[{ on := 26, ground := Go.Ground.data }, { on := 24, ground := Go.Ground.guard }], guard := some (24, true) }) (v := ?_) rfl (by kernel_rfl) (by kernel_rfl) (by kernel_rfl) (fun _ _ _ h => h) (Or.inl ⟨by rfl, ?_⟩) (by assumption) ?_
  rotate_left
  · first | (intro w hSw; (try dsimp only at hSw); go_simp; done) | (intro w hSw; (try dsimp only at hSw); go_simp; with_reducible rfl)
  try simp only [Act.put, List.setIfInBounds_toArray, List.set_cons_zero, List.set_cons_succ]
  refine wpAnyH_take (i := 28) (oi := { dst := some 38, op := Go.Op.pick (Go.Operand.tmp 34) (Go.Operand.tmp 37) (Go.Operand.const (Go.Value.bool false)), type := 4, pos := "law.go:15", after := #[{ on := 24, ground := Go.Ground.data }, { on := 27, ground := Go.Ground.data }], guard := none }) (v := ?_) rfl (by kernel_rfl) (by kernel_rfl) (by kernel_rfl) (fun _ _ _ h => h) (Or.inl ⟨by rfl, ?_⟩) (by assumption) ?_
  rotate_left
  · first | (intro w hSw; (try dsimp only at hSw); go_simp; done) | (intro w hSw; (try dsimp only at hSw); go_simp; with_reducible rfl)
  try simp only [Act.put, List.setIfInBounds_toArray, List.set_cons_zero, List.set_cons_succ]
  refine wpAnyH_take (i := 29) (oi := { dst := some 39, op := Go.Op.move (Go.Operand.tmp 38), type := 4, pos := "law.go:15", after := #[{ on := 28, ground := Go.Ground.data }, { on := 26, ground := Go.Ground.chain }], guard := none }) (v := ?_) rfl (by kernel_rfl) (by kernel_rfl) (by kernel_rfl) (fun _ _ _ h => h) (Or.inl ⟨by rfl, ?_⟩) (by assumption) ?_
  rotate_left
  · first | (intro w hSw; (try dsimp only at hSw); go_simp; done) | (intro w hSw; (try dsimp only at hSw); go_simp; with_reducible rfl)
  try simp only [Act.put, List.setIfInBounds_toArray, List.set_cons_zero, List.set_cons_succ]
  refine wpAnyH_take (i := 30) (oi := { dst := some 40, op := Go.Op.load 25 (Go.Operand.tmp 2), type := 25, pos := "law.go:15", after := #[{ on := 29, ground := Go.Ground.guard }], guard := some (29, true) }) (v := ?_) rfl (by kernel_rfl) (by kernel_rfl) (by kernel_rfl) (fun _ _ _ h => h) (Or.inl ⟨by rfl, ?_⟩) (by assumption) ?_
  rotate_left
  · first | (intro w hSw; (try dsimp only at hSw); go_simp; done) | (intro w hSw; (try dsimp only at hSw); go_simp; with_reducible rfl)
  try simp only [Act.put, List.setIfInBounds_toArray, List.set_cons_zero, List.set_cons_succ]
  refine wpAnyH_ready (rs := [31]) (by kernel_rfl) (by simp) ?_
  refine AllReadyH.cons (o := { dst := some 41, op := Go.Op.call { callee := Go.Callee.value (Go.Operand.func 18), args := #[Go.Operand.tmp 40], argTypes := #[25] }, type := 3, pos := "law.go:15", after := #[{ on := 30, ground := Go.Ground.data }, { on := 29, ground := Go.Ground.chain }, { on := 29, ground := Go.Ground.guard }], guard := some (29, true) }) rfl (fun K hK => ?_) AllReadyH.nil
  go_simp
  refine (CE.out.2.2.2.2 _ C8.out).mono ?_
  rintro e v9 ⟨rfl, hb⟩
  have C9 := Aside0.mk (below_step C8.out hb)
  refine hK.out _ _ ?_ (fun hHeld => ?_)
  · exact tenK (gl := gl) (W := w10.drew) K2.out K1.out C9.out
  clear hK K hb
  try simp only [Act.put, List.setIfInBounds_toArray, List.set_cons_zero, List.set_cons_succ]
  refine wpAnyH_take (i := 32) (oi := { dst := some 42, op := Go.Op.binOp Go.BinOp.eql 3 (Go.Operand.tmp 41) (Go.Operand.const (Go.Value.int Go.IntKind.i64 24)) 3, type := 4, pos := "law.go:15", after := #[{ on := 31, ground := Go.Ground.data }, { on := 29, ground := Go.Ground.guard }], guard := some (29, true) }) (v := ?_) rfl (by kernel_rfl) (by kernel_rfl) (by kernel_rfl) (fun _ _ _ h => h) (Or.inl ⟨by rfl, ?_⟩) (by assumption) ?_
  rotate_left
  · first | (intro w hSw; (try dsimp only at hSw); go_simp; done) | (intro w hSw; (try dsimp only at hSw); go_simp; with_reducible rfl)
  try simp only [Act.put, List.setIfInBounds_toArray, List.set_cons_zero, List.set_cons_succ]
  refine wpAnyH_take (i := 33) (oi := { dst := some 43, op := Go.Op.pick (Go.Operand.tmp 39) (Go.Operand.tmp 42) (Go.Operand.const (Go.Value.bool false)), type := 4, pos := "law.go:15", after := #[{ on := 29, ground := Go.Ground.data }, { on := 32, ground := Go.Ground.data }], guard := none }) (v := ?_) rfl (by kernel_rfl) (by kernel_rfl) (by kernel_rfl) (fun _ _ _ h => h) (Or.inl ⟨by rfl, ?_⟩) (by assumption) ?_
  rotate_left
  · first | (intro w hSw; (try dsimp only at hSw); go_simp; done) | (intro w hSw; (try dsimp only at hSw); go_simp; with_reducible rfl)
  try simp only [Act.put, List.setIfInBounds_toArray, List.set_cons_zero, List.set_cons_succ]
  refine wpAnyH_take (i := 34) (oi := { dst := some 0, op := Go.Op.assign (Go.Operand.tmp 43), type := 4, pos := "law.go:15", after := #[{ on := 33, ground := Go.Ground.data }, { on := 31, ground := Go.Ground.chain }, { on := 0, ground := Go.Ground.phase }, { on := 1, ground := Go.Ground.phase }, { on := 2, ground := Go.Ground.phase }, { on := 3, ground := Go.Ground.phase }, { on := 4, ground := Go.Ground.phase }, { on := 5, ground := Go.Ground.phase }, { on := 6, ground := Go.Ground.phase }, { on := 7, ground := Go.Ground.phase }, { on := 8, ground := Go.Ground.phase }, { on := 9, ground := Go.Ground.phase }, { on := 10, ground := Go.Ground.phase }, { on := 11, ground := Go.Ground.phase }, { on := 12, ground := Go.Ground.phase }, { on := 13, ground := Go.Ground.phase }, { on := 14, ground := Go.Ground.phase }, { on := 15, ground := Go.Ground.phase }, { on := 16, ground := Go.Ground.phase }, { on := 17, ground := Go.Ground.phase }, { on := 18, ground := Go.Ground.phase }, { on := 19, ground := Go.Ground.phase }, { on := 20, ground := Go.Ground.phase }, { on := 21, ground := Go.Ground.phase }, { on := 22, ground := Go.Ground.phase }, { on := 23, ground := Go.Ground.phase }, { on := 24, ground := Go.Ground.phase }, { on := 25, ground := Go.Ground.phase }, { on := 26, ground := Go.Ground.phase }, { on := 27, ground := Go.Ground.phase }, { on := 28, ground := Go.Ground.phase }, { on := 29, ground := Go.Ground.phase }, { on := 30, ground := Go.Ground.phase }, { on := 31, ground := Go.Ground.phase }, { on := 32, ground := Go.Ground.phase }, { on := 33, ground := Go.Ground.phase }], guard := none }) (v := ?_) rfl (by kernel_rfl) (by kernel_rfl) (by kernel_rfl) (fun _ _ _ h => h) (Or.inl ⟨by rfl, ?_⟩) (by assumption) ?_
  rotate_left
  · first | (intro w hSw; (try dsimp only at hSw); go_simp; done) | (intro w hSw; (try dsimp only at hSw); go_simp; with_reducible rfl)
  try simp only [Act.put, List.setIfInBounds_toArray, List.set_cons_zero, List.set_cons_succ]
  refine wpAnyH_done (by kernel_rfl) ?_ _
  have HF := Aside0.mk (below_step HW.out C9.out)
  clear hHeld a0 a1 a2 a3 a4 b0 b1 b2 b3 b4
  go_wp2
  go_ret
  exact ⟨rfl, HF.out⟩
end Go.Proofs.YtejfmghjmhiodaaGreatDoor.Vz
namespace Go.Proofs.YtejfmghjmhiodaaGreatDoor.Vz
open Go.RowKit Go.Proofs.YtejfmghjmhiodaaGreatDoorW.PrintWords
set_option linter.unusedVariables false
set_option linter.unusedSimpArgs false

section
variable {P : Program} {ops : Array Oper} {rest : List Oper} {o : Oper} {a : Act} {Q : Exit → Act → World → Prop}
/-- make([]T, m). -/
theorem make_run (W : World) {t e : TypeId} {x y : Operand} (ho : o.op = .makeSlice t x y) (m : Nat) (hx : a.eval x = .int .i64 (m : Int)) (hy : a.eval y = .int .i64 (m : Int)) (ht : P.underlying t = some (.slice e)) {z : Value} {size bytes : Nat}
    (hinfo : (P.info? e).map (fun i => (i.zero, i.size, i.bytes)) = some (some z, size, bytes)) (hm : m * bytes ≤ 281474976710656) (hb : 0 < bytes) :
    (execOp a.eval o).run P W = .ok (.value (.slice (some ⟨W.heap.size, 0, none⟩) m m)) (W.alloc (.cells (madeCells z.cells (m * size)) e)) := by
  obtain ⟨i0, hi, hzz⟩ := Option.map_eq_some_iff.1 hinfo
  simp only [Prod.mk.injEq] at hzz
  obtain ⟨hz0, hz1, hz2⟩ := hzz
  have hr := run_make (P := P) W t e i0 z ht hi hz0 .i64 .i64 (m : Int) (m : Int) (by omega) (by omega)
    (by
      have h3 : ((i0.bytes * m : Nat) : Int) ≤ 281474976710656 := by rw [hz2, Nat.mul_comm]; omega
      rwa [Int.natCast_mul] at h3) (by have := Nat.le_trans (Nat.le_mul_of_pos_right m hb) hm; omega)
  simp only [Int.toNat_natCast] at hr
  rw [hz1] at hr
  simp [execOp, ho, hx, hy, hr]
theorem make_event {W : World} (hgd : o.guard = none) {t e : TypeId} {x y : Operand} (ho : o.op = .makeSlice t x y) (m : Nat) (hx : a.eval x = .int .i64 (m : Int)) (hy : a.eval y = .int .i64 (m : Int)) (ht : P.underlying t = some (.slice e)) {z : Value} {size bytes : Nat}
    (hinfo : (P.info? e).map (fun i => (i.zero, i.size, i.bytes)) = some (some z, size, bytes)) (hm : m * bytes ≤ 281474976710656) (hb : 0 < bytes)
    (h : ∀ g, g = W.heap.size → ∀ w1, w1.heap[g]? = some (.cells (madeCells z.cells (m * size)) e (0, 0)) → Below W.heap.size W w1 → wpList P ops Q rest (a.put o.dst (.slice (some ⟨g, 0, none⟩) m m)) w1) : wpList P ops Q (o :: rest) a W :=
  Kd.event_run hgd (make_run W ho m hx hy ht hinfo hm hb) (h _ rfl _ (blk_new W _) (below_alloc (Below.refl _ _) _))
def zerosB (m : Nat) : ByteArray := ⟨(List.replicate m (0 : UInt8)).toArray⟩
theorem zerosB_size (m : Nat) : (zerosB m).size = m := by simp [zerosB, ByteArray.size]
/-- string(make([]byte, m)). -/
theorem zeros_run {W : World} {t u e : TypeId} {x : Operand} (ho : o.op = .convert t u x) {g m c : Nat} (hx : a.eval x = .slice (some ⟨g, 0, none⟩) m c) (ht : P.underlying t = some (.slice e)) (he : P.underlying e = some (.int .u8)) (hu : P.underlying u = some .string)
    (hk : W.heap[g]? = some (.cells (madeCells (Value.int .u8 0).cells (m * 1)) e (0, 0))) : (execOp a.eval o).run P W = .ok (.value (.string (zerosB m))) W := by
  have hr := run_convert_bytes_back (P := P) W t u e ⟨g, 0, none⟩ c (List.replicate m 0) ht he hu (fun j hj => by
    have hj' : j < m := by simpa using hj
    rw [Addr.add_lit, blk_cell hk]
    simp [madeCells, hj', Value.cells, Nat.mod_one])
  rw [List.length_replicate] at hr
  simp [execOp, ho, hx, hr, zerosB]
theorem zeros_event {W : World} (hgd : o.guard = none) {t u e : TypeId} {x : Operand} (ho : o.op = .convert t u x) {g m c : Nat} (hx : a.eval x = .slice (some ⟨g, 0, none⟩) m c) (ht : P.underlying t = some (.slice e)) (he : P.underlying e = some (.int .u8)) (hu : P.underlying u = some .string)
    (hk : W.heap[g]? = some (.cells (madeCells (Value.int .u8 0).cells (m * 1)) e (0, 0)))
    (h : wpList P ops Q rest (a.put o.dst (.string (zerosB m))) W) : wpList P ops Q (o :: rest) a W :=
  Kd.event_run hgd (zeros_run ho hx ht he hu hk) h
end
section
variable {P : Program} {ops : Array Oper} {o : Oper} {a : Act} {Q : Exit → Act → World → Prop} {K : Act → World → Prop}
theorem stepH_make {W : World} (hw : Region.wanted o (yielded ops a.tmps) = true) {t e : TypeId} {x y : Operand} (ho : o.op = .makeSlice t x y) (m : Nat) (hx : a.eval x = .int .i64 (m : Int)) (hy : a.eval y = .int .i64 (m : Int)) (ht : P.underlying t = some (.slice e)) {z : Value} {size bytes : Nat}
    (hinfo : (P.info? e).map (fun i => (i.zero, i.size, i.bytes)) = some (some z, size, bytes)) (hm : m * bytes ≤ 281474976710656) (hb : 0 < bytes)
    (h : ∀ g, g = W.heap.size → ∀ w1, w1.heap[g]? = some (.cells (madeCells z.cells (m * size)) e (0, 0)) → Below W.heap.size W w1 → K (a.put o.dst (.slice (some ⟨g, 0, none⟩) m m)) w1) :
    if Region.wanted o (yielded ops a.tmps) = true then Oper.wp P o a W K Q else K (a.put o.dst undef) W := by
  rw [if_pos hw]
  unfold Oper.wp
  rw [make_run W ho m hx hy ht hinfo hm hb]
  exact h _ rfl _ (blk_new W _) (below_alloc (Below.refl _ _) _)
theorem stepH_zeros {W : World} (hw : Region.wanted o (yielded ops a.tmps) = true) {t u e : TypeId} {x : Operand} (ho : o.op = .convert t u x) {g m c : Nat} (hx : a.eval x = .slice (some ⟨g, 0, none⟩) m c) (ht : P.underlying t = some (.slice e)) (he : P.underlying e = some (.int .u8)) (hu : P.underlying u = some .string)
    (hk : W.heap[g]? = some (.cells (madeCells (Value.int .u8 0).cells (m * 1)) e (0, 0))) (h : K (a.put o.dst (.string (zerosB m))) W) :
    if Region.wanted o (yielded ops a.tmps) = true then Oper.wp P o a W K Q else K (a.put o.dst undef) W := by
  rw [if_pos hw]
  unfold Oper.wp
  rw [zeros_run ho hx ht he hu hk]
  exact h
end
theorem strange_text (s : ByteArray) : strangeV (.mk 3 0 0 s []) = false := by simp [strangeV, kindV]
theorem check_text (s : ByteArray) (dd : Nat) (hs : s.size = 254 + dd) (h : dd < 5) : checkV (.mk 3 0 0 s []) = if dd ≤ 2 then 0 else 22 := by
  unfold checkV
  rw [strange_text, greatV, sizeV]
  simp only [if_true, Bool.false_eq_true, if_false, decide_eq_true_eq]
  have e3 : ¬ (3 : Int) = 1 := by decide
  have e4 : ¬ (3 : Int) = 2 := by decide
  rw [if_neg e3, if_neg e4]
  by_cases h2 : dd ≤ 2
  · rw [if_pos h2, if_neg (by omega), if_neg (by omega)]
  · rw [if_neg h2, if_pos (by omega)]
def nilV : Val := .mk 0 0 0 ⟨#[]⟩ []
theorem stranges_rep (x : Val) (hx : strangeV x = false) (r : List Val) : ∀ n, stranges (List.replicate n x ++ r) = stranges r
  | 0 => rfl
  | n + 1 => by rw [List.replicate_succ, List.cons_append, stranges, hx]; simpa using stranges_rep x hx r n
theorem greats_rep (x : Val) (m : Int) (hx : greatV x m = false) (r : List Val) : ∀ n, greats (List.replicate n x ++ r) m = greats r m
  | 0 => rfl
  | n + 1 => by rw [List.replicate_succ, List.cons_append, greats, hx]; simpa using greats_rep x m hx r n
theorem sizes_rep (x : Val) (k : Nat) (hx : sizeV x = k) (r : List Val) : ∀ (n : Nat) (z : Int), 0 ≤ z → z + n * k < 1000000 → k < 1000 → n < 1000 → sizes z (List.replicate n x ++ r) = sizes (z + n * k) r
  | 0, z, _, _, _, _ => by simp
  | n + 1, z, h0, h1, h2, h3 => by
    have e : ((n + 1 : Nat) : Int) * (k : Int) = n * k + k := by rw [Int.natCast_add, Int.add_mul]; simp
    have hk0 : (0 : Int) ≤ (n : Int) * (k : Int) := Int.mul_nonneg (by omega) (by omega)
    rw [List.replicate_succ, List.cons_append, sizes_cons, hx, show wrap64 (z + (k : Int)) = z + k by unfold wrap64; omega, sizes_rep x k hx r n (z + k) (by omega) (by rw [e] at h1; omega) h2 (by omega), e]
    congr 1
    omega
theorem check_items (dd : Nat) (h : dd < 5) : checkV (.mk 4 0 0 ⟨#[]⟩ (List.replicate (62 + dd) nilV)) = if dd ≤ 2 then 0 else 22 := by
  have hs := stranges_rep nilV (by decide +kernel) [] (62 + dd)
  have hg := greats_rep nilV 7 (by decide +kernel) [] (62 + dd)
  have hz := sizes_rep nilV 1 (by decide +kernel) [] (62 + dd) 2 (by omega) (by omega) (by omega) (by omega)
  rw [List.append_nil] at hs hg hz
  have e1 : strangeV (.mk 4 0 0 ⟨#[]⟩ (List.replicate (62 + dd) nilV)) = false := by
    rw [strangeV, hs]; simp [kindV, stranges]
  have e2 : greatV (.mk 4 0 0 ⟨#[]⟩ (List.replicate (62 + dd) nilV)) 8 = decide (2 < dd) := by
    rw [greatV, show wrap64 ((8 : Int) - 1) = 7 by (unfold wrap64; omega), hg]
    simp [greats]
    omega
  have e3 : sizeV (.mk 4 0 0 ⟨#[]⟩ (List.replicate (62 + dd) nilV)) = 64 + dd := by
    rw [sizeV, hz, sizes_nil]
    simp
    omega
  unfold checkV
  rw [e1, e2, e3]
  by_cases h2 : dd ≤ 2
  · simp [h2, show ¬ 2 < dd by omega]; omega
  · simp [h2, show 2 < dd by omega]
theorem items_RV {W : World} {g m : Nat} (hm : m ≤ 1000) (hk : W.heap[g]? = some (.cells (madeCells (Value.agg #[.int .i64 0, .int .i64 0, .float .f64 0, .string ⟨#[]⟩, .slice none 0 0]).cells (m * 5)) 25 (0, 0))) : RV W (fun _ => True) (.mk 4 0 0 ⟨#[]⟩ (List.replicate m nilV)) #[.int .i64 4, .int .i64 0, .float .f64 0, .string ⟨#[]⟩, .slice (some ⟨g, 0, none⟩) m m] := by
  have hx := RV.mk (W := W) (ok := fun _ => True) 4 0 0 ⟨#[]⟩ (List.replicate m nilV) (some ⟨g, 0, none⟩) m g 0 (fun _ => #[.int .i64 0, .int .i64 0, .float .f64 0, .string ⟨#[]⟩, .slice none 0 0]) (by decide) (by decide) (by decide) (by decide) (by simp) (by simp; omega) (fun _ => ⟨rfl, trivial⟩) (fun j hj q hq => ?_) (fun j hj => ?_)
  · simpa using hx
  · have hj' : j < m := by simpa using hj
    rw [blk_cell hk, show 0 + j * 5 + q = j * 5 + q by omega]
    have hlt : j * 5 + q < m * 5 := by omega
    have hmod : (j * 5 + q) % 5 = q := by omega
    simp only [madeCells, Value.cells]
    rw [Array.getElem?_map, Array.getElem?_range, if_pos hlt]
    simp [hlt, hmod]
    match q, hq with
    | 0, _ => rfl
    | 1, _ => rfl
    | 2, _ => rfl
    | 3, _ => rfl
    | 4, _ => rfl
  · rw [List.getElem_replicate]
    exact RV.flat (by decide) (by decide) (by decide) (by decide)
def nestV : Nat → Val
  | 0 => nilV
  | n + 1 => .mk 4 0 0 ⟨#[]⟩ [nestV n]
theorem check_nest (dd : Nat) (h : dd < 5) : checkV (nestV (6 + dd)) = if dd ≤ 2 then 0 else 22 := by
  match dd, h with
  | 0, _ => decide +kernel
  | 1, _ => decide +kernel
  | 2, _ => decide +kernel
  | 3, _ => decide +kernel
  | 4, _ => decide +kernel
def textV (s : ByteArray) : Val := .mk 3 0 0 s []
theorem check_sum (x y : ByteArray) (dd : Nat) (h : dd < 5) (hx : x.size = 251) (hy : y.size = 25 + dd) : checkV (.mk 4 0 0 ⟨#[]⟩ (List.replicate 16 (textV x) ++ [textV y])) = if dd ≤ 2 then 0 else 22 := by
  have sx : sizeV (textV x) = ((254 : Nat) : Int) := by simp [textV, sizeV, hx]
  have sy : sizeV (textV y) = 28 + dd := by simp [textV, sizeV, hy]; omega
  have gx : greatV (textV x) 7 = false := by simp [textV, greatV, hx]
  have gy : greatV (textV y) 7 = false := by simp [textV, greatV, hy]; omega
  have hs := stranges_rep (textV x) (strange_text x) [textV y] 16
  have hg := greats_rep (textV x) 7 gx [textV y] 16
  have hz := sizes_rep (textV x) 254 sx [textV y] 16 2 (by omega) (by omega) (by omega) (by omega)
  have e1 : strangeV (.mk 4 0 0 ⟨#[]⟩ (List.replicate 16 (textV x) ++ [textV y])) = false := by
    rw [strangeV, hs]; simp [kindV, stranges, show strangeV (textV y) = false from strange_text y]
  have e2 : greatV (.mk 4 0 0 ⟨#[]⟩ (List.replicate 16 (textV x) ++ [textV y])) 8 = false := by
    rw [greatV, show wrap64 ((8 : Int) - 1) = 7 by (unfold wrap64; omega), hg]
    simp [greats, gy]
  have e3 : sizeV (.mk 4 0 0 ⟨#[]⟩ (List.replicate 16 (textV x) ++ [textV y])) = 4094 + dd := by
    rw [sizeV, hz, sizes_cons, sizes_nil, sy]
    simp
    unfold wrap64
    omega
  unfold checkV
  rw [e1, e2, e3]
  by_cases h2 : dd ≤ 2
  · simp [h2]; omega
  · simp [h2]; omega
end Go.Proofs.YtejfmghjmhiodaaGreatDoor.Vz
namespace Go.Proofs.YtejfmghjmhiodaaGreatDoor.Vz
open Go.RowKit Go.Proofs.YtejfmghjmhiodaaGreatDoorW.PrintWords Go.Proofs.YtejfmghjmhiodaaGreatDoorW.PrintLast
set_option linter.unusedVariables false
set_option linter.unusedSimpArgs false
attribute [local go_sem] store_float

section
variable {P : Program} {ops : Array Oper} {o : Oper} {a : Act} {Q : Exit → Act → World → Prop} {K : Act → World → Prop}
/-- A store of one cell. -/
theorem stepH_put1 {W : World} (hw : Region.wanted o (yielded ops a.tmps) = true) {t : TypeId} {p : Tmp} {v : Operand} (ho : o.op = .store t (.tmp p) v) (hN : o.dst = none) {g off : Nat} {u : Value} {cur : Array Value} {e : TypeId}
    (hp : a.eval (.tmp p) = .pointer (some ⟨g, off, none⟩)) (hv : a.eval v = u) (hb : W.heap[g]? = some (.cells cur e (0, 0))) (hs : off < cur.size) (hi : (P.info? t).map (·.size) = some 1) (h1 : u.oneCell' = true) (hc : u.cells = #[u])
    (h : ∀ w1, w1.heap[g]? = some (.cells (cur.setIfInBounds off u) e (0, 0)) → Save (fun k => k = g) W w1 → K a w1) :
    if Region.wanted o (yielded ops a.tmps) = true then Oper.wp P o a W K Q else K (a.put o.dst undef) W := by
  have hr := run_store_run (P := P) (o := off) t u [u] hb (by rw [hc]) (by rw [hi]; simp) (by simp; omega) (by simpa using h1)
  have hx : (execOp a.eval o).run P W = .ok .skip (W.setCell ⟨g, off, none⟩ u) := by
    simp [execOp, ho, hp, hv, hr, World.setCells]
  rw [if_pos hw]
  unfold Oper.wp
  rw [hx]
  show K (a.put o.dst undef) _
  rw [hN]
  exact h _ (blk_set hb off u) ⟨rfl, rfl, rfl, by simp [World.setCell], fun k _ hk => Below.heap_setCell _ _ _ _ hk⟩
end

theorem own_cell' {w : World} {base e size : Nat} {v : Value} {n : Nat} {xs : List Value} (h : w.ownsRow base e size v n xs) : v.oneCell' = true ∧ v.cells = #[v] := by
  rcases h.2 with ⟨hv, _⟩ | ⟨g, cap, cur, hv, _⟩ <;> subst hv <;> exact ⟨rfl, rfl⟩
/-- A list of one. -/
theorem one_RV' {W' : World} {ok : Nat → Prop} {v : Val} {k' i' : Int} {f' : Nat} {s' : ByteArray} {A' : Option Addr} {n' c' gl : Nat} (h : RV W' ok v #[.int .i64 k', .int .i64 i', .float .f64 f', .string s', .slice A' n' c']) (hg : ok gl) (K : W'.heap[gl]? = some (.cells #[.int .i64 k', .int .i64 i', .float .f64 f', .string s', .slice A' n' c'] 25 (0, 0))) :
    RV W' ok (.mk 4 0 0 ⟨#[]⟩ [v]) #[.int .i64 4, .int .i64 0, .float .f64 0, .string ⟨#[]⟩, .slice (some ⟨gl, 0, none⟩) 1 1] := by
  refine RV.mk 4 0 0 ⟨#[]⟩ [v] (some ⟨gl, 0, none⟩) 1 gl 0 (fun _ => #[.int .i64 k', .int .i64 i', .float .f64 f', .string s', .slice A' n' c']) (by decide) (by decide) (by decide) (by decide) (by simp) (by simp) (fun _ => ⟨rfl, hg⟩) (fun j hj q hq => ?_) (fun j hj => ?_)
  · have hj0 : j = 0 := by simpa using hj
    subst hj0
    rw [blk_cell K]
    simp
  · have hj0 : j = 0 := by simpa using hj
    subst hj0
    exact h
def cellsT (s : ByteArray) : Array Value := #[.int .i64 3, .int .i64 0, .float .f64 0, .string s, .slice none 0 0]
/-- A list of texts under way. -/
structure Sm (W : World) (B g6 : Nat) (ss : List ByteArray) (j : Nat) (v : Value) (wr : World) : Prop where
  k : wr.heap[g6]? = some (.cells #[.int .i64 4, .int .i64 0, .float .f64 0, .string ⟨#[]⟩, v] 25 (0, 0))
  o : wr.ownsRow B 25 5 v j (rows (ss.map cellsT))
  b : Below W.heap.size W wr
  h : B ≤ wr.heap.size
theorem Sm.step {W : World} {B g6 : Nat} {ss : List ByteArray} {j : Nat} {v : Value} {w w' : World} (h : Sm W B g6 ss j v w) (hb : Below w.heap.size w w') : Sm W B g6 ss j v w' :=
  ⟨blk_below h.k hb, own_save h.o (Save.of (S := fun _ => False) hb) (fun _ _ x => x.elim), below_step h.b hb, Nat.le_trans h.h hb.size⟩
theorem Sm.snoc {W : World} {B g6 : Nat} {ss : List ByteArray} {j : Nat} {v v1 : Value} {w w1 : World} (h : Sm W B g6 ss j v w) (hB : g6 < B) (hWB : W.heap.size ≤ B) (s : ByteArray) (hown : w1.ownsRow B 25 5 v1 (j + 1) (rows (ss.map cellsT) ++ (cellsT s).toList)) (hg : w.grownBy w1 v.ownBlock) :
    w1.heap[g6]? = some (.cells #[.int .i64 4, .int .i64 0, .float .f64 0, .string ⟨#[]⟩, v] 25 (0, 0)) ∧ w1.ownsRow B 25 5 v1 (j + 1) (rows ((ss ++ [s]).map cellsT)) ∧ Below W.heap.size W w1 ∧ B ≤ w1.heap.size := by
  refine ⟨(hg.block g6 (blk_lt h.k) (fun e => by have := (own_under h.o g6 e.symm).1; omega)).trans h.k, by rw [List.map_append, List.map_cons, List.map_nil, rows_snoc]; exact hown, pw_below_grown h.b v.ownBlock h.b.size hg (fun q hq => by have := (own_under h.o q hq).1; omega), Nat.le_trans h.h hg.size⟩
theorem Sm.put {W : World} {B g6 : Nat} {ss : List ByteArray} {j : Nat} {v v1 : Value} {w w1 : World} (h : w.heap[g6]? = some (.cells #[.int .i64 4, .int .i64 0, .float .f64 0, .string ⟨#[]⟩, v] 25 (0, 0)) ∧ w.ownsRow B 25 5 v1 j (rows (ss.map cellsT)) ∧ Below W.heap.size W w ∧ B ≤ w.heap.size) (hB : g6 < B) (hW : W.heap.size ≤ g6)
    (hk : w1.heap[g6]? = some (.cells #[.int .i64 4, .int .i64 0, .float .f64 0, .string ⟨#[]⟩, v1] 25 (0, 0))) (hs : Save (fun k => k = g6) w w1) : Sm W B g6 ss j v1 w1 :=
  ⟨hk, own_save h.2.1 hs (fun q hq e => by have := (own_under h.2.1 q hq).1; omega), below_keep h.2.2.1 hW hs, Nat.le_trans h.2.2.2 hs.size⟩
theorem Sm.rv {W : World} {B g6 : Nat} {ss : List ByteArray} {j : Nat} {v : Value} {w : World} (h : Sm W B g6 ss j v w) (hj : ss.length = j) (hs : ∀ s ∈ ss, s.size ≤ 1000) (hl : j ≤ 1000) : ∃ A c, v = .slice A j c ∧ RV w (fun _ => True) (.mk 4 0 0 ⟨#[]⟩ (ss.map textV)) #[.int .i64 4, .int .i64 0, .float .f64 0, .string ⟨#[]⟩, .slice A j c] := by
  subst hj
  have ho := h.o
  have := RV.ofRow (w1 := w) (base := B) (ok := fun _ => True) (l := ss.map textV) (v := v) (css := ss.map cellsT) (by simp) (by simpa using ho) (fun j h1 h2 => by
    simp only [List.getElem_map]
    have hj' : j < ss.length := by simpa using h1
    exact RV.flat (by decide) (by decide) (by decide) (by have := hs _ (List.getElem_mem hj'); omega)) (fun _ _ _ => trivial) (by simp; omega)
  simpa using this
/-- What the switch leaves: a value in its variable, of which Check says what it must. -/
def Made (W : World) (g6 dd : Nat) (wx : World) : Prop := ∃ (v : Val) (cs : Array Value), wx.heap[g6]? = some (.cells cs 25 (0, 0)) ∧ RV wx (fun _ => True) v cs ∧ checkV v = (if dd ≤ 2 then 0 else 22) ∧ Below W.heap.size W wx

set_option maxHeartbeats 8000000 in
set_option maxRecDepth 100000 in
theorem limits5 (hS : CompareC) (W : World) (T : Tabs3 W) (p q : Int) (hp : 0 ≤ p) (hp2 : p < 256) (hq : 0 ≤ q) (hq2 : q < 256) :
    Calls Tryz.prog 5 #[.int .u8 p, .int .u8 q] W fun e w' => e = .returned (.bool true) ∧ Below W.heap.size W w' := by
  obtain ⟨dd, hdd, hd5⟩ : ∃ dd : Nat, q % 5 = (dd : Int) ∧ dd < 5 := ⟨(q % 5).toNat, by omega, by omega⟩
  obtain ⟨qq, hqq, hq4⟩ : ∃ qq : Nat, p % 4 = (qq : Int) ∧ qq < 4 := ⟨(p % 4).toNat, by omega, by omega⟩
  have HT := Aside0.mk T
  have HS := Aside0.mk hS
  clear T hS
  have hd5' : (dd : Int) < 5 := by omega
  have hq4' : (qq : Int) < 4 := by omega
  go_enter Tryz.func5, Tryz.ntmps5
  go_upto_block 0 with (first
    | (go_at_call 9; refine (known9 HS.out _ HT.out).mono ?_; rintro e w2 ⟨rfl, hb⟩; have HB := Aside0.mk hb; clear hb)
    | ((with_reducible refine gate_dst (N := 6) rfl ?_); refine box_event ?hg (N := 6) ?hd (cs := #[.int .i64 0, .int .i64 0, .float .f64 0, .string ⟨#[]⟩, .slice none 0 0]) (t := 25) ?hr ?_; (case hd => rfl); (case hg => rfl); (case hr => first | (go_simp; done) | (go_simp; rfl)); intro g6 hg w3 hbox hb; have HG6 := Aside0.mk (show W.heap.size ≤ g6 by (have := HB.out.size; omega)); have HB := Aside0.mk (below_step HB.out hb); have K6 := Aside0.mk hbox; clear hg hbox hb))
  have HD5 := Aside0.mk hd5
  clear hd5
  go_cut [6, 17] (fun p6 _ wx => p6 = .pointer (some ⟨g6, 0, none⟩) ∧ Made W g6 dd wx)
  case first =>
    have hc : qq = 0 ∨ qq = 1 ∨ qq = 2 ∨ qq = 3 := by omega
    rcases hc with rfl | rfl | rfl | rfl
    · obtain ⟨m, hm⟩ : ∃ m, 254 + dd = m := ⟨_, rfl⟩
      have HM := Aside0.mk hm
      have hsum : (256 : Int) + ((dd : Int) - 2) = (m : Int) := by omega
      have hml : m < 1000 := by have := HD5.out; omega
      clear hm
      go_wp2_with (first
        | ((with_reducible refine gate_dst (N := 45) rfl ?_); refine make_event rfl rfl m ?hx ?hy Tryz.underlying36 info5 (by omega) (by decide) ?_; (case hx => first | rfl | (go_simp; done) | (go_simp; rfl)); (case hy => first | rfl | (go_simp; done) | (go_simp; rfl)); intro gm hg w4 hbox hb; have KM := Aside0.mk hbox; have K6 := Aside0.mk (blk_below K6.out hb); have HB := Aside0.mk (below_step HB.out hb); clear hg hbox hb)
        | ((with_reducible refine gate_dst (N := 46) rfl ?_); refine zeros_event rfl rfl rfl Tryz.underlying36 Tryz.underlying5 Tryz.underlying9 KM.out ?_)
        | (go_at_call 15; (with_reducible refine (text32 (zerosB m) _).mono ?_); rintro e w5 ⟨rfl, hb⟩; have K6 := Aside0.mk (blk_below K6.out hb); have HB := Aside0.mk (below_step HB.out hb); clear hb)
        | ((with_reducible refine gate_store (t := 25) (p := 6) rfl ?_); refine put_eventU ?hg (t := 25) (p := 6) (v := .tmp 47) ?ho ?hN (g := g6) (u := .agg #[.int .i64 3, .int .i64 0, .float .f64 0, .string (zerosB m), .slice none 0 0]) (cs := #[.int .i64 3, .int .i64 0, .float .f64 0, .string (zerosB m), .slice none 0 0]) ?hp ?hv K6.out ?hs ?hi ?h1 ?hc ?_; (case hs => rfl); (case hi => kernel_rfl); (case h1 => simp [Value.oneCell']); (case hc => simp [Value.cells]); (case hg => rfl); (case ho => rfl); (case hN => rfl); (case hp => rfl); (case hv => rfl); intro w6 hk hs; have HB := Aside0.mk (below_keep HB.out HG6.out hs); have K6 := Aside0.mk hk; clear hk hs))
      go_meet
      case rel => exact ⟨rfl, .mk 3 0 0 (zerosB m) [], _, K6.out, RV.flat (by decide) (by decide) (by decide) (by rw [zerosB_size]; omega), check_text _ dd (by rw [zerosB_size]; exact HM.out.symm) HD5.out, HB.out⟩
    · obtain ⟨m, hm⟩ : ∃ m, 62 + dd = m := ⟨_, rfl⟩
      have HM := Aside0.mk hm
      have hsum : (64 : Int) + ((dd : Int) - 2) = (m : Int) := by omega
      have hml : m < 1000 := by have := HD5.out; omega
      clear hm
      go_wp2_with (first
        | ((with_reducible refine gate_dst (N := 52) rfl ?_); refine make_event rfl rfl m ?hx ?hy Tryz.underlying23 info25 (by omega) (by decide) ?_; (case hx => first | rfl | (go_simp; done) | (go_simp; rfl)); (case hy => first | rfl | (go_simp; done) | (go_simp; rfl)); intro gm hg w4 hbox hb; have GM := Aside0.mk (show g6 ≠ gm by (have := blk_lt K6.out; omega)); have KM := Aside0.mk hbox; have K6 := Aside0.mk (blk_below K6.out hb); have HB := Aside0.mk (below_step HB.out hb); clear hg hbox hb)
        | ((with_reducible refine gate_store (t := 25) (p := 6) rfl ?_); refine put_eventU ?hg (t := 25) (p := 6) (v := .tmp 53) ?ho ?hN (g := g6) (u := .agg #[.int .i64 4, .int .i64 0, .float .f64 0, .string ⟨#[]⟩, .slice (some ⟨gm, 0, none⟩) m m]) (cs := #[.int .i64 4, .int .i64 0, .float .f64 0, .string ⟨#[]⟩, .slice (some ⟨gm, 0, none⟩) m m]) ?hp ?hv K6.out ?hs ?hi ?h1 ?hc ?_; (case hs => rfl); (case hi => kernel_rfl); (case h1 => simp [Value.oneCell']); (case hc => simp [Value.cells]); (case hg => rfl); (case ho => rfl); (case hN => rfl); (case hp => rfl); (case hv => rfl); intro w6 hk hs; have HB := Aside0.mk (below_keep HB.out HG6.out hs); have KM := Aside0.mk (hs.blk KM.out (fun e => GM.out e.symm)); have K6 := Aside0.mk hk; clear hk hs))
      go_meet
      case rel => exact ⟨rfl, .mk 4 0 0 ⟨#[]⟩ (List.replicate m nilV), _, K6.out, items_RV (by omega) KM.out, by rw [← HM.out]; exact check_items dd HD5.out, HB.out⟩
    · obtain ⟨m, hm⟩ : ∃ m, 6 + dd = m := ⟨_, rfl⟩
      have HM := Aside0.mk hm
      have hsum : (8 : Int) + ((dd : Int) - 2) = (m : Int) := by omega
      have hml : (m : Int) < 1000 := by have := HD5.out; omega
      clear hm
      go_wp2
      clear hqq
      go_loopw [7] (fun ix wr => ∃ j : Nat, j ≤ m ∧ ix = .int .i64 (j : Int) ∧ Aside0 (∃ cs, wr.heap[g6]? = some (.cells cs 25 (0, 0)) ∧ RV wr (fun g => True ∧ g ≠ g6) (nestV j) cs ∧ Below W.heap.size W wr)) (fun ix _ => m - (intOf ix).toNat)
      case atStart => exact ⟨0, by omega, rfl, Aside0.mk ⟨_, K6.out, RV.flat (by decide) (by decide) (by decide) (by decide), HB.out⟩⟩
      case round =>
        obtain ⟨j, hj, rfl, HH⟩ := hrel
        obtain ⟨cs, hk, hrv, hbw⟩ := HH.out
        obtain ⟨k', i', f', s', A', n', c', rfl⟩ := hrv.form
        have K6 := Aside0.mk hk
        have HR := Aside0.mk hrv
        have HB := Aside0.mk hbw
        clear hk hrv hbw HH
        have hj0 : (0 : Int) ≤ (j : Int) := by omega
        by_cases hlt : j < m
        · have hji : (j : Int) < (m : Int) := by omega
          have hwk : IntKind.i64.wrap ((j : Int) + 1) = ((j + 1 : Nat) : Int) := by rw [IntKind.wrap_i64]; omega
          have p0 : wr.cell? ⟨g6, 0, none⟩ = some (.int .i64 k') := blk_cell K6.out 0
          have p1 : wr.cell? ⟨g6, 1, none⟩ = some (.int .i64 i') := blk_cell K6.out 1
          have p2 : wr.cell? ⟨g6, 2, none⟩ = some (.float .f64 f') := blk_cell K6.out 2
          have p3 : wr.cell? ⟨g6, 3, none⟩ = some (.string s') := blk_cell K6.out 3
          have p4 : wr.cell? ⟨g6, 4, none⟩ = some (.slice A' n' c') := blk_cell K6.out 4
          go_wp2_with (first
            | (go_at_call 16; refine (list16 _ _ _ _).mono ?_; rintro e w6 ⟨rfl, hb⟩; have hb2 := below_step (below_alloc (Below.refl _ wr) (.cells #[.int .i64 k', .int .i64 i', .float .f64 f', .string s', .slice A' n' c'] 25)) hb; have hnw := blk_below (blk_new wr (.cells #[.int .i64 k', .int .i64 i', .float .f64 f', .string s', .slice A' n' c'] 25)) hb; have HGN := Aside0.mk (show g6 ≠ wr.heap.size by (have := blk_lt K6.out; omega)); have K6 := Aside0.mk (blk_below K6.out hb2); have HR := Aside0.mk (HR.out.kept hb2); have HB := Aside0.mk (below_step HB.out hb2); have GL := Aside0.mk hnw; clear hb hb2 hnw; generalize wr.heap.size = gl at GL HGN ⊢)
            | ((with_reducible refine gate_store (t := 25) (p := 6) rfl ?_); refine put_eventU ?hg (t := 25) (p := 6) (v := .tmp 64) ?ho ?hN (g := g6) (u := .agg #[.int .i64 4, .int .i64 0, .float .f64 0, .string ⟨#[]⟩, .slice (some ⟨gl, 0, none⟩) 1 1]) (cs := #[.int .i64 4, .int .i64 0, .float .f64 0, .string ⟨#[]⟩, .slice (some ⟨gl, 0, none⟩) 1 1]) ?hp ?hv K6.out ?hs ?hi ?h1 ?hc ?_; (case hs => rfl); (case hi => kernel_rfl); (case h1 => simp [Value.oneCell']); (case hc => simp [Value.cells]); (case hg => rfl); (case ho => rfl); (case hN => rfl); (case hp => rfl); (case hv => rfl); intro w7 hk hs; have HR := Aside0.mk (one_RV' (HR.out.step (ok' := fun g => True ∧ g ≠ g6) (fun g hg hl => hs.block g hl (fun e => hg.2 e)) (fun _ h _ => h)) ⟨trivial, fun e => HGN.out e.symm⟩ (hs.blk GL.out (fun e => HGN.out e.symm))); have HB := Aside0.mk (below_keep HB.out HG6.out hs); have K6 := Aside0.mk hk; clear p0 p1 p2 p3 p4; clear hk hs))
          go_roundw
          case rel => exact ⟨j + 1, by omega, by go_num, Aside0.mk ⟨_, K6.out, HR.out, HB.out⟩⟩
          case measure => simp [intOf]; omega
        · obtain rfl : j = m := by omega
          go_wp2
          go_meet
          case rel => exact ⟨rfl, _, _, K6.out, HR.out.mono (fun _ _ _ => trivial), by rw [← HM.out]; exact check_nest dd HD5.out, HB.out⟩
    · obtain ⟨m, hm⟩ : ∃ m, 25 + dd = m := ⟨_, rfl⟩
      have HM := Aside0.mk hm
      have hsum : (27 : Int) + ((dd : Int) - 2) = (m : Int) := by omega
      have hml : m < 1000 := by have := HD5.out; omega
      clear hm
      go_wp2_with (first
        | (go_at_call 16; (with_reducible refine (list16 none 0 0 _).mono ?_); rintro e w4 ⟨rfl, hb⟩; have K6 := Aside0.mk (blk_below K6.out hb); have HB := Aside0.mk (below_step HB.out hb); clear hb)
        | ((with_reducible refine gate_store (t := 25) (p := 6) rfl ?_); refine put_eventU ?hg (t := 25) (p := 6) (v := .tmp 18) ?ho ?hN (g := g6) (u := .agg #[.int .i64 4, .int .i64 0, .float .f64 0, .string ⟨#[]⟩, .slice none 0 0]) (cs := #[.int .i64 4, .int .i64 0, .float .f64 0, .string ⟨#[]⟩, .slice none 0 0]) ?hp ?hv K6.out ?hs ?hi ?h1 ?hc ?_; (case hs => rfl); (case hi => kernel_rfl); (case h1 => simp [Value.oneCell']); (case hc => simp [Value.cells]); (case hg => rfl); (case ho => rfl); (case hN => rfl); (case hp => rfl); (case hv => rfl); intro w5 hk hs; have HB := Aside0.mk (below_keep HB.out HG6.out hs); have K6 := Aside0.mk hk; clear hk hs))
      clear hqq
      have HGB := Aside0.mk (And.intro (blk_lt K6.out) HB.out.size)
      obtain ⟨B, hB⟩ : ∃ B, w5.heap.size = B := ⟨_, rfl⟩
      have HBB := Aside0.mk hB
      rw [hB] at HGB
      clear hB
      go_loopw [8] (fun ix wr => ∃ j : Nat, j ≤ 16 ∧ ix = .int .i64 (j : Int) ∧ Aside0 (∃ v, Sm W B g6 (List.replicate j (zerosB 251)) j v wr)) (fun ix _ => 16 - (intOf ix).toNat)
      case atStart => exact ⟨0, by omega, rfl, Aside0.mk ⟨.slice none 0 0, K6.out, ⟨rfl, .inl ⟨rfl, rfl⟩⟩, HB.out, by rw [HBB.out]; exact Nat.le_refl _⟩⟩
      case round =>
        obtain ⟨j, hj, rfl, HH⟩ := hrel
        obtain ⟨v, hsm⟩ := HH.out
        have HSm := Aside0.mk hsm
        clear hsm HH
        have hj0 : (0 : Int) ≤ (j : Int) := by omega
        by_cases hlt : j < 16
        · have hji : (j : Int) < 16 := by omega
          have hwk : IntKind.i64.wrap ((j : Int) + 1) = ((j + 1 : Nat) : Int) := by rw [IntKind.wrap_i64]; omega
          go_upto_region 10 with (fail)
          refine wp_region_last_drew (S := fun w' => w'.cell? ⟨g6, 4, none⟩ = some v) (ds := [8]) (by kernel_rfl) ?hS0 (fun hHeld => ?_)
          case hS0 => exact blk_cell (show wr.drew.heap[g6]? = _ from HSm.out.k) 4
          have HSm := Aside0.mk (show Sm W B g6 (List.replicate j (zerosB 251)) j v wr.drew from HSm.out.step (Below.refl _ _).drew)
          generalize wr.drew = wd at hHeld HSm ⊢
          refine wpAnyLast_take (i := 0) (oi := { dst := some 23, op := Go.Op.fieldAddr 25 (Go.Operand.tmp 6) 4, type := 0, pos := "law.go:102", after := #[], guard := none }) (v := ?_) rfl (by kernel_rfl) (by kernel_rfl) (by kernel_rfl) (by kernel_rfl) (by kernel_rfl) (fun _ _ _ h => h) (Or.inl ⟨by rfl, ?_⟩) hHeld ?_
          rotate_left
          · first | (intro w hSw; (try dsimp only at hSw); (try go_split_ands); go_simp; done) | (intro w hSw; (try dsimp only at hSw); (try go_split_ands); go_simp; with_reducible rfl)
          try simp only [Act.put, List.setIfInBounds_toArray, List.set_cons_zero, List.set_cons_succ]
          refine wpAnyLast_take (i := 1) (oi := { dst := some 24, op := Go.Op.load 23 (Go.Operand.tmp 23), type := 23, pos := "law.go:102", after := #[{ on := 0, ground := Go.Ground.data }], guard := none }) (v := ?_) rfl (by kernel_rfl) (by kernel_rfl) (by kernel_rfl) (by kernel_rfl) (by kernel_rfl) (fun _ _ _ h => h) (Or.inl ⟨by rfl, ?_⟩) hHeld ?_
          rotate_left
          · first | (intro w hSw; (try dsimp only at hSw); (try go_split_ands); go_simp; done) | (intro w hSw; (try dsimp only at hSw); (try go_split_ands); go_simp; with_reducible rfl)
          try simp only [Act.put, List.setIfInBounds_toArray, List.set_cons_zero, List.set_cons_succ]
          refine wpAnyLast_ready (rs := [2]) (by kernel_rfl) (by simp) ?_
          refine AllReadyL.cons (o := { dst := some 25, op := Go.Op.makeSlice 36 (Go.Operand.const (Go.Value.int Go.IntKind.i64 251)) (Go.Operand.const (Go.Value.int Go.IntKind.i64 251)), type := 36, pos := "law.go:102", after := #[], guard := none }) rfl (by decide) (fun K hK => ?_) AllReadyL.nil
          refine stepH_make (by rfl) rfl 251 rfl rfl Tryz.underlying36 info5 (by omega) (by decide) ?_
          intro gm hgm w103 hbox hb
          have HSm := Aside0.mk (HSm.out.step hb)
          have KM := Aside0.mk hbox
          clear hgm hbox hb
          refine hK.out _ _ (blk_cell HSm.out.k 4) (fun hHeld => ?_)
          clear hK K
          try simp only [Act.put, List.setIfInBounds_toArray, List.set_cons_zero, List.set_cons_succ]
          refine wpAnyLast_ready (rs := [3]) (by kernel_rfl) (by simp) ?_
          refine AllReadyL.cons (o := { dst := some 26, op := Go.Op.convert 36 9 (Go.Operand.tmp 25), type := 9, pos := "law.go:102", after := #[{ on := 2, ground := Go.Ground.data }], guard := none }) rfl (by decide) (fun K hK => ?_) AllReadyL.nil
          refine stepH_zeros (by rfl) rfl rfl Tryz.underlying36 Tryz.underlying5 Tryz.underlying9 KM.out ?_
          refine hK.out _ _ (blk_cell HSm.out.k 4) (fun hHeld => ?_)
          clear hK K
          try simp only [Act.put, List.setIfInBounds_toArray, List.set_cons_zero, List.set_cons_succ]
          refine wpAnyLast_ready (rs := [4]) (by kernel_rfl) (by simp) ?_
          refine AllReadyL.cons (o := { dst := some 27, op := Go.Op.call { callee := Go.Callee.value (Go.Operand.func 15), args := #[Go.Operand.tmp 26], argTypes := #[9] }, type := 25, pos := "law.go:102", after := #[{ on := 3, ground := Go.Ground.data }], guard := none }) rfl (by decide) (fun K hK => ?_) AllReadyL.nil
          go_simp
          (with_reducible refine (text32 (zerosB 251) _).mono ?_)
          rintro e w105 ⟨rfl, hb⟩
          have HSm := Aside0.mk (HSm.out.step hb)
          clear hb
          refine hK.out _ _ (blk_cell HSm.out.k 4) (fun hHeld => ?_)
          clear hK K
          try simp only [Act.put, List.setIfInBounds_toArray, List.set_cons_zero, List.set_cons_succ]
          refine wpAnyLast_ready (rs := [5]) (by kernel_rfl) (by simp) ?_
          refine AllReadyL.cons (o := { dst := some 28, op := Go.Op.buildSlice 23 1 #[(0, Go.Operand.tmp 27)], type := 23, pos := "law.go:102", after := #[{ on := 4, ground := Go.Ground.data }], guard := none }) rfl (by decide) (fun K hK => ?_) AllReadyL.nil
          go_simp
          have HSa := Aside0.mk (HSm.out.step (below_alloc (Below.refl _ w105) (.cells #[.int .i64 3, .int .i64 0, .float .f64 0, .string (zerosB 251), .slice none 0 0] 25)))
          refine hK.out _ _ (blk_cell HSa.out.k 4) (fun hHeld => ?_)
          clear hK K
          try simp only [Act.put, List.setIfInBounds_toArray, List.set_cons_zero, List.set_cons_succ]
          refine wpAnyLast_ready (rs := [6]) (by kernel_rfl) (by simp) ?_
          refine AllReadyL.cons (o := { dst := some 29, op := Go.Op.call { callee := Go.Callee.builtin Go.Builtin.append, args := #[Go.Operand.tmp 24, Go.Operand.tmp 28], argTypes := #[23, 23] }, type := 23, pos := "law.go:102", after := #[{ on := 1, ground := Go.Ground.data }, { on := 5, ground := Go.Ground.data }, { on := 4, ground := Go.Ground.chain }], guard := none }) rfl (by decide) (fun K hK => ?_) AllReadyL.nil
          refine step_append_cells (w0 := w105) (W := w105) B (by rfl) (.tmp 24) (.tmp 28) 23 25 (.agg #[.int .i64 0, .int .i64 0, .float .f64 0, .string ⟨#[]⟩, .slice none 0 0]) 5 64 rfl Tryz.underlying23 info25 rfl (by decide) (by decide) v j (rows ((List.replicate j (zerosB 251)).map cellsT)) (cellsT (zerosB 251)).toList rfl rfl rfl (by simp [cellsT, Value.oneCell']) HSm.out.o (Below.refl _ _) HSm.out.h (by omega) ?_
          intro v1 w107 hown hb hg hat
          have HV1 := Aside0.mk (own_cell' hown)
          have HSn := Aside0.mk (HSm.out.snoc HGB.out.1 HGB.out.2 _ hown hg)
          clear hown hb hg hat
          refine hK.out _ _ (blk_cell HSn.out.1 4) (fun hHeld => ?_)
          clear hK K
          try simp only [Act.put, List.setIfInBounds_toArray, List.set_cons_zero, List.set_cons_succ]
          refine wpAnyLast_take (i := 7) (oi := { dst := some 30, op := Go.Op.fieldAddr 25 (Go.Operand.tmp 6) 4, type := 0, pos := "law.go:102", after := #[{ on := 0, ground := Go.Ground.phase }, { on := 1, ground := Go.Ground.phase }, { on := 2, ground := Go.Ground.phase }, { on := 3, ground := Go.Ground.phase }, { on := 4, ground := Go.Ground.phase }, { on := 5, ground := Go.Ground.phase }, { on := 6, ground := Go.Ground.phase }], guard := none }) (v := ?_) rfl (by kernel_rfl) (by kernel_rfl) (by kernel_rfl) (by kernel_rfl) (by kernel_rfl) (fun _ _ _ h => h) (Or.inl ⟨by rfl, ?_⟩) hHeld ?_
          rotate_left
          · first | (intro w hSw; (try dsimp only at hSw); (try go_split_ands); go_simp; done) | (intro w hSw; (try dsimp only at hSw); (try go_split_ands); go_simp; with_reducible rfl)
          try simp only [Act.put, List.setIfInBounds_toArray, List.set_cons_zero, List.set_cons_succ]
          refine wpAnyLast_ready (rs := [8]) (by kernel_rfl) (by simp) ?_
          refine AllReadyL.cons_last (o := { dst := none, op := Go.Op.store 23 (Go.Operand.tmp 30) (Go.Operand.tmp 29), type := 0, pos := "law.go:102", after := #[{ on := 7, ground := Go.Ground.data }, { on := 6, ground := Go.Ground.data }, { on := 6, ground := Go.Ground.chain }, { on := 0, ground := Go.Ground.phase }, { on := 1, ground := Go.Ground.phase }, { on := 2, ground := Go.Ground.phase }, { on := 3, ground := Go.Ground.phase }, { on := 4, ground := Go.Ground.phase }, { on := 5, ground := Go.Ground.phase }, { on := 6, ground := Go.Ground.phase }], guard := none }) rfl (by decide) (fun K hK => ?_) AllReadyL.nil
          refine stepH_put1 (by rfl) (t := 23) (p := 30) (v := .tmp 29) rfl rfl (g := g6) (off := 4) (u := v1) rfl rfl HSn.out.1 (by simp) (by kernel_rfl) HV1.out.1 HV1.out.2 ?_
          intro w109 hk hs
          have HSm := Aside0.mk (Sm.put HSn.out HGB.out.1 HG6.out hk hs)
          clear hk hs
          refine hK.out _ _ ?_
          clear hK K
          try simp only [Act.put, List.setIfInBounds_toArray, List.set_cons_zero, List.set_cons_succ]
          refine wpAnyLast_done (by kernel_rfl) ?_ _
          have HSm := Aside0.mk (show Sm W B g6 (List.replicate (j + 1) (zerosB 251)) (j + 1) v1 _ from by have := HSm.out; rwa [← List.replicate_succ'] at this)
          go_wp2
          go_roundw
          case rel => exact ⟨j + 1, by omega, by go_num, Aside0.mk ⟨v1, HSm.out⟩⟩
          case measure => simp [intOf]; omega
        · obtain rfl : j = 16 := by omega
          have hwm : IntKind.i64.wrap (m : Int) = (m : Int) := by rw [IntKind.wrap_i64]; omega
          go_upto_region 11 with (fail)
          refine wp_region_last_drew (S := fun w' => w'.cell? ⟨g6, 4, none⟩ = some v) (ds := [10]) (by kernel_rfl) ?hS0 (fun hHeld => ?_)
          case hS0 => exact blk_cell (show wr.drew.heap[g6]? = _ from HSm.out.k) 4
          have HSm := Aside0.mk (show Sm W B g6 (List.replicate 16 (zerosB 251)) 16 v wr.drew from HSm.out.step (Below.refl _ _).drew)
          generalize wr.drew = wd at hHeld HSm ⊢
          refine wpAnyLast_take (i := 0) (oi := { dst := some 31, op := Go.Op.fieldAddr 25 (Go.Operand.tmp 6) 4, type := 0, pos := "law.go:104", after := #[], guard := none }) (v := ?_) rfl (by kernel_rfl) (by kernel_rfl) (by kernel_rfl) (by kernel_rfl) (by kernel_rfl) (fun _ _ _ h => h) (Or.inl ⟨by rfl, ?_⟩) hHeld ?_
          rotate_left
          · first | (intro w hSw; (try dsimp only at hSw); (try go_split_ands); go_simp; done) | (intro w hSw; (try dsimp only at hSw); (try go_split_ands); go_simp; with_reducible rfl)
          try simp only [Act.put, List.setIfInBounds_toArray, List.set_cons_zero, List.set_cons_succ]
          refine wpAnyLast_take (i := 1) (oi := { dst := some 32, op := Go.Op.load 23 (Go.Operand.tmp 31), type := 23, pos := "law.go:104", after := #[{ on := 0, ground := Go.Ground.data }], guard := none }) (v := ?_) rfl (by kernel_rfl) (by kernel_rfl) (by kernel_rfl) (by kernel_rfl) (by kernel_rfl) (fun _ _ _ h => h) (Or.inl ⟨by rfl, ?_⟩) hHeld ?_
          rotate_left
          · first | (intro w hSw; (try dsimp only at hSw); (try go_split_ands); go_simp; done) | (intro w hSw; (try dsimp only at hSw); (try go_split_ands); go_simp; with_reducible rfl)
          try simp only [Act.put, List.setIfInBounds_toArray, List.set_cons_zero, List.set_cons_succ]
          refine wpAnyLast_take (i := 2) (oi := { dst := some 33, op := Go.Op.move (Go.Operand.tmp 5), type := 3, pos := "law.go:104", after := #[], guard := none }) (v := ?_) rfl (by kernel_rfl) (by kernel_rfl) (by kernel_rfl) (by kernel_rfl) (by kernel_rfl) (fun _ _ _ h => h) (Or.inl ⟨by rfl, ?_⟩) hHeld ?_
          rotate_left
          · first | (intro w hSw; (try dsimp only at hSw); (try go_split_ands); go_simp; done) | (intro w hSw; (try dsimp only at hSw); (try go_split_ands); go_simp; with_reducible rfl)
          try simp only [Act.put, List.setIfInBounds_toArray, List.set_cons_zero, List.set_cons_succ]
          refine wpAnyLast_take (i := 3) (oi := { dst := some 34, op := Go.Op.binOp Go.BinOp.add 3 (Go.Operand.const (Go.Value.int Go.IntKind.i64 27)) (Go.Operand.tmp 33) 3, type := 3, pos := "law.go:104", after := #[{ on := 2, ground := Go.Ground.data }], guard := none }) (v := ?_) rfl (by kernel_rfl) (by kernel_rfl) (by kernel_rfl) (by kernel_rfl) (by kernel_rfl) (fun _ _ _ h => h) (Or.inl ⟨by rfl, ?_⟩) hHeld ?_
          rotate_left
          · first | (intro w hSw; (try dsimp only at hSw); (try go_split_ands); go_simp; done) | (intro w hSw; (try dsimp only at hSw); (try go_split_ands); go_simp; with_reducible rfl)
          try simp only [Act.put, List.setIfInBounds_toArray, List.set_cons_zero, List.set_cons_succ]
          refine wpAnyLast_ready (rs := [4]) (by kernel_rfl) (by simp) ?_
          refine AllReadyL.cons (o := { dst := some 35, op := Go.Op.makeSlice 36 (Go.Operand.tmp 34) (Go.Operand.tmp 34), type := 36, pos := "law.go:104", after := #[{ on := 3, ground := Go.Ground.data }, { on := 3, ground := Go.Ground.data }], guard := none }) rfl (by decide) (fun K hK => ?_) AllReadyL.nil
          refine stepH_make (by rfl) rfl m (by first | rfl | (go_simp; done) | (go_simp; rfl)) (by first | rfl | (go_simp; done) | (go_simp; rfl)) Tryz.underlying36 info5 (by omega) (by decide) ?_
          intro gm hgm w105 hbox hb
          have HSm := Aside0.mk (HSm.out.step hb)
          have KM := Aside0.mk hbox
          clear hgm hbox hb
          refine hK.out _ _ (blk_cell HSm.out.k 4) (fun hHeld => ?_)
          clear hK K
          try simp only [Act.put, List.setIfInBounds_toArray, List.set_cons_zero, List.set_cons_succ]
          refine wpAnyLast_ready (rs := [5]) (by kernel_rfl) (by simp) ?_
          refine AllReadyL.cons (o := { dst := some 36, op := Go.Op.convert 36 9 (Go.Operand.tmp 35), type := 9, pos := "law.go:104", after := #[{ on := 4, ground := Go.Ground.data }], guard := none }) rfl (by decide) (fun K hK => ?_) AllReadyL.nil
          refine stepH_zeros (by rfl) rfl rfl Tryz.underlying36 Tryz.underlying5 Tryz.underlying9 KM.out ?_
          refine hK.out _ _ (blk_cell HSm.out.k 4) (fun hHeld => ?_)
          clear hK K
          try simp only [Act.put, List.setIfInBounds_toArray, List.set_cons_zero, List.set_cons_succ]
          refine wpAnyLast_ready (rs := [6]) (by kernel_rfl) (by simp) ?_
          refine AllReadyL.cons (o := { dst := some 37, op := Go.Op.call { callee := Go.Callee.value (Go.Operand.func 15), args := #[Go.Operand.tmp 36], argTypes := #[9] }, type := 25, pos := "law.go:104", after := #[{ on := 5, ground := Go.Ground.data }], guard := none }) rfl (by decide) (fun K hK => ?_) AllReadyL.nil
          go_simp
          (with_reducible refine (text32 (zerosB m) _).mono ?_)
          rintro e w107 ⟨rfl, hb⟩
          have HSm := Aside0.mk (HSm.out.step hb)
          clear hb
          refine hK.out _ _ (blk_cell HSm.out.k 4) (fun hHeld => ?_)
          clear hK K
          try simp only [Act.put, List.setIfInBounds_toArray, List.set_cons_zero, List.set_cons_succ]
          refine wpAnyLast_ready (rs := [7]) (by kernel_rfl) (by simp) ?_
          refine AllReadyL.cons (o := { dst := some 38, op := Go.Op.buildSlice 23 1 #[(0, Go.Operand.tmp 37)], type := 23, pos := "law.go:104", after := #[{ on := 6, ground := Go.Ground.data }], guard := none }) rfl (by decide) (fun K hK => ?_) AllReadyL.nil
          go_simp
          have HSa := Aside0.mk (HSm.out.step (below_alloc (Below.refl _ w107) (.cells #[.int .i64 3, .int .i64 0, .float .f64 0, .string (zerosB m), .slice none 0 0] 25)))
          refine hK.out _ _ (blk_cell HSa.out.k 4) (fun hHeld => ?_)
          clear hK K
          try simp only [Act.put, List.setIfInBounds_toArray, List.set_cons_zero, List.set_cons_succ]
          refine wpAnyLast_ready (rs := [8]) (by kernel_rfl) (by simp) ?_
          refine AllReadyL.cons (o := { dst := some 39, op := Go.Op.call { callee := Go.Callee.builtin Go.Builtin.append, args := #[Go.Operand.tmp 32, Go.Operand.tmp 38], argTypes := #[23, 23] }, type := 23, pos := "law.go:104", after := #[{ on := 1, ground := Go.Ground.data }, { on := 7, ground := Go.Ground.data }, { on := 6, ground := Go.Ground.chain }], guard := none }) rfl (by decide) (fun K hK => ?_) AllReadyL.nil
          refine step_append_cells (w0 := w107) (W := w107) B (by rfl) (.tmp 32) (.tmp 38) 23 25 (.agg #[.int .i64 0, .int .i64 0, .float .f64 0, .string ⟨#[]⟩, .slice none 0 0]) 5 64 rfl Tryz.underlying23 info25 rfl (by decide) (by decide) v 16 (rows ((List.replicate 16 (zerosB 251)).map cellsT)) (cellsT (zerosB m)).toList rfl rfl rfl (by simp [cellsT, Value.oneCell']) HSm.out.o (Below.refl _ _) HSm.out.h (by omega) ?_
          intro v1 w109 hown hb hg hat
          have HV1 := Aside0.mk (own_cell' hown)
          have HSn := Aside0.mk (HSm.out.snoc HGB.out.1 HGB.out.2 _ hown hg)
          clear hown hb hg hat
          refine hK.out _ _ (blk_cell HSn.out.1 4) (fun hHeld => ?_)
          clear hK K
          try simp only [Act.put, List.setIfInBounds_toArray, List.set_cons_zero, List.set_cons_succ]
          refine wpAnyLast_take (i := 9) (oi := { dst := some 40, op := Go.Op.fieldAddr 25 (Go.Operand.tmp 6) 4, type := 0, pos := "law.go:104", after := #[{ on := 0, ground := Go.Ground.phase }, { on := 1, ground := Go.Ground.phase }, { on := 2, ground := Go.Ground.phase }, { on := 3, ground := Go.Ground.phase }, { on := 4, ground := Go.Ground.phase }, { on := 5, ground := Go.Ground.phase }, { on := 6, ground := Go.Ground.phase }, { on := 7, ground := Go.Ground.phase }, { on := 8, ground := Go.Ground.phase }], guard := none }) (v := ?_) rfl (by kernel_rfl) (by kernel_rfl) (by kernel_rfl) (by kernel_rfl) (by kernel_rfl) (fun _ _ _ h => h) (Or.inl ⟨by rfl, ?_⟩) hHeld ?_
          rotate_left
          · first | (intro w hSw; (try dsimp only at hSw); (try go_split_ands); go_simp; done) | (intro w hSw; (try dsimp only at hSw); (try go_split_ands); go_simp; with_reducible rfl)
          try simp only [Act.put, List.setIfInBounds_toArray, List.set_cons_zero, List.set_cons_succ]
          refine wpAnyLast_ready (rs := [10]) (by kernel_rfl) (by simp) ?_
          refine AllReadyL.cons_last (o := { dst := none, op := Go.Op.store 23 (Go.Operand.tmp 40) (Go.Operand.tmp 39), type := 0, pos := "law.go:104", after := #[{ on := 9, ground := Go.Ground.data }, { on := 8, ground := Go.Ground.data }, { on := 8, ground := Go.Ground.chain }, { on := 0, ground := Go.Ground.phase }, { on := 1, ground := Go.Ground.phase }, { on := 2, ground := Go.Ground.phase }, { on := 3, ground := Go.Ground.phase }, { on := 4, ground := Go.Ground.phase }, { on := 5, ground := Go.Ground.phase }, { on := 6, ground := Go.Ground.phase }, { on := 7, ground := Go.Ground.phase }, { on := 8, ground := Go.Ground.phase }], guard := none }) rfl (by decide) (fun K hK => ?_) AllReadyL.nil
          refine stepH_put1 (by rfl) (t := 23) (p := 40) (v := .tmp 39) rfl rfl (g := g6) (off := 4) (u := v1) rfl rfl HSn.out.1 (by simp) (by kernel_rfl) HV1.out.1 HV1.out.2 ?_
          intro w111 hk hs
          have HSm := Aside0.mk (Sm.put HSn.out HGB.out.1 HG6.out hk hs)
          clear hk hs
          refine hK.out _ _ ?_
          clear hK K
          try simp only [Act.put, List.setIfInBounds_toArray, List.set_cons_zero, List.set_cons_succ]
          refine wpAnyLast_done (by kernel_rfl) ?_ _
          obtain ⟨A', c', rfl, hrv⟩ := HSm.out.rv (by simp) (by
            intro s hs
            simp only [List.mem_append, List.mem_replicate, List.mem_singleton] at hs
            rcases hs with ⟨_, rfl⟩ | rfl
            · rw [zerosB_size]; omega
            · rw [zerosB_size]; omega) (by omega)
          have HRV := Aside0.mk hrv
          clear hrv
          go_wp2
          go_meet
          case rel => exact ⟨rfl, _, _, HSm.out.k, HRV.out, by simpa using check_sum (zerosB 251) (zerosB m) dd HD5.out (zerosB_size _) (by rw [zerosB_size]; exact HM.out.symm), HSm.out.b⟩
  case rest =>
    obtain ⟨rfl, v, cs, hk, hrv, hck, hbw⟩ := hcut
    obtain ⟨k', i', f', s', A', n', c', rfl⟩ := hrv.form
    have K6 := Aside0.mk hk
    have HRV := Aside0.mk hrv
    have HB := Aside0.mk hbw
    have hcc := check17 v _ _ _ hrv
    have HC18 := Aside0.mk (fun (W' : World) (h : RV W' (fun _ => True) v #[.int .i64 k', .int .i64 i', .float .f64 f', .string s', .slice A' n' c']) => size18 v W' _ _ h)
    have HC19 := Aside0.mk (fun (W' : World) (h : RV W' (fun _ => True) v #[.int .i64 k', .int .i64 i', .float .f64 f', .string s', .slice A' n' c']) => size19 v W' _ _ h)
    obtain ⟨Z, hZ⟩ : ∃ Z, sizeV v = Z := ⟨_, rfl⟩
    rw [hZ] at HC18 HC19
    clear hk hrv hbw hZ
    have p0 : wc.cell? ⟨g6, 0, none⟩ = some (.int .i64 k') := blk_cell K6.out 0
    have p1 : wc.cell? ⟨g6, 1, none⟩ = some (.int .i64 i') := blk_cell K6.out 1
    have p2 : wc.cell? ⟨g6, 2, none⟩ = some (.float .f64 f') := blk_cell K6.out 2
    have p3 : wc.cell? ⟨g6, 3, none⟩ = some (.string s') := blk_cell K6.out 3
    have p4 : wc.cell? ⟨g6, 4, none⟩ = some (.slice A' n' c') := blk_cell K6.out 4
    by_cases h2 : dd ≤ 2
    · have hle : (dd : Int) - 2 ≤ 0 := by omega
      rw [hck, if_pos h2] at hcc
      have HCC := Aside0.mk hcc
      clear hck hcc h2
      go_upto_region 22 with (first
        | (go_at_call 17; (with_reducible refine HCC.out.mono ?_); rintro e w8 ⟨rfl, hb⟩; have K6 := Aside0.mk (blk_below K6.out hb); have HRV := Aside0.mk (HRV.out.kept hb); have HB := Aside0.mk (below_step HB.out hb); clear hb))
      clear p0 p1 p2 p3 p4
      refine wp_region_last_drew (S := fun w' => w'.cell? ⟨g6, 0, none⟩ = some (.int .i64 k') ∧ w'.cell? ⟨g6, 1, none⟩ = some (.int .i64 i') ∧ w'.cell? ⟨g6, 2, none⟩ = some (.float .f64 f') ∧ w'.cell? ⟨g6, 3, none⟩ = some (.string s') ∧ w'.cell? ⟨g6, 4, none⟩ = some (.slice A' n' c')) (ds := []) (by kernel_rfl) ?hS0 (fun hHeld => ?_)
      case hS0 => exact ⟨blk_cell (show w8.drew.heap[g6]? = _ from K6.out) 0, blk_cell (show w8.drew.heap[g6]? = _ from K6.out) 1, blk_cell (show w8.drew.heap[g6]? = _ from K6.out) 2, blk_cell (show w8.drew.heap[g6]? = _ from K6.out) 3, blk_cell (show w8.drew.heap[g6]? = _ from K6.out) 4⟩
      have K6 := Aside0.mk (show w8.drew.heap[g6]? = _ from K6.out)
      have HRV := Aside0.mk (HRV.out.kept (Below.refl _ _).drew)
      have HB := Aside0.mk HB.out.drew
      generalize w8.drew = w9 at hHeld K6 HRV HB ⊢
      refine wpAnyLast_take (i := 0) (oi := { dst := some 67, op := Go.Op.move (Go.Operand.tmp 9), type := 3, pos := "law.go:107", after := #[], guard := none }) (v := ?_) rfl (by kernel_rfl) (by kernel_rfl) (by kernel_rfl) (by kernel_rfl) (by kernel_rfl) (fun _ _ _ h => h) (Or.inl ⟨by rfl, ?_⟩) hHeld ?_
      rotate_left
      · first | (intro w hSw; (try dsimp only at hSw); (try go_split_ands); go_simp; done) | (intro w hSw; (try dsimp only at hSw); (try go_split_ands); go_simp; with_reducible rfl)
      try simp only [Act.put, List.setIfInBounds_toArray, List.set_cons_zero, List.set_cons_succ]
      refine wpAnyLast_take (i := 1) (oi := { dst := some 68, op := Go.Op.binOp Go.BinOp.eql 3 (Go.Operand.tmp 67) (Go.Operand.const (Go.Value.int Go.IntKind.i64 0)) 3, type := 4, pos := "law.go:107", after := #[{ on := 0, ground := Go.Ground.data }], guard := none }) (v := ?_) rfl (by kernel_rfl) (by kernel_rfl) (by kernel_rfl) (by kernel_rfl) (by kernel_rfl) (fun _ _ _ h => h) (Or.inl ⟨by rfl, ?_⟩) hHeld ?_
      rotate_left
      · first | (intro w hSw; (try dsimp only at hSw); (try go_split_ands); go_simp; done) | (intro w hSw; (try dsimp only at hSw); (try go_split_ands); go_simp; with_reducible rfl)
      try simp only [Act.put, List.setIfInBounds_toArray, List.set_cons_zero, List.set_cons_succ]
      refine wpAnyLast_take (i := 2) (oi := { dst := some 69, op := Go.Op.move (Go.Operand.tmp 5), type := 3, pos := "law.go:107", after := #[], guard := none }) (v := ?_) rfl (by kernel_rfl) (by kernel_rfl) (by kernel_rfl) (by kernel_rfl) (by kernel_rfl) (fun _ _ _ h => h) (Or.inl ⟨by rfl, ?_⟩) hHeld ?_
      rotate_left
      · first | (intro w hSw; (try dsimp only at hSw); (try go_split_ands); go_simp; done) | (intro w hSw; (try dsimp only at hSw); (try go_split_ands); go_simp; with_reducible rfl)
      try simp only [Act.put, List.setIfInBounds_toArray, List.set_cons_zero, List.set_cons_succ]
      refine wpAnyLast_take (i := 3) (oi := { dst := some 70, op := Go.Op.binOp Go.BinOp.leq 3 (Go.Operand.tmp 69) (Go.Operand.const (Go.Value.int Go.IntKind.i64 0)) 3, type := 4, pos := "law.go:107", after := #[{ on := 2, ground := Go.Ground.data }], guard := none }) (v := (.bool true)) rfl (by kernel_rfl) (by kernel_rfl) (by kernel_rfl) (by kernel_rfl) (by kernel_rfl) (fun _ _ _ h => h) (Or.inl ⟨by rfl, ?_⟩) hHeld ?_
      · intro w hSw; (try go_simp); (try simp); (try omega)
      try simp only [Act.put, List.setIfInBounds_toArray, List.set_cons_zero, List.set_cons_succ]
      refine wpAnyLast_take (i := 4) (oi := { dst := some 71, op := Go.Op.binOp Go.BinOp.eql 4 (Go.Operand.tmp 68) (Go.Operand.tmp 70) 4, type := 4, pos := "law.go:107", after := #[{ on := 1, ground := Go.Ground.data }, { on := 3, ground := Go.Ground.data }], guard := none }) (v := ?_) rfl (by kernel_rfl) (by kernel_rfl) (by kernel_rfl) (by kernel_rfl) (by kernel_rfl) (fun _ _ _ h => h) (Or.inl ⟨by rfl, ?_⟩) hHeld ?_
      rotate_left
      · first | (intro w hSw; (try dsimp only at hSw); (try go_split_ands); go_simp; done) | (intro w hSw; (try dsimp only at hSw); (try go_split_ands); go_simp; with_reducible rfl)
      try simp only [Act.put, List.setIfInBounds_toArray, List.set_cons_zero, List.set_cons_succ]
      refine wpAnyLast_take (i := 5) (oi := { dst := some 72, op := Go.Op.move (Go.Operand.tmp 71), type := 4, pos := "law.go:107", after := #[{ on := 4, ground := Go.Ground.data }], guard := none }) (v := ?_) rfl (by kernel_rfl) (by kernel_rfl) (by kernel_rfl) (by kernel_rfl) (by kernel_rfl) (fun _ _ _ h => h) (Or.inl ⟨by rfl, ?_⟩) hHeld ?_
      rotate_left
      · first | (intro w hSw; (try dsimp only at hSw); (try go_split_ands); go_simp; done) | (intro w hSw; (try dsimp only at hSw); (try go_split_ands); go_simp; with_reducible rfl)
      try simp only [Act.put, List.setIfInBounds_toArray, List.set_cons_zero, List.set_cons_succ]
      refine wpAnyLast_take (i := 6) (oi := { dst := some 73, op := Go.Op.move (Go.Operand.tmp 9), type := 3, pos := "law.go:107", after := #[{ on := 5, ground := Go.Ground.guard }], guard := some (5, true) }) (v := ?_) rfl (by kernel_rfl) (by kernel_rfl) (by kernel_rfl) (by kernel_rfl) (by kernel_rfl) (fun _ _ _ h => h) (Or.inl ⟨by rfl, ?_⟩) hHeld ?_
      rotate_left
      · first | (intro w hSw; (try dsimp only at hSw); (try go_split_ands); go_simp; done) | (intro w hSw; (try dsimp only at hSw); (try go_split_ands); go_simp; with_reducible rfl)
      try simp only [Act.put, List.setIfInBounds_toArray, List.set_cons_zero, List.set_cons_succ]
      refine wpAnyLast_take (i := 7) (oi := { dst := some 74, op := Go.Op.binOp Go.BinOp.eql 3 (Go.Operand.tmp 73) (Go.Operand.const (Go.Value.int Go.IntKind.i64 0)) 3, type := 4, pos := "law.go:107", after := #[{ on := 6, ground := Go.Ground.data }, { on := 5, ground := Go.Ground.guard }], guard := some (5, true) }) (v := ?_) rfl (by kernel_rfl) (by kernel_rfl) (by kernel_rfl) (by kernel_rfl) (by kernel_rfl) (fun _ _ _ h => h) (Or.inl ⟨by rfl, ?_⟩) hHeld ?_
      rotate_left
      · first | (intro w hSw; (try dsimp only at hSw); (try go_split_ands); go_simp; done) | (intro w hSw; (try dsimp only at hSw); (try go_split_ands); go_simp; with_reducible rfl)
      try simp only [Act.put, List.setIfInBounds_toArray, List.set_cons_zero, List.set_cons_succ]
      refine wpAnyLast_take (i := 8) (oi := { dst := some 75, op := Go.Op.move (Go.Operand.tmp 74), type := 4, pos := "law.go:107", after := #[{ on := 7, ground := Go.Ground.data }, { on := 5, ground := Go.Ground.chain }, { on := 5, ground := Go.Ground.guard }], guard := some (5, true) }) (v := ?_) rfl (by kernel_rfl) (by kernel_rfl) (by kernel_rfl) (by kernel_rfl) (by kernel_rfl) (fun _ _ _ h => h) (Or.inl ⟨by rfl, ?_⟩) hHeld ?_
      rotate_left
      · first | (intro w hSw; (try dsimp only at hSw); (try go_split_ands); go_simp; done) | (intro w hSw; (try dsimp only at hSw); (try go_split_ands); go_simp; with_reducible rfl)
      try simp only [Act.put, List.setIfInBounds_toArray, List.set_cons_zero, List.set_cons_succ]
      refine wpAnyLast_take (i := 9) (oi := { dst := some 76, op := Go.Op.move (Go.Operand.tmp 9), type := 3, pos := "law.go:107", after := #[{ on := 8, ground := Go.Ground.guard }], guard := some (8, false) }) (v := undef) rfl (by kernel_rfl) (by kernel_rfl) (by kernel_rfl) (by kernel_rfl) (by kernel_rfl) (fun _ _ _ h => h) (Or.inr ⟨by rfl, rfl⟩) hHeld ?_
      try simp only [Act.put, List.setIfInBounds_toArray, List.set_cons_zero, List.set_cons_succ]
      refine wpAnyLast_take (i := 10) (oi := { dst := some 77, op := Go.Op.binOp Go.BinOp.eql 3 (Go.Operand.tmp 76) (Go.Operand.const (Go.Value.int Go.IntKind.i64 22)) 3, type := 4, pos := "law.go:107", after := #[{ on := 9, ground := Go.Ground.data }, { on := 8, ground := Go.Ground.guard }], guard := some (8, false) }) (v := undef) rfl (by kernel_rfl) (by kernel_rfl) (by kernel_rfl) (by kernel_rfl) (by kernel_rfl) (fun _ _ _ h => h) (Or.inr ⟨by rfl, rfl⟩) hHeld ?_
      try simp only [Act.put, List.setIfInBounds_toArray, List.set_cons_zero, List.set_cons_succ]
      refine wpAnyLast_take (i := 11) (oi := { dst := some 78, op := Go.Op.pick (Go.Operand.tmp 75) (Go.Operand.const (Go.Value.bool true)) (Go.Operand.tmp 77), type := 4, pos := "law.go:107", after := #[{ on := 8, ground := Go.Ground.data }, { on := 10, ground := Go.Ground.data }, { on := 5, ground := Go.Ground.guard }], guard := some (5, true) }) (v := ?_) rfl (by kernel_rfl) (by kernel_rfl) (by kernel_rfl) (by kernel_rfl) (by kernel_rfl) (fun _ _ _ h => h) (Or.inl ⟨by rfl, ?_⟩) hHeld ?_
      rotate_left
      · first | (intro w hSw; (try dsimp only at hSw); (try go_split_ands); go_simp; done) | (intro w hSw; (try dsimp only at hSw); (try go_split_ands); go_simp; with_reducible rfl)
      try simp only [Act.put, List.setIfInBounds_toArray, List.set_cons_zero, List.set_cons_succ]
      refine wpAnyLast_take (i := 12) (oi := { dst := some 79, op := Go.Op.pick (Go.Operand.tmp 72) (Go.Operand.tmp 78) (Go.Operand.const (Go.Value.bool false)), type := 4, pos := "law.go:107", after := #[{ on := 5, ground := Go.Ground.data }, { on := 11, ground := Go.Ground.data }], guard := none }) (v := ?_) rfl (by kernel_rfl) (by kernel_rfl) (by kernel_rfl) (by kernel_rfl) (by kernel_rfl) (fun _ _ _ h => h) (Or.inl ⟨by rfl, ?_⟩) hHeld ?_
      rotate_left
      · first | (intro w hSw; (try dsimp only at hSw); (try go_split_ands); go_simp; done) | (intro w hSw; (try dsimp only at hSw); (try go_split_ands); go_simp; with_reducible rfl)
      try simp only [Act.put, List.setIfInBounds_toArray, List.set_cons_zero, List.set_cons_succ]
      refine wpAnyLast_take (i := 13) (oi := { dst := some 80, op := Go.Op.move (Go.Operand.tmp 79), type := 4, pos := "law.go:107", after := #[{ on := 12, ground := Go.Ground.data }, { on := 8, ground := Go.Ground.chain }], guard := none }) (v := ?_) rfl (by kernel_rfl) (by kernel_rfl) (by kernel_rfl) (by kernel_rfl) (by kernel_rfl) (fun _ _ _ h => h) (Or.inl ⟨by rfl, ?_⟩) hHeld ?_
      rotate_left
      · first | (intro w hSw; (try dsimp only at hSw); (try go_split_ands); go_simp; done) | (intro w hSw; (try dsimp only at hSw); (try go_split_ands); go_simp; with_reducible rfl)
      try simp only [Act.put, List.setIfInBounds_toArray, List.set_cons_zero, List.set_cons_succ]
      refine wpAnyLast_take (i := 14) (oi := { dst := some 81, op := Go.Op.load 25 (Go.Operand.tmp 6), type := 25, pos := "law.go:107", after := #[{ on := 13, ground := Go.Ground.guard }], guard := some (13, true) }) (v := ?_) rfl (by kernel_rfl) (by kernel_rfl) (by kernel_rfl) (by kernel_rfl) (by kernel_rfl) (fun _ _ _ h => h) (Or.inl ⟨by rfl, ?_⟩) hHeld ?_
      rotate_left
      · first | (intro w hSw; (try dsimp only at hSw); (try go_split_ands); go_simp; done) | (intro w hSw; (try dsimp only at hSw); (try go_split_ands); go_simp; with_reducible rfl)
      try simp only [Act.put, List.setIfInBounds_toArray, List.set_cons_zero, List.set_cons_succ]
      refine wpAnyLast_take (i := 16) (oi := { dst := some 83, op := Go.Op.load 25 (Go.Operand.tmp 6), type := 25, pos := "law.go:107", after := #[{ on := 13, ground := Go.Ground.guard }], guard := some (13, true) }) (v := ?_) rfl (by kernel_rfl) (by kernel_rfl) (by kernel_rfl) (by kernel_rfl) (by kernel_rfl) (fun _ _ _ h => h) (Or.inl ⟨by rfl, ?_⟩) hHeld ?_
      rotate_left
      · first | (intro w hSw; (try dsimp only at hSw); (try go_split_ands); go_simp; done) | (intro w hSw; (try dsimp only at hSw); (try go_split_ands); go_simp; with_reducible rfl)
      try simp only [Act.put, List.setIfInBounds_toArray, List.set_cons_zero, List.set_cons_succ]
      refine wpAnyLast_ready (rs := [15]) (by kernel_rfl) (by simp) ?_
      refine AllReadyL.cons (o := { dst := some 82, op := Go.Op.call { callee := Go.Callee.value (Go.Operand.func 18), args := #[Go.Operand.tmp 81], argTypes := #[25] }, type := 3, pos := "law.go:107", after := #[{ on := 14, ground := Go.Ground.data }, { on := 13, ground := Go.Ground.chain }, { on := 13, ground := Go.Ground.guard }], guard := some (13, true) }) rfl (by decide) (fun K hK => ?_) AllReadyL.nil
      go_simp
      (with_reducible refine (HC18.out _ (HRV.out)).mono ?_)
      rintro e w117 ⟨rfl, hb⟩
      have K6 := Aside0.mk (blk_below K6.out hb)
      have HRV := Aside0.mk (HRV.out.kept hb)
      have HB := Aside0.mk (below_step HB.out hb)
      clear hb
      refine hK.out _ _ (⟨blk_cell K6.out 0, blk_cell K6.out 1, blk_cell K6.out 2, blk_cell K6.out 3, blk_cell K6.out 4⟩) (fun hHeld => ?_)
      clear hK K
      try simp only [Act.put, List.setIfInBounds_toArray, List.set_cons_zero, List.set_cons_succ]
      refine wpAnyLast_ready (rs := [17]) (by kernel_rfl) (by simp) ?_
      refine AllReadyL.cons (o := { dst := some 84, op := Go.Op.call { callee := Go.Callee.value (Go.Operand.func 19), args := #[Go.Operand.tmp 83], argTypes := #[25] }, type := 3, pos := "law.go:107", after := #[{ on := 16, ground := Go.Ground.data }, { on := 15, ground := Go.Ground.chain }, { on := 13, ground := Go.Ground.guard }], guard := some (13, true) }) rfl (by decide) (fun K hK => ?_) AllReadyL.nil
      go_simp
      (with_reducible refine (HC19.out _ (HRV.out)).mono ?_)
      rintro e w118 ⟨rfl, hb⟩
      have K6 := Aside0.mk (blk_below K6.out hb)
      have HRV := Aside0.mk (HRV.out.kept hb)
      have HB := Aside0.mk (below_step HB.out hb)
      clear hb
      refine hK.out _ _ (⟨blk_cell K6.out 0, blk_cell K6.out 1, blk_cell K6.out 2, blk_cell K6.out 3, blk_cell K6.out 4⟩) (fun hHeld => ?_)
      clear hK K
      try simp only [Act.put, List.setIfInBounds_toArray, List.set_cons_zero, List.set_cons_succ]
      refine wpAnyLast_take (i := 18) (oi := { dst := some 85, op := Go.Op.binOp Go.BinOp.eql 3 (Go.Operand.tmp 82) (Go.Operand.tmp 84) 3, type := 4, pos := "law.go:107", after := #[{ on := 15, ground := Go.Ground.data }, { on := 17, ground := Go.Ground.data }, { on := 13, ground := Go.Ground.guard }], guard := some (13, true) }) (v := ?_) rfl (by kernel_rfl) (by kernel_rfl) (by kernel_rfl) (by kernel_rfl) (by kernel_rfl) (fun _ _ _ h => h) (Or.inl ⟨by rfl, ?_⟩) hHeld ?_
      rotate_left
      · first | (intro w hSw; (try dsimp only at hSw); (try go_split_ands); go_simp; done) | (intro w hSw; (try dsimp only at hSw); (try go_split_ands); go_simp; with_reducible rfl)
      try simp only [Act.put, List.setIfInBounds_toArray, List.set_cons_zero, List.set_cons_succ]
      refine wpAnyLast_take (i := 19) (oi := { dst := some 86, op := Go.Op.pick (Go.Operand.tmp 80) (Go.Operand.tmp 85) (Go.Operand.const (Go.Value.bool false)), type := 4, pos := "law.go:107", after := #[{ on := 13, ground := Go.Ground.data }, { on := 18, ground := Go.Ground.data }], guard := none }) (v := ?_) rfl (by kernel_rfl) (by kernel_rfl) (by kernel_rfl) (by kernel_rfl) (by kernel_rfl) (fun _ _ _ h => h) (Or.inl ⟨by rfl, ?_⟩) hHeld ?_
      rotate_left
      · first | (intro w hSw; (try dsimp only at hSw); (try go_split_ands); go_simp; done) | (intro w hSw; (try dsimp only at hSw); (try go_split_ands); go_simp; with_reducible rfl)
      try simp only [Act.put, List.setIfInBounds_toArray, List.set_cons_zero, List.set_cons_succ]
      refine wpAnyLast_take (i := 20) (oi := { dst := some 4, op := Go.Op.assign (Go.Operand.tmp 86), type := 4, pos := "law.go:107", after := #[{ on := 19, ground := Go.Ground.data }, { on := 17, ground := Go.Ground.chain }, { on := 0, ground := Go.Ground.phase }, { on := 1, ground := Go.Ground.phase }, { on := 2, ground := Go.Ground.phase }, { on := 3, ground := Go.Ground.phase }, { on := 4, ground := Go.Ground.phase }, { on := 5, ground := Go.Ground.phase }, { on := 6, ground := Go.Ground.phase }, { on := 7, ground := Go.Ground.phase }, { on := 8, ground := Go.Ground.phase }, { on := 9, ground := Go.Ground.phase }, { on := 10, ground := Go.Ground.phase }, { on := 11, ground := Go.Ground.phase }, { on := 12, ground := Go.Ground.phase }, { on := 13, ground := Go.Ground.phase }, { on := 14, ground := Go.Ground.phase }, { on := 15, ground := Go.Ground.phase }, { on := 16, ground := Go.Ground.phase }, { on := 17, ground := Go.Ground.phase }, { on := 18, ground := Go.Ground.phase }, { on := 19, ground := Go.Ground.phase }], guard := none }) (v := ?_) rfl (by kernel_rfl) (by kernel_rfl) (by kernel_rfl) (by kernel_rfl) (by kernel_rfl) (fun _ _ _ h => h) (Or.inl ⟨by rfl, ?_⟩) hHeld ?_
      rotate_left
      · first | (intro w hSw; (try dsimp only at hSw); (try go_split_ands); go_simp; done) | (intro w hSw; (try dsimp only at hSw); (try go_split_ands); go_simp; with_reducible rfl)
      try simp only [Act.put, List.setIfInBounds_toArray, List.set_cons_zero, List.set_cons_succ]
      refine wpAnyLast_done (by kernel_rfl) ?_ _
      go_wp2
      go_ret
      exact ⟨rfl, HB.out⟩
    · have hle : ¬ (dd : Int) - 2 ≤ 0 := by omega
      have hle2 : (0 : Int) < (dd : Int) - 2 := by omega
      rw [hck, if_neg h2] at hcc
      have HCC := Aside0.mk hcc
      clear hck hcc h2
      go_upto_region 22 with (first
        | (go_at_call 17; (with_reducible refine HCC.out.mono ?_); rintro e w8 ⟨rfl, hb⟩; have K6 := Aside0.mk (blk_below K6.out hb); have HRV := Aside0.mk (HRV.out.kept hb); have HB := Aside0.mk (below_step HB.out hb); clear hb))
      clear p0 p1 p2 p3 p4
      refine wp_region_last_drew (S := fun w' => w'.cell? ⟨g6, 0, none⟩ = some (.int .i64 k') ∧ w'.cell? ⟨g6, 1, none⟩ = some (.int .i64 i') ∧ w'.cell? ⟨g6, 2, none⟩ = some (.float .f64 f') ∧ w'.cell? ⟨g6, 3, none⟩ = some (.string s') ∧ w'.cell? ⟨g6, 4, none⟩ = some (.slice A' n' c')) (ds := []) (by kernel_rfl) ?hS0 (fun hHeld => ?_)
      case hS0 => exact ⟨blk_cell (show w8.drew.heap[g6]? = _ from K6.out) 0, blk_cell (show w8.drew.heap[g6]? = _ from K6.out) 1, blk_cell (show w8.drew.heap[g6]? = _ from K6.out) 2, blk_cell (show w8.drew.heap[g6]? = _ from K6.out) 3, blk_cell (show w8.drew.heap[g6]? = _ from K6.out) 4⟩
      have K6 := Aside0.mk (show w8.drew.heap[g6]? = _ from K6.out)
      have HRV := Aside0.mk (HRV.out.kept (Below.refl _ _).drew)
      have HB := Aside0.mk HB.out.drew
      generalize w8.drew = w9 at hHeld K6 HRV HB ⊢
      refine wpAnyLast_take (i := 0) (oi := { dst := some 67, op := Go.Op.move (Go.Operand.tmp 9), type := 3, pos := "law.go:107", after := #[], guard := none }) (v := ?_) rfl (by kernel_rfl) (by kernel_rfl) (by kernel_rfl) (by kernel_rfl) (by kernel_rfl) (fun _ _ _ h => h) (Or.inl ⟨by rfl, ?_⟩) hHeld ?_
      rotate_left
      · first | (intro w hSw; (try dsimp only at hSw); (try go_split_ands); go_simp; done) | (intro w hSw; (try dsimp only at hSw); (try go_split_ands); go_simp; with_reducible rfl)
      try simp only [Act.put, List.setIfInBounds_toArray, List.set_cons_zero, List.set_cons_succ]
      refine wpAnyLast_take (i := 1) (oi := { dst := some 68, op := Go.Op.binOp Go.BinOp.eql 3 (Go.Operand.tmp 67) (Go.Operand.const (Go.Value.int Go.IntKind.i64 0)) 3, type := 4, pos := "law.go:107", after := #[{ on := 0, ground := Go.Ground.data }], guard := none }) (v := ?_) rfl (by kernel_rfl) (by kernel_rfl) (by kernel_rfl) (by kernel_rfl) (by kernel_rfl) (fun _ _ _ h => h) (Or.inl ⟨by rfl, ?_⟩) hHeld ?_
      rotate_left
      · first | (intro w hSw; (try dsimp only at hSw); (try go_split_ands); go_simp; done) | (intro w hSw; (try dsimp only at hSw); (try go_split_ands); go_simp; with_reducible rfl)
      try simp only [Act.put, List.setIfInBounds_toArray, List.set_cons_zero, List.set_cons_succ]
      refine wpAnyLast_take (i := 2) (oi := { dst := some 69, op := Go.Op.move (Go.Operand.tmp 5), type := 3, pos := "law.go:107", after := #[], guard := none }) (v := ?_) rfl (by kernel_rfl) (by kernel_rfl) (by kernel_rfl) (by kernel_rfl) (by kernel_rfl) (fun _ _ _ h => h) (Or.inl ⟨by rfl, ?_⟩) hHeld ?_
      rotate_left
      · first | (intro w hSw; (try dsimp only at hSw); (try go_split_ands); go_simp; done) | (intro w hSw; (try dsimp only at hSw); (try go_split_ands); go_simp; with_reducible rfl)
      try simp only [Act.put, List.setIfInBounds_toArray, List.set_cons_zero, List.set_cons_succ]
      refine wpAnyLast_take (i := 3) (oi := { dst := some 70, op := Go.Op.binOp Go.BinOp.leq 3 (Go.Operand.tmp 69) (Go.Operand.const (Go.Value.int Go.IntKind.i64 0)) 3, type := 4, pos := "law.go:107", after := #[{ on := 2, ground := Go.Ground.data }], guard := none }) (v := (.bool false)) rfl (by kernel_rfl) (by kernel_rfl) (by kernel_rfl) (by kernel_rfl) (by kernel_rfl) (fun _ _ _ h => h) (Or.inl ⟨by rfl, ?_⟩) hHeld ?_
      · intro w hSw; (try go_simp); (try simp); (try omega)
      try simp only [Act.put, List.setIfInBounds_toArray, List.set_cons_zero, List.set_cons_succ]
      refine wpAnyLast_take (i := 4) (oi := { dst := some 71, op := Go.Op.binOp Go.BinOp.eql 4 (Go.Operand.tmp 68) (Go.Operand.tmp 70) 4, type := 4, pos := "law.go:107", after := #[{ on := 1, ground := Go.Ground.data }, { on := 3, ground := Go.Ground.data }], guard := none }) (v := ?_) rfl (by kernel_rfl) (by kernel_rfl) (by kernel_rfl) (by kernel_rfl) (by kernel_rfl) (fun _ _ _ h => h) (Or.inl ⟨by rfl, ?_⟩) hHeld ?_
      rotate_left
      · first | (intro w hSw; (try dsimp only at hSw); (try go_split_ands); go_simp; done) | (intro w hSw; (try dsimp only at hSw); (try go_split_ands); go_simp; with_reducible rfl)
      try simp only [Act.put, List.setIfInBounds_toArray, List.set_cons_zero, List.set_cons_succ]
      refine wpAnyLast_take (i := 5) (oi := { dst := some 72, op := Go.Op.move (Go.Operand.tmp 71), type := 4, pos := "law.go:107", after := #[{ on := 4, ground := Go.Ground.data }], guard := none }) (v := ?_) rfl (by kernel_rfl) (by kernel_rfl) (by kernel_rfl) (by kernel_rfl) (by kernel_rfl) (fun _ _ _ h => h) (Or.inl ⟨by rfl, ?_⟩) hHeld ?_
      rotate_left
      · first | (intro w hSw; (try dsimp only at hSw); (try go_split_ands); go_simp; done) | (intro w hSw; (try dsimp only at hSw); (try go_split_ands); go_simp; with_reducible rfl)
      try simp only [Act.put, List.setIfInBounds_toArray, List.set_cons_zero, List.set_cons_succ]
      refine wpAnyLast_take (i := 6) (oi := { dst := some 73, op := Go.Op.move (Go.Operand.tmp 9), type := 3, pos := "law.go:107", after := #[{ on := 5, ground := Go.Ground.guard }], guard := some (5, true) }) (v := ?_) rfl (by kernel_rfl) (by kernel_rfl) (by kernel_rfl) (by kernel_rfl) (by kernel_rfl) (fun _ _ _ h => h) (Or.inl ⟨by rfl, ?_⟩) hHeld ?_
      rotate_left
      · first | (intro w hSw; (try dsimp only at hSw); (try go_split_ands); go_simp; done) | (intro w hSw; (try dsimp only at hSw); (try go_split_ands); go_simp; with_reducible rfl)
      try simp only [Act.put, List.setIfInBounds_toArray, List.set_cons_zero, List.set_cons_succ]
      refine wpAnyLast_take (i := 7) (oi := { dst := some 74, op := Go.Op.binOp Go.BinOp.eql 3 (Go.Operand.tmp 73) (Go.Operand.const (Go.Value.int Go.IntKind.i64 0)) 3, type := 4, pos := "law.go:107", after := #[{ on := 6, ground := Go.Ground.data }, { on := 5, ground := Go.Ground.guard }], guard := some (5, true) }) (v := ?_) rfl (by kernel_rfl) (by kernel_rfl) (by kernel_rfl) (by kernel_rfl) (by kernel_rfl) (fun _ _ _ h => h) (Or.inl ⟨by rfl, ?_⟩) hHeld ?_
      rotate_left
      · first | (intro w hSw; (try dsimp only at hSw); (try go_split_ands); go_simp; done) | (intro w hSw; (try dsimp only at hSw); (try go_split_ands); go_simp; with_reducible rfl)
      try simp only [Act.put, List.setIfInBounds_toArray, List.set_cons_zero, List.set_cons_succ]
      refine wpAnyLast_take (i := 8) (oi := { dst := some 75, op := Go.Op.move (Go.Operand.tmp 74), type := 4, pos := "law.go:107", after := #[{ on := 7, ground := Go.Ground.data }, { on := 5, ground := Go.Ground.chain }, { on := 5, ground := Go.Ground.guard }], guard := some (5, true) }) (v := ?_) rfl (by kernel_rfl) (by kernel_rfl) (by kernel_rfl) (by kernel_rfl) (by kernel_rfl) (fun _ _ _ h => h) (Or.inl ⟨by rfl, ?_⟩) hHeld ?_
      rotate_left
      · first | (intro w hSw; (try dsimp only at hSw); (try go_split_ands); go_simp; done) | (intro w hSw; (try dsimp only at hSw); (try go_split_ands); go_simp; with_reducible rfl)
      try simp only [Act.put, List.setIfInBounds_toArray, List.set_cons_zero, List.set_cons_succ]
      refine wpAnyLast_take (i := 9) (oi := { dst := some 76, op := Go.Op.move (Go.Operand.tmp 9), type := 3, pos := "law.go:107", after := #[{ on := 8, ground := Go.Ground.guard }], guard := some (8, false) }) (v := ?_) rfl (by kernel_rfl) (by kernel_rfl) (by kernel_rfl) (by kernel_rfl) (by kernel_rfl) (fun _ _ _ h => h) (Or.inl ⟨by rfl, ?_⟩) hHeld ?_
      rotate_left
      · first | (intro w hSw; (try dsimp only at hSw); (try go_split_ands); go_simp; done) | (intro w hSw; (try dsimp only at hSw); (try go_split_ands); go_simp; with_reducible rfl)
      try simp only [Act.put, List.setIfInBounds_toArray, List.set_cons_zero, List.set_cons_succ]
      refine wpAnyLast_take (i := 10) (oi := { dst := some 77, op := Go.Op.binOp Go.BinOp.eql 3 (Go.Operand.tmp 76) (Go.Operand.const (Go.Value.int Go.IntKind.i64 22)) 3, type := 4, pos := "law.go:107", after := #[{ on := 9, ground := Go.Ground.data }, { on := 8, ground := Go.Ground.guard }], guard := some (8, false) }) (v := ?_) rfl (by kernel_rfl) (by kernel_rfl) (by kernel_rfl) (by kernel_rfl) (by kernel_rfl) (fun _ _ _ h => h) (Or.inl ⟨by rfl, ?_⟩) hHeld ?_
      rotate_left
      · first | (intro w hSw; (try dsimp only at hSw); (try go_split_ands); go_simp; done) | (intro w hSw; (try dsimp only at hSw); (try go_split_ands); go_simp; with_reducible rfl)
      try simp only [Act.put, List.setIfInBounds_toArray, List.set_cons_zero, List.set_cons_succ]
      refine wpAnyLast_take (i := 11) (oi := { dst := some 78, op := Go.Op.pick (Go.Operand.tmp 75) (Go.Operand.const (Go.Value.bool true)) (Go.Operand.tmp 77), type := 4, pos := "law.go:107", after := #[{ on := 8, ground := Go.Ground.data }, { on := 10, ground := Go.Ground.data }, { on := 5, ground := Go.Ground.guard }], guard := some (5, true) }) (v := ?_) rfl (by kernel_rfl) (by kernel_rfl) (by kernel_rfl) (by kernel_rfl) (by kernel_rfl) (fun _ _ _ h => h) (Or.inl ⟨by rfl, ?_⟩) hHeld ?_
      rotate_left
      · first | (intro w hSw; (try dsimp only at hSw); (try go_split_ands); go_simp; done) | (intro w hSw; (try dsimp only at hSw); (try go_split_ands); go_simp; with_reducible rfl)
      try simp only [Act.put, List.setIfInBounds_toArray, List.set_cons_zero, List.set_cons_succ]
      refine wpAnyLast_take (i := 12) (oi := { dst := some 79, op := Go.Op.pick (Go.Operand.tmp 72) (Go.Operand.tmp 78) (Go.Operand.const (Go.Value.bool false)), type := 4, pos := "law.go:107", after := #[{ on := 5, ground := Go.Ground.data }, { on := 11, ground := Go.Ground.data }], guard := none }) (v := ?_) rfl (by kernel_rfl) (by kernel_rfl) (by kernel_rfl) (by kernel_rfl) (by kernel_rfl) (fun _ _ _ h => h) (Or.inl ⟨by rfl, ?_⟩) hHeld ?_
      rotate_left
      · first | (intro w hSw; (try dsimp only at hSw); (try go_split_ands); go_simp; done) | (intro w hSw; (try dsimp only at hSw); (try go_split_ands); go_simp; with_reducible rfl)
      try simp only [Act.put, List.setIfInBounds_toArray, List.set_cons_zero, List.set_cons_succ]
      refine wpAnyLast_take (i := 13) (oi := { dst := some 80, op := Go.Op.move (Go.Operand.tmp 79), type := 4, pos := "law.go:107", after := #[{ on := 12, ground := Go.Ground.data }, { on := 8, ground := Go.Ground.chain }], guard := none }) (v := ?_) rfl (by kernel_rfl) (by kernel_rfl) (by kernel_rfl) (by kernel_rfl) (by kernel_rfl) (fun _ _ _ h => h) (Or.inl ⟨by rfl, ?_⟩) hHeld ?_
      rotate_left
      · first | (intro w hSw; (try dsimp only at hSw); (try go_split_ands); go_simp; done) | (intro w hSw; (try dsimp only at hSw); (try go_split_ands); go_simp; with_reducible rfl)
      try simp only [Act.put, List.setIfInBounds_toArray, List.set_cons_zero, List.set_cons_succ]
      refine wpAnyLast_take (i := 14) (oi := { dst := some 81, op := Go.Op.load 25 (Go.Operand.tmp 6), type := 25, pos := "law.go:107", after := #[{ on := 13, ground := Go.Ground.guard }], guard := some (13, true) }) (v := ?_) rfl (by kernel_rfl) (by kernel_rfl) (by kernel_rfl) (by kernel_rfl) (by kernel_rfl) (fun _ _ _ h => h) (Or.inl ⟨by rfl, ?_⟩) hHeld ?_
      rotate_left
      · first | (intro w hSw; (try dsimp only at hSw); (try go_split_ands); go_simp; done) | (intro w hSw; (try dsimp only at hSw); (try go_split_ands); go_simp; with_reducible rfl)
      try simp only [Act.put, List.setIfInBounds_toArray, List.set_cons_zero, List.set_cons_succ]
      refine wpAnyLast_take (i := 16) (oi := { dst := some 83, op := Go.Op.load 25 (Go.Operand.tmp 6), type := 25, pos := "law.go:107", after := #[{ on := 13, ground := Go.Ground.guard }], guard := some (13, true) }) (v := ?_) rfl (by kernel_rfl) (by kernel_rfl) (by kernel_rfl) (by kernel_rfl) (by kernel_rfl) (fun _ _ _ h => h) (Or.inl ⟨by rfl, ?_⟩) hHeld ?_
      rotate_left
      · first | (intro w hSw; (try dsimp only at hSw); (try go_split_ands); go_simp; done) | (intro w hSw; (try dsimp only at hSw); (try go_split_ands); go_simp; with_reducible rfl)
      try simp only [Act.put, List.setIfInBounds_toArray, List.set_cons_zero, List.set_cons_succ]
      refine wpAnyLast_ready (rs := [15]) (by kernel_rfl) (by simp) ?_
      refine AllReadyL.cons (o := { dst := some 82, op := Go.Op.call { callee := Go.Callee.value (Go.Operand.func 18), args := #[Go.Operand.tmp 81], argTypes := #[25] }, type := 3, pos := "law.go:107", after := #[{ on := 14, ground := Go.Ground.data }, { on := 13, ground := Go.Ground.chain }, { on := 13, ground := Go.Ground.guard }], guard := some (13, true) }) rfl (by decide) (fun K hK => ?_) AllReadyL.nil
      go_simp
      (with_reducible refine (HC18.out _ (HRV.out)).mono ?_)
      rintro e w117 ⟨rfl, hb⟩
      have K6 := Aside0.mk (blk_below K6.out hb)
      have HRV := Aside0.mk (HRV.out.kept hb)
      have HB := Aside0.mk (below_step HB.out hb)
      clear hb
      refine hK.out _ _ (⟨blk_cell K6.out 0, blk_cell K6.out 1, blk_cell K6.out 2, blk_cell K6.out 3, blk_cell K6.out 4⟩) (fun hHeld => ?_)
      clear hK K
      try simp only [Act.put, List.setIfInBounds_toArray, List.set_cons_zero, List.set_cons_succ]
      refine wpAnyLast_ready (rs := [17]) (by kernel_rfl) (by simp) ?_
      refine AllReadyL.cons (o := { dst := some 84, op := Go.Op.call { callee := Go.Callee.value (Go.Operand.func 19), args := #[Go.Operand.tmp 83], argTypes := #[25] }, type := 3, pos := "law.go:107", after := #[{ on := 16, ground := Go.Ground.data }, { on := 15, ground := Go.Ground.chain }, { on := 13, ground := Go.Ground.guard }], guard := some (13, true) }) rfl (by decide) (fun K hK => ?_) AllReadyL.nil
      go_simp
      (with_reducible refine (HC19.out _ (HRV.out)).mono ?_)
      rintro e w118 ⟨rfl, hb⟩
      have K6 := Aside0.mk (blk_below K6.out hb)
      have HRV := Aside0.mk (HRV.out.kept hb)
      have HB := Aside0.mk (below_step HB.out hb)
      clear hb
      refine hK.out _ _ (⟨blk_cell K6.out 0, blk_cell K6.out 1, blk_cell K6.out 2, blk_cell K6.out 3, blk_cell K6.out 4⟩) (fun hHeld => ?_)
      clear hK K
      try simp only [Act.put, List.setIfInBounds_toArray, List.set_cons_zero, List.set_cons_succ]
      refine wpAnyLast_take (i := 18) (oi := { dst := some 85, op := Go.Op.binOp Go.BinOp.eql 3 (Go.Operand.tmp 82) (Go.Operand.tmp 84) 3, type := 4, pos := "law.go:107", after := #[{ on := 15, ground := Go.Ground.data }, { on := 17, ground := Go.Ground.data }, { on := 13, ground := Go.Ground.guard }], guard := some (13, true) }) (v := ?_) rfl (by kernel_rfl) (by kernel_rfl) (by kernel_rfl) (by kernel_rfl) (by kernel_rfl) (fun _ _ _ h => h) (Or.inl ⟨by rfl, ?_⟩) hHeld ?_
      rotate_left
      · first | (intro w hSw; (try dsimp only at hSw); (try go_split_ands); go_simp; done) | (intro w hSw; (try dsimp only at hSw); (try go_split_ands); go_simp; with_reducible rfl)
      try simp only [Act.put, List.setIfInBounds_toArray, List.set_cons_zero, List.set_cons_succ]
      refine wpAnyLast_take (i := 19) (oi := { dst := some 86, op := Go.Op.pick (Go.Operand.tmp 80) (Go.Operand.tmp 85) (Go.Operand.const (Go.Value.bool false)), type := 4, pos := "law.go:107", after := #[{ on := 13, ground := Go.Ground.data }, { on := 18, ground := Go.Ground.data }], guard := none }) (v := ?_) rfl (by kernel_rfl) (by kernel_rfl) (by kernel_rfl) (by kernel_rfl) (by kernel_rfl) (fun _ _ _ h => h) (Or.inl ⟨by rfl, ?_⟩) hHeld ?_
      rotate_left
      · first | (intro w hSw; (try dsimp only at hSw); (try go_split_ands); go_simp; done) | (intro w hSw; (try dsimp only at hSw); (try go_split_ands); go_simp; with_reducible rfl)
      try simp only [Act.put, List.setIfInBounds_toArray, List.set_cons_zero, List.set_cons_succ]
      refine wpAnyLast_take (i := 20) (oi := { dst := some 4, op := Go.Op.assign (Go.Operand.tmp 86), type := 4, pos := "law.go:107", after := #[{ on := 19, ground := Go.Ground.data }, { on := 17, ground := Go.Ground.chain }, { on := 0, ground := Go.Ground.phase }, { on := 1, ground := Go.Ground.phase }, { on := 2, ground := Go.Ground.phase }, { on := 3, ground := Go.Ground.phase }, { on := 4, ground := Go.Ground.phase }, { on := 5, ground := Go.Ground.phase }, { on := 6, ground := Go.Ground.phase }, { on := 7, ground := Go.Ground.phase }, { on := 8, ground := Go.Ground.phase }, { on := 9, ground := Go.Ground.phase }, { on := 10, ground := Go.Ground.phase }, { on := 11, ground := Go.Ground.phase }, { on := 12, ground := Go.Ground.phase }, { on := 13, ground := Go.Ground.phase }, { on := 14, ground := Go.Ground.phase }, { on := 15, ground := Go.Ground.phase }, { on := 16, ground := Go.Ground.phase }, { on := 17, ground := Go.Ground.phase }, { on := 18, ground := Go.Ground.phase }, { on := 19, ground := Go.Ground.phase }], guard := none }) (v := ?_) rfl (by kernel_rfl) (by kernel_rfl) (by kernel_rfl) (by kernel_rfl) (by kernel_rfl) (fun _ _ _ h => h) (Or.inl ⟨by rfl, ?_⟩) hHeld ?_
      rotate_left
      · first | (intro w hSw; (try dsimp only at hSw); (try go_split_ands); go_simp; done) | (intro w hSw; (try dsimp only at hSw); (try go_split_ands); go_simp; with_reducible rfl)
      try simp only [Act.put, List.setIfInBounds_toArray, List.set_cons_zero, List.set_cons_succ]
      refine wpAnyLast_done (by kernel_rfl) ?_ _
      go_wp2
      go_ret
      exact ⟨rfl, HB.out⟩
end Go.Proofs.YtejfmghjmhiodaaGreatDoor.Vz
namespace Go.Proofs.YtejfmghjmhiodaaGreatDoor.VzLimitsW
open Go.RowKit
set_option linter.unusedVariables false
theorem walk (u : Int) (wu : (Lit.int .u8 u).wf = true) (v : Int) (wv : (Lit.int .u8 v).wf = true) (W : World) (T : Vz.Tabs3 W) :
    Calls Tryz.prog 5 #[.int .u8 u, .int .u8 v] W fun e W' => e = .returned (.bool true) ∧ Below W.heap.size W W' := by
  have h2 : 0 ≤ u ∧ u < 256 := by
    simp [Lit.wf, IntKind.min, IntKind.max, IntKind.bits, IntKind.signed] at wu
    omega
  have h3 : 0 ≤ v ∧ v < 256 := by
    simp [Lit.wf, IntKind.min, IntKind.max, IntKind.bits, IntKind.signed] at wv
    omega
  exact Vz.limits5 (fun a b w => Tryz.strings_Compare a b w) W T u v h2.1 h2.2 h3.1 h3.2
end Go.Proofs.YtejfmghjmhiodaaGreatDoor.VzLimitsW
/- The statement ValueLimits, for every input, without a condition: the law returns true and leaves its arguments as they were. (Just how long a text, how many items, how deep lists may be) -/
namespace Go.Proofs.YtejfmghjmhiodaaGreatDoor.valueLimits
open Go.ChangeShapes Go.WideShapes Go.ChangeAt Go.RowKit
open Go.ChangeMaps (open_string shut_string)
set_option linter.unusedVariables false
theorem own : ownKnob Tryz.prog.godebug = none := by kernel_rfl
set_option maxRecDepth 100000 in
theorem lifted (os : Os) (started : os.Started) (H : Type) (enc : TypeId × Value → H) :
    ReturnsInHanded {} Tryz.checked os 5 .any (fun w args => (Rows.valueLimitsSpec.pre enc Tryz.prog Tryz.f5 [] false w args ∧ laidMetH Tryz.prog VzRow.laid5 w) ∧ sizedMet enc Tryz.prog Tryz.f5 (OpenSpec.ofChange Rows.valueLimitsSpec) false w args) (Rows.valueLimitsSpec.post enc Tryz.prog Tryz.f5 false true false false) := by
  refine VzRow.returns_and_shaped (C := Tryz.checked) (X := fun w _ => laidMetH Tryz.prog VzRow.laid5 w) (fun _ _ _ hh h => h.of_heap hh) own started (by kernel_rfl) Tryz.func5
    (ChangeSpec.witness_shaped (enc := enc) (C := Tryz.checked) (os := os) (X := fun w _ => laidMetH Tryz.prog VzRow.laid5 w) false (World.laidAll Tryz.prog os VzRow.laid5) #[.int .u8 0, .int .u8 0] 8 (World.laidAll_os _ _ _) (World.shaped_of_ZipB (by kernel_rfl) (by kernel_rfl)) (by kernel_rfl) (by kernel_rfl) (by kernel_rfl) (VzRow.door_met os _)) ?_
  intro W base args ds gs before hval0 hW hL hsh hwt
  have hval : ∀ (j : Nat) t v, Tryz.f5.params[j]? = some t → args[j]? = some v → Value.okWide Tryz.prog W .any base t v := hval0
  have hW' := hW
  obtain ⟨p, q, hA0, hV, rfl, hfz, hnd⟩ := hW
  have hA : DataW.TrodAll enc Tryz.prog W 0 (fun _ => true) true Tryz.f5.params.toList args.toList ds p := hA0
  rw [Tryz.params5] at hA hval
  obtain ⟨v0, vs0, d0, ds0, p0, q0, hargs, rfl, rfl, h0, r0⟩ := trodAll_cons hA
  obtain ⟨v1, vs1, d1, ds1, p1, q1, rfl, rfl, rfl, h1, r1⟩ := trodAll_cons r0
  obtain ⟨rfl, rfl, rfl⟩ := trodAll_nil r1
  obtain rfl : args = #[v0, v1] := by cases args; simp_all
  obtain ⟨rfl, rfl⟩ := trodVars_none hV
  obtain ⟨a0, rfl, rfl, rfl, w0⟩ := open_int Tryz.underlying5 (hval 0 5 v0 rfl rfl) h0
  obtain ⟨a1, rfl, rfl, rfl, w1⟩ := open_int Tryz.underlying5 (hval 1 5 v1 rfl rfl) h1
  clear hA0 hval0
  refine (VzLimitsW.walk a0 w0 a1 w1 W (VzRow.ok_of_laid hL hsh)).mono fun e W' ⟨he, bel⟩ => ?_
  subst he
  exact ⟨_, rfl, _, _, _, [], _, [], hW', trodAll_mk1 (shut_bool Tryz.underlying4 _), (trodAll_cons_mk (shut_int Tryz.underlying5 w0) (trodAll_cons_mk (shut_int Tryz.underlying5 w1) trodAll_mk0)), rfl, bel.frame _, fun h => by cases h⟩
theorem over : Rows.valueLimitsRow.holds Tryz.pinned (OpenSpec.ofChange Rows.valueLimitsSpec) :=
  OpenClaim.holds_of_wide 5 Tryz.f5 rfl rfl rfl rfl rfl rfl rfl ⟨rfl, rfl, rfl, rfl, rfl⟩ rfl rfl rfl rfl rfl (by kernel_rfl) Tryz.func5 (by kernel_rfl)
    (of_decide_eq_true (by kernel_rfl)) (by unfold Func.isWrapper; first | (rw [if_pos (by decide +kernel)]; kernel_rfl) | (rw [if_neg (by decide +kernel)]; exact ⟨rfl, rfl⟩))
    (fun os started H enc _ => lifted os started H enc)
theorem proved : Rows.ValueLimitsSaid := over
#print axioms proved
end Go.Proofs.YtejfmghjmhiodaaGreatDoor.valueLimits
namespace Go.Proofs.YtejfmghjmhiodaaGreatDoor
/-- The row, under a short name, for the claim. -/
theorem valueLimits_holds : Rows.ValueLimitsSaid := valueLimits.proved
end Go.Proofs.YtejfmghjmhiodaaGreatDoor
