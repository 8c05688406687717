/- Lemmas of the proof, part 3 of 3. -/
import Derived.Deep.RegionHeld3
import Derived.OpenShut
import Derived.Test.YtejfmghjmhiodaaGreatDoorRows
import Derived.Laws.Cover2
import Derived.WalkKit
import Derived.ProofKit
import Derived.ShutString
import Derived.ChangeOld
import Derived.Below
import Derived.SizedLaws
import Derived.Test.YtejfmghjmhiodaaGreatDoorPkClones2
namespace Go.Proofs.YtejfmghjmhiodaaGreatDoor.Vz
open Go.RowKit Go.Proofs.YtejfmghjmhiodaaGreatDoorW.PrintWords
set_option linter.unusedVariables false
set_option linter.unusedSimpArgs false
attribute [local go_sem] store_float

mutual
def strangeV : Val → Bool
  | .mk k _ _ _ l => if kindV k = k then (if k = 4 then stranges l else false) else true
def stranges : List Val → Bool
  | [] => false
  | x :: r => if strangeV x = true then true else stranges r
end
theorem stranges_nil : stranges [] = false := by rw [stranges]
theorem stranges_cons (x : Val) (r : List Val) : stranges (x :: r) = if strangeV x = true then true else stranges r := by rw [stranges]
def StrangeC (v : Val) : Prop := ∀ (W : World) (ok : Nat → Prop) (cs : Array Value), RV W ok v cs → Calls Tryz.prog 39 #[.agg cs] W fun e w' => e = .returned (.bool (strangeV v)) ∧ Below W.heap.size W w'
theorem enters39 (args : Array Value) (W : World) : (callFunc 39 args).run Tryz.prog W = .ok (.enter 39 args) W := by kernel_rfl
theorem enters58 (args : Array Value) (W : World) : (callFunc 58 args).run Tryz.prog W = .ok (.enter 58 args) W := by kernel_rfl

set_option maxHeartbeats 8000000 in
set_option maxRecDepth 100000 in
theorem index71s (k i : Int) (f : Nat) (s : ByteArray) (l : List Val) (hE : ∀ (j : Nat) (hj : j < l.length), StrangeC l[j]) (W : World) (ok : Nat → Prop) (x0 x1 x2 x3 : Value) (A : Option Addr) (c : Nat)
    (hR : RV W ok (.mk k i f s l) #[x0, x1, x2, x3, .slice A l.length c]) :
    Calls Tryz.prog 71 #[.slice A l.length c, .func (.func 39) #[] #[]] W fun e w' => ∃ r : Int, e = .returned (.int .i64 r) ∧ decide (0 ≤ r) = stranges l ∧ Below W.heap.size W w' := by
  obtain ⟨A0, c0, e0, wk, wi, wf, ws, wc, wb⟩ := hR.len
  have HI := Aside0.mk hE
  have HR := Aside0.mk hR
  have HWB := Aside0.mk (show (l.length : Int) * 64 ≤ 140737488351232 by omega)
  have hnn : (0 : Int) ≤ (l.length : Int) := by omega
  have hent := enters39
  clear hE hR wk wi wf ws wc wb e0
  obtain ⟨n, hn⟩ : ∃ n, l.length = n := ⟨_, rfl⟩
  have HNL := Aside0.mk hn
  rw [hn] at HR HWB hnn ⊢
  clear hn
  obtain ⟨O, hO⟩ : ∃ O, stranges l = O := ⟨_, rfl⟩
  rw [hO]
  have HO := Aside0.mk hO
  clear hO
  go_enter Tryz.func71, Tryz.ntmps71
  go_wp2
  go_loopw [8] (fun ix wr => ∃ j : Nat, j ≤ n ∧ ix = .int .i64 (j : Int) ∧ Aside0 (Below W.heap.size W wr) ∧ Aside0 (stranges (l.drop j) = O)) (fun ix _ => n - (intOf ix).toNat)
  case atStart => exact ⟨0, by omega, rfl, Aside0.mk (Below.refl _ _), HO⟩
  case round =>
    obtain ⟨j, hj, rfl, HB', HOj⟩ := hrel
    by_cases hlt : j < n
    · have hji : (j : Int) < (n : Int) := by omega
      have hj0 : (0 : Int) ≤ (j : Int) := by omega
      have hjl : j < l.length := by rw [HNL.out]; exact hlt
      obtain ⟨g, off, k', i', f', s', A', n', c', rfl, hg1, hg2, hsub, p0, p1, p2, p3, p4⟩ := (HR.out.kept HB'.out).elem j hjl
      have hih := HI.out j hjl
      have HOj2 := Aside0.mk HOj.out
      rw [dropAt l j hjl, stranges_cons] at HOj2
      generalize l[j] = x at hsub hih HOj2
      have HSub := Aside0.mk hsub
      have HIx := Aside0.mk hih
      obtain ⟨o, ho⟩ : ∃ o, strangeV x = o := ⟨_, rfl⟩
      have HOo := Aside0.mk ho
      have hwk : IntKind.i64.wrap ((j : Int) + 1) = ((j + 1 : Nat) : Int) := by have := HWB.out; rw [IntKind.wrap_i64]; omega
      clear hsub hih hjl hg1 hg2 ho
      rw [HOo.out] at HOj2
      cases o
      · have HN := Aside0.mk (show stranges (l.drop (j + 1)) = O by have := HOj2.out; rwa [if_neg (by decide)] at this)
        go_wp2_with (first
          | (go_at_call 39; refine (HIx.out _ _ _ HSub.out).mono ?_; rw [HOo.out]; rintro e w4 ⟨rfl, hb⟩; have HB2 := Aside0.mk (below_step HB'.out hb); clear hb))
        go_roundw
        case rel => exact ⟨j + 1, by omega, by go_num, HB2, HN⟩
        case measure => simp [intOf]; omega
      · have HN := Aside0.mk (show true = O by have := HOj2.out; rwa [if_pos rfl] at this)
        go_wp2_with (first
          | (go_at_call 39; refine (HIx.out _ _ _ HSub.out).mono ?_; rw [HOo.out]; rintro e w4 ⟨rfl, hb⟩; have HB2 := Aside0.mk (below_step HB'.out hb); clear hb))
        go_ret
        exact ⟨j, rfl, by rw [← HN.out]; simp, HB2.out⟩
    · obtain rfl : j = n := by omega
      have HOj2 := Aside0.mk HOj.out
      rw [show l.drop j = [] from List.drop_eq_nil_of_le (by rw [HNL.out]; omega), stranges_nil] at HOj2
      go_wp2
      go_ret
      exact ⟨-1, rfl, by rw [← HOj2.out]; rfl, HB'.out⟩


set_option maxHeartbeats 8000000 in
set_option maxRecDepth 100000 in
theorem contains57s (k i : Int) (f : Nat) (s : ByteArray) (l : List Val) (hE : ∀ (j : Nat) (hj : j < l.length), StrangeC l[j]) (W : World) (ok : Nat → Prop) (x0 x1 x2 x3 : Value) (A : Option Addr) (c : Nat)
    (hR : RV W ok (.mk k i f s l) #[x0, x1, x2, x3, .slice A l.length c]) :
    Calls Tryz.prog 57 #[.slice A l.length c, .func (.func 39) #[] #[]] W fun e w' => e = .returned (.bool (stranges l)) ∧ Below W.heap.size W w' := by
  have H := Aside0.mk (index71s k i f s l hE W ok x0 x1 x2 x3 A c hR)
  clear hE hR
  go_enter Tryz.func57, Tryz.ntmps57
  go_wp2_with (go_at_call 71; refine H.out.mono ?_; rintro e w1 ⟨r, rfl, hr, hb⟩; have HR := Aside0.mk hr; have HB := Aside0.mk hb; clear hr hb)
  go_ret
  exact ⟨by rw [← HR.out]; rfl, HB.out⟩

theorem fiveS {W w : World} {gb : Nat} {k i : Int} {f : Nat} {s : ByteArray} {l : List Val} {A : Option Addr} {c : Nat} (KB : W.heap[gb]? = some (.cells #[.int .i64 k, .int .i64 i, .float .f64 f, .string s, .slice A l.length c] 25 (0, 0))) (h : Below W.heap.size W w) : w.cell? ⟨gb, 0, none⟩ = some (.int .i64 k) ∧ w.cell? ⟨gb, 1, none⟩ = some (.int .i64 i) ∧ w.cell? ⟨gb, 2, none⟩ = some (.float .f64 f) ∧ w.cell? ⟨gb, 3, none⟩ = some (.string s) ∧ w.cell? ⟨gb, 4, none⟩ = some (.slice A l.length c) :=
  ⟨blk_cell (blk_below KB h) 0, blk_cell (blk_below KB h) 1, blk_cell (blk_below KB h) 2, blk_cell (blk_below KB h) 3, blk_cell (blk_below KB h) 4⟩

set_option maxHeartbeats 8000000 in
set_option maxRecDepth 100000 in
theorem strange_ne (k i : Int) (f : Nat) (s : ByteArray) (l : List Val) (A : Option Addr) (c : Nat) (hk : kindV k ≠ k) (W : World) (ok : Nat → Prop) (hR : RV W ok (.mk k i f s l) #[.int .i64 k, .int .i64 i, .float .f64 f, .string s, .slice A l.length c]) :
    Calls Tryz.prog 39 #[.agg #[.int .i64 k, .int .i64 i, .float .f64 f, .string s, .slice A l.length c]] W fun e w' => e = .returned (.bool true) ∧ Below W.heap.size W w' := by
  have e1 : (k != kindV k) = true := bne_iff_ne.2 fun x => hk x.symm
  clear hk
  have HR := Aside0.mk hR
  have h31 := fun W => kind31 k i f s A l.length c W
  have H31 := Aside0.mk h31
  clear hR h31
  go_enter Tryz.func39, Tryz.ntmps39
  go_upto_region 1 with (first
    | ((with_reducible refine gate_dst (N := 1) rfl ?_); refine box_event ?hg (N := 1) ?hd (cs := #[.int .i64 k, .int .i64 i, .float .f64 f, .string s, .slice A l.length c]) (t := 25) ?hr ?_; (case hd => rfl); (case hg => rfl); (case hr => first | (go_simp; done) | (go_simp; rfl)); intro gb hg w1 hbox hb; have HB := Aside0.mk hb; have KB := Aside0.mk hbox; clear hg hbox hb))
  have b0 : w1.cell? ⟨gb, 0, none⟩ = some (.int .i64 k) := blk_cell KB.out 0
  have b1 : w1.cell? ⟨gb, 1, none⟩ = some (.int .i64 i) := blk_cell KB.out 1
  have b2 : w1.cell? ⟨gb, 2, none⟩ = some (.float .f64 f) := blk_cell KB.out 2
  have b3 : w1.cell? ⟨gb, 3, none⟩ = some (.string s) := blk_cell KB.out 3
  have b4 : w1.cell? ⟨gb, 4, none⟩ = some (.slice A l.length c) := blk_cell KB.out 4
  refine wp_region_held_drew (S := fun w' => w'.cell? ⟨gb, 0, none⟩ = some (.int .i64 k) ∧ w'.cell? ⟨gb, 1, none⟩ = some (.int .i64 i) ∧ w'.cell? ⟨gb, 2, none⟩ = some (.float .f64 f) ∧ w'.cell? ⟨gb, 3, none⟩ = some (.string s) ∧ w'.cell? ⟨gb, 4, none⟩ = some (.slice A l.length c)) (by kernel_rfl) ?_ (fun hHeld => ?_)
  · exact ⟨b0, b1, b2, b3, b4⟩
  refine wpAnyH_take (i := 0) (oi := { dst := some 3, op := Go.Op.fieldAddr 25 (Go.Operand.tmp 1) 0, type := 0, pos := "value.go:47", after := #[], guard := none }) (v := ?_) rfl (by kernel_rfl) (by kernel_rfl) (by kernel_rfl) (fun _ _ _ h => h) (Or.inl ⟨by rfl, ?_⟩) (by assumption) ?_
  rotate_left
  · first | (intro w hSw; (try dsimp only at hSw); go_simp; done) | (intro w hSw; (try dsimp only at hSw); go_simp; with_reducible rfl)
  try simp only [Act.put, List.setIfInBounds_toArray, List.set_cons_zero, List.set_cons_succ]
  refine wpAnyH_take (i := 1) (oi := { dst := some 4, op := Go.Op.load 3 (Go.Operand.tmp 3), type := 3, pos := "value.go:47", after := #[{ on := 0, ground := Go.Ground.data }], guard := none }) (v := ?_) rfl (by kernel_rfl) (by kernel_rfl) (by kernel_rfl) (fun _ _ _ h => h) (Or.inl ⟨by rfl, ?_⟩) (by assumption) ?_
  rotate_left
  · first | (intro w hSw; (try dsimp only at hSw); go_simp; done) | (intro w hSw; (try dsimp only at hSw); go_simp; with_reducible rfl)
  try simp only [Act.put, List.setIfInBounds_toArray, List.set_cons_zero, List.set_cons_succ]
  refine wpAnyH_take (i := 2) (oi := { dst := some 5, op := Go.Op.load 25 (Go.Operand.tmp 1), type := 25, pos := "value.go:47", after := #[], guard := none }) (v := ?_) rfl (by kernel_rfl) (by kernel_rfl) (by kernel_rfl) (fun _ _ _ h => h) (Or.inl ⟨by rfl, ?_⟩) (by assumption) ?_
  rotate_left
  · first | (intro w hSw; (try dsimp only at hSw); go_simp; done) | (intro w hSw; (try dsimp only at hSw); go_simp; with_reducible rfl)
  try simp only [Act.put, List.setIfInBounds_toArray, List.set_cons_zero, List.set_cons_succ]
  refine wpAnyH_ready (rs := [3]) (by kernel_rfl) (by simp) ?_
  refine AllReadyH.cons (o := { dst := some 6, op := Go.Op.call { callee := Go.Callee.value (Go.Operand.func 31), args := #[Go.Operand.tmp 5], argTypes := #[25] }, type := 3, pos := "value.go:47", after := #[{ on := 2, ground := Go.Ground.data }], guard := none }) rfl (fun K hK => ?_) AllReadyH.nil
  go_simp
  refine (H31.out _).mono ?_
  rintro e w2 ⟨rfl, hb⟩
  refine hK.out _ _ ?_ (fun hHeld => ?_)
  · exact fiveS (W := w1.drew) KB.out hb
  clear hK K
  try simp only [Act.put, List.setIfInBounds_toArray, List.set_cons_zero, List.set_cons_succ]
  refine wpAnyH_take (i := 4) (oi := { dst := some 7, op := Go.Op.binOp Go.BinOp.neq 3 (Go.Operand.tmp 4) (Go.Operand.tmp 6) 3, type := 4, pos := "value.go:47", after := #[{ on := 1, ground := Go.Ground.data }, { on := 3, ground := Go.Ground.data }], guard := none }) (v := ?_) rfl (by kernel_rfl) (by kernel_rfl) (by kernel_rfl) (fun _ _ _ h => h) (Or.inl ⟨by rfl, ?_⟩) (by assumption) ?_
  rotate_left
  · first | (intro w hSw; (try dsimp only at hSw); go_simp; done) | (intro w hSw; (try dsimp only at hSw); go_simp; with_reducible rfl)
  try simp only [Act.put, List.setIfInBounds_toArray, List.set_cons_zero, List.set_cons_succ]
  refine wpAnyH_take (i := 5) (oi := { dst := some 8, op := Go.Op.move (Go.Operand.tmp 7), type := 4, pos := "value.go:47", after := #[{ on := 4, ground := Go.Ground.data }, { on := 3, ground := Go.Ground.chain }], guard := none }) (v := ?_) rfl (by kernel_rfl) (by kernel_rfl) (by kernel_rfl) (fun _ _ _ h => h) (Or.inl ⟨by rfl, ?_⟩) (by assumption) ?_
  rotate_left
  · first | (intro w hSw; (try dsimp only at hSw); go_simp; done) | (intro w hSw; (try dsimp only at hSw); go_simp; with_reducible rfl)
  try simp only [Act.put, List.setIfInBounds_toArray, List.set_cons_zero, List.set_cons_succ]
  refine wpAnyH_take (i := 6) (oi := { dst := some 9, op := Go.Op.fieldAddr 25 (Go.Operand.tmp 1) 0, type := 0, pos := "value.go:47", after := #[{ on := 5, ground := Go.Ground.guard }], guard := some (5, false) }) (v := undef) rfl (by kernel_rfl) (by kernel_rfl) (by kernel_rfl) (fun _ _ _ h => h) (Or.inr ⟨by rfl, rfl⟩) (by assumption) ?_
  try simp only [Act.put, List.setIfInBounds_toArray, List.set_cons_zero, List.set_cons_succ]
  refine wpAnyH_take (i := 7) (oi := { dst := some 10, op := Go.Op.load 3 (Go.Operand.tmp 9), type := 3, pos := "value.go:47", after := #[{ on := 6, ground := Go.Ground.data }, { on := 5, ground := Go.Ground.guard }], guard := some (5, false) }) (v := undef) rfl (by kernel_rfl) (by kernel_rfl) (by kernel_rfl) (fun _ _ _ h => h) (Or.inr ⟨by rfl, rfl⟩) (by assumption) ?_
  try simp only [Act.put, List.setIfInBounds_toArray, List.set_cons_zero, List.set_cons_succ]
  refine wpAnyH_take (i := 8) (oi := { dst := some 11, op := Go.Op.binOp Go.BinOp.eql 3 (Go.Operand.tmp 10) (Go.Operand.const (Go.Value.int Go.IntKind.i64 4)) 3, type := 4, pos := "value.go:47", after := #[{ on := 7, ground := Go.Ground.data }, { on := 5, ground := Go.Ground.guard }], guard := some (5, false) }) (v := undef) rfl (by kernel_rfl) (by kernel_rfl) (by kernel_rfl) (fun _ _ _ h => h) (Or.inr ⟨by rfl, rfl⟩) (by assumption) ?_
  try simp only [Act.put, List.setIfInBounds_toArray, List.set_cons_zero, List.set_cons_succ]
  refine wpAnyH_take (i := 9) (oi := { dst := some 12, op := Go.Op.move (Go.Operand.tmp 11), type := 4, pos := "value.go:47", after := #[{ on := 8, ground := Go.Ground.data }, { on := 5, ground := Go.Ground.chain }, { on := 5, ground := Go.Ground.guard }], guard := some (5, false) }) (v := undef) rfl (by kernel_rfl) (by kernel_rfl) (by kernel_rfl) (fun _ _ _ h => h) (Or.inr ⟨by rfl, rfl⟩) (by assumption) ?_
  try simp only [Act.put, List.setIfInBounds_toArray, List.set_cons_zero, List.set_cons_succ]
  refine wpAnyH_take (i := 10) (oi := { dst := some 13, op := Go.Op.fieldAddr 25 (Go.Operand.tmp 1) 4, type := 0, pos := "value.go:47", after := #[{ on := 9, ground := Go.Ground.guard }], guard := some (9, true) }) (v := undef) rfl (by kernel_rfl) (by kernel_rfl) (by kernel_rfl) (fun _ _ _ h => h) (Or.inr ⟨by rfl, rfl⟩) (by assumption) ?_
  try simp only [Act.put, List.setIfInBounds_toArray, List.set_cons_zero, List.set_cons_succ]
  refine wpAnyH_take (i := 11) (oi := { dst := some 14, op := Go.Op.load 23 (Go.Operand.tmp 13), type := 23, pos := "value.go:47", after := #[{ on := 10, ground := Go.Ground.data }, { on := 9, ground := Go.Ground.guard }], guard := some (9, true) }) (v := undef) rfl (by kernel_rfl) (by kernel_rfl) (by kernel_rfl) (fun _ _ _ h => h) (Or.inr ⟨by rfl, rfl⟩) (by assumption) ?_
  try simp only [Act.put, List.setIfInBounds_toArray, List.set_cons_zero, List.set_cons_succ]
  refine wpAnyH_take (i := 12) (oi := { dst := some 15, op := Go.Op.call { callee := Go.Callee.value (Go.Operand.func 57), args := #[Go.Operand.tmp 14, Go.Operand.func 39], argTypes := #[23, 27] }, type := 4, pos := "value.go:47", after := #[{ on := 11, ground := Go.Ground.data }, { on := 9, ground := Go.Ground.chain }, { on := 9, ground := Go.Ground.guard }], guard := some (9, true) }) (v := undef) rfl (by kernel_rfl) (by kernel_rfl) (by kernel_rfl) (fun _ _ _ h => h) (Or.inr ⟨by rfl, rfl⟩) (by assumption) ?_
  try simp only [Act.put, List.setIfInBounds_toArray, List.set_cons_zero, List.set_cons_succ]
  refine wpAnyH_take (i := 13) (oi := { dst := some 16, op := Go.Op.pick (Go.Operand.tmp 12) (Go.Operand.tmp 15) (Go.Operand.const (Go.Value.bool false)), type := 4, pos := "value.go:47", after := #[{ on := 9, ground := Go.Ground.data }, { on := 12, ground := Go.Ground.data }, { on := 5, ground := Go.Ground.guard }], guard := some (5, false) }) (v := undef) rfl (by kernel_rfl) (by kernel_rfl) (by kernel_rfl) (fun _ _ _ h => h) (Or.inr ⟨by rfl, rfl⟩) (by assumption) ?_
  try simp only [Act.put, List.setIfInBounds_toArray, List.set_cons_zero, List.set_cons_succ]
  refine wpAnyH_take (i := 14) (oi := { dst := some 17, op := Go.Op.pick (Go.Operand.tmp 8) (Go.Operand.const (Go.Value.bool true)) (Go.Operand.tmp 16), type := 4, pos := "value.go:47", after := #[{ on := 5, ground := Go.Ground.data }, { on := 13, ground := Go.Ground.data }], guard := none }) (v := ?_) rfl (by kernel_rfl) (by kernel_rfl) (by kernel_rfl) (fun _ _ _ h => h) (Or.inl ⟨by rfl, ?_⟩) (by assumption) ?_
  rotate_left
  · first | (intro w hSw; (try dsimp only at hSw); go_simp; done) | (intro w hSw; (try dsimp only at hSw); go_simp; with_reducible rfl)
  try simp only [Act.put, List.setIfInBounds_toArray, List.set_cons_zero, List.set_cons_succ]
  refine wpAnyH_take (i := 15) (oi := { dst := some 2, op := Go.Op.assign (Go.Operand.tmp 17), type := 4, pos := "value.go:47", after := #[{ on := 14, ground := Go.Ground.data }, { on := 12, ground := Go.Ground.chain }, { on := 0, ground := Go.Ground.phase }, { on := 1, ground := Go.Ground.phase }, { on := 2, ground := Go.Ground.phase }, { on := 3, ground := Go.Ground.phase }, { on := 4, ground := Go.Ground.phase }, { on := 5, ground := Go.Ground.phase }, { on := 6, ground := Go.Ground.phase }, { on := 7, ground := Go.Ground.phase }, { on := 8, ground := Go.Ground.phase }, { on := 9, ground := Go.Ground.phase }, { on := 10, ground := Go.Ground.phase }, { on := 11, ground := Go.Ground.phase }, { on := 12, ground := Go.Ground.phase }, { on := 13, ground := Go.Ground.phase }, { on := 14, ground := Go.Ground.phase }], guard := none }) (v := ?_) rfl (by kernel_rfl) (by kernel_rfl) (by kernel_rfl) (fun _ _ _ h => h) (Or.inl ⟨by rfl, ?_⟩) (by assumption) ?_
  rotate_left
  · first | (intro w hSw; (try dsimp only at hSw); go_simp; done) | (intro w hSw; (try dsimp only at hSw); go_simp; with_reducible rfl)
  try simp only [Act.put, List.setIfInBounds_toArray, List.set_cons_zero, List.set_cons_succ]
  refine wpAnyH_done (by kernel_rfl) ?_ _
  have HB3 := Aside0.mk (below_step HB.out.drew hb)
  clear hb b0 b1 b2 b3 b4
  go_wp2
  go_ret
  exact ⟨rfl, HB3.out⟩

set_option maxHeartbeats 8000000 in
set_option maxRecDepth 100000 in
theorem strange_no (k i : Int) (f : Nat) (s : ByteArray) (l : List Val) (A : Option Addr) (c : Nat) (hk : kindV k = k) (h4 : k ≠ 4) (W : World) (ok : Nat → Prop) (hR : RV W ok (.mk k i f s l) #[.int .i64 k, .int .i64 i, .float .f64 f, .string s, .slice A l.length c]) :
    Calls Tryz.prog 39 #[.agg #[.int .i64 k, .int .i64 i, .float .f64 f, .string s, .slice A l.length c]] W fun e w' => e = .returned (.bool false) ∧ Below W.heap.size W w' := by
  have e1 : (k != kindV k) = false := by rw [hk]; simp
  have e4 : (k == 4) = false := beq_eq_false_iff_ne.2 h4
  clear hk h4
  have HR := Aside0.mk hR
  have h31 := fun W => kind31 k i f s A l.length c W
  have H31 := Aside0.mk h31
  clear hR h31
  go_enter Tryz.func39, Tryz.ntmps39
  go_upto_region 1 with (first
    | ((with_reducible refine gate_dst (N := 1) rfl ?_); refine box_event ?hg (N := 1) ?hd (cs := #[.int .i64 k, .int .i64 i, .float .f64 f, .string s, .slice A l.length c]) (t := 25) ?hr ?_; (case hd => rfl); (case hg => rfl); (case hr => first | (go_simp; done) | (go_simp; rfl)); intro gb hg w1 hbox hb; have HB := Aside0.mk hb; have KB := Aside0.mk hbox; clear hg hbox hb))
  have b0 : w1.cell? ⟨gb, 0, none⟩ = some (.int .i64 k) := blk_cell KB.out 0
  have b1 : w1.cell? ⟨gb, 1, none⟩ = some (.int .i64 i) := blk_cell KB.out 1
  have b2 : w1.cell? ⟨gb, 2, none⟩ = some (.float .f64 f) := blk_cell KB.out 2
  have b3 : w1.cell? ⟨gb, 3, none⟩ = some (.string s) := blk_cell KB.out 3
  have b4 : w1.cell? ⟨gb, 4, none⟩ = some (.slice A l.length c) := blk_cell KB.out 4
  refine wp_region_held_drew (S := fun w' => w'.cell? ⟨gb, 0, none⟩ = some (.int .i64 k) ∧ w'.cell? ⟨gb, 1, none⟩ = some (.int .i64 i) ∧ w'.cell? ⟨gb, 2, none⟩ = some (.float .f64 f) ∧ w'.cell? ⟨gb, 3, none⟩ = some (.string s) ∧ w'.cell? ⟨gb, 4, none⟩ = some (.slice A l.length c)) (by kernel_rfl) ?_ (fun hHeld => ?_)
  · exact ⟨b0, b1, b2, b3, b4⟩
  refine wpAnyH_take (i := 0) (oi := { dst := some 3, op := Go.Op.fieldAddr 25 (Go.Operand.tmp 1) 0, type := 0, pos := "value.go:47", after := #[], guard := none }) (v := ?_) rfl (by kernel_rfl) (by kernel_rfl) (by kernel_rfl) (fun _ _ _ h => h) (Or.inl ⟨by rfl, ?_⟩) (by assumption) ?_
  rotate_left
  · first | (intro w hSw; (try dsimp only at hSw); go_simp; done) | (intro w hSw; (try dsimp only at hSw); go_simp; with_reducible rfl)
  try simp only [Act.put, List.setIfInBounds_toArray, List.set_cons_zero, List.set_cons_succ]
  refine wpAnyH_take (i := 1) (oi := { dst := some 4, op := Go.Op.load 3 (Go.Operand.tmp 3), type := 3, pos := "value.go:47", after := #[{ on := 0, ground := Go.Ground.data }], guard := none }) (v := ?_) rfl (by kernel_rfl) (by kernel_rfl) (by kernel_rfl) (fun _ _ _ h => h) (Or.inl ⟨by rfl, ?_⟩) (by assumption) ?_
  rotate_left
  · first | (intro w hSw; (try dsimp only at hSw); go_simp; done) | (intro w hSw; (try dsimp only at hSw); go_simp; with_reducible rfl)
  try simp only [Act.put, List.setIfInBounds_toArray, List.set_cons_zero, List.set_cons_succ]
  refine wpAnyH_take (i := 2) (oi := { dst := some 5, op := Go.Op.load 25 (Go.Operand.tmp 1), type := 25, pos := "value.go:47", after := #[], guard := none }) (v := ?_) rfl (by kernel_rfl) (by kernel_rfl) (by kernel_rfl) (fun _ _ _ h => h) (Or.inl ⟨by rfl, ?_⟩) (by assumption) ?_
  rotate_left
  · first | (intro w hSw; (try dsimp only at hSw); go_simp; done) | (intro w hSw; (try dsimp only at hSw); go_simp; with_reducible rfl)
  try simp only [Act.put, List.setIfInBounds_toArray, List.set_cons_zero, List.set_cons_succ]
  refine wpAnyH_ready (rs := [3]) (by kernel_rfl) (by simp) ?_
  refine AllReadyH.cons (o := { dst := some 6, op := Go.Op.call { callee := Go.Callee.value (Go.Operand.func 31), args := #[Go.Operand.tmp 5], argTypes := #[25] }, type := 3, pos := "value.go:47", after := #[{ on := 2, ground := Go.Ground.data }], guard := none }) rfl (fun K hK => ?_) AllReadyH.nil
  go_simp
  refine (H31.out _).mono ?_
  rintro e w2 ⟨rfl, hb⟩
  refine hK.out _ _ ?_ (fun hHeld => ?_)
  · exact fiveS (W := w1.drew) KB.out hb
  clear hK K
  try simp only [Act.put, List.setIfInBounds_toArray, List.set_cons_zero, List.set_cons_succ]
  refine wpAnyH_take (i := 4) (oi := { dst := some 7, op := Go.Op.binOp Go.BinOp.neq 3 (Go.Operand.tmp 4) (Go.Operand.tmp 6) 3, type := 4, pos := "value.go:47", after := #[{ on := 1, ground := Go.Ground.data }, { on := 3, ground := Go.Ground.data }], guard := none }) (v := ?_) rfl (by kernel_rfl) (by kernel_rfl) (by kernel_rfl) (fun _ _ _ h => h) (Or.inl ⟨by rfl, ?_⟩) (by assumption) ?_
  rotate_left
  · first | (intro w hSw; (try dsimp only at hSw); go_simp; done) | (intro w hSw; (try dsimp only at hSw); go_simp; with_reducible rfl)
  try simp only [Act.put, List.setIfInBounds_toArray, List.set_cons_zero, List.set_cons_succ]
  refine wpAnyH_take (i := 5) (oi := { dst := some 8, op := Go.Op.move (Go.Operand.tmp 7), type := 4, pos := "value.go:47", after := #[{ on := 4, ground := Go.Ground.data }, { on := 3, ground := Go.Ground.chain }], guard := none }) (v := ?_) rfl (by kernel_rfl) (by kernel_rfl) (by kernel_rfl) (fun _ _ _ h => h) (Or.inl ⟨by rfl, ?_⟩) (by assumption) ?_
  rotate_left
  · first | (intro w hSw; (try dsimp only at hSw); go_simp; done) | (intro w hSw; (try dsimp only at hSw); go_simp; with_reducible rfl)
  try simp only [Act.put, List.setIfInBounds_toArray, List.set_cons_zero, List.set_cons_succ]
  refine wpAnyH_take (i := 6) (oi := { dst := some 9, op := Go.Op.fieldAddr 25 (Go.Operand.tmp 1) 0, type := 0, pos := "value.go:47", after := #[{ on := 5, ground := Go.Ground.guard }], guard := some (5, false) }) (v := ?_) rfl (by kernel_rfl) (by kernel_rfl) (by kernel_rfl) (fun _ _ _ h => h) (Or.inl ⟨by rfl, ?_⟩) (by assumption) ?_
  rotate_left
  · first | (intro w hSw; (try dsimp only at hSw); go_simp; done) | (intro w hSw; (try dsimp only at hSw); go_simp; with_reducible rfl)
  try simp only [Act.put, List.setIfInBounds_toArray, List.set_cons_zero, List.set_cons_succ]
  refine wpAnyH_take (i := 7) (oi := { dst := some 10, op := Go.Op.load 3 (Go.Operand.tmp 9), type := 3, pos := "value.go:47", after := #[{ on := 6, ground := Go.Ground.data }, { on := 5, ground := Go.Ground.guard }], guard := some (5, false) }) (v := ?_) rfl (by kernel_rfl) (by kernel_rfl) (by kernel_rfl) (fun _ _ _ h => h) (Or.inl ⟨by rfl, ?_⟩) (by assumption) ?_
  rotate_left
  · first | (intro w hSw; (try dsimp only at hSw); go_simp; done) | (intro w hSw; (try dsimp only at hSw); go_simp; with_reducible rfl)
  try simp only [Act.put, List.setIfInBounds_toArray, List.set_cons_zero, List.set_cons_succ]
  refine wpAnyH_take (i := 8) (oi := { dst := some 11, op := Go.Op.binOp Go.BinOp.eql 3 (Go.Operand.tmp 10) (Go.Operand.const (Go.Value.int Go.IntKind.i64 4)) 3, type := 4, pos := "value.go:47", after := #[{ on := 7, ground := Go.Ground.data }, { on := 5, ground := Go.Ground.guard }], guard := some (5, false) }) (v := ?_) rfl (by kernel_rfl) (by kernel_rfl) (by kernel_rfl) (fun _ _ _ h => h) (Or.inl ⟨by rfl, ?_⟩) (by assumption) ?_
  rotate_left
  · first | (intro w hSw; (try dsimp only at hSw); go_simp; done) | (intro w hSw; (try dsimp only at hSw); go_simp; with_reducible rfl)
  try simp only [Act.put, List.setIfInBounds_toArray, List.set_cons_zero, List.set_cons_succ]
  refine wpAnyH_take (i := 9) (oi := { dst := some 12, op := Go.Op.move (Go.Operand.tmp 11), type := 4, pos := "value.go:47", after := #[{ on := 8, ground := Go.Ground.data }, { on := 5, ground := Go.Ground.chain }, { on := 5, ground := Go.Ground.guard }], guard := some (5, false) }) (v := ?_) rfl (by kernel_rfl) (by kernel_rfl) (by kernel_rfl) (fun _ _ _ h => h) (Or.inl ⟨by rfl, ?_⟩) (by assumption) ?_
  rotate_left
  · first | (intro w hSw; (try dsimp only at hSw); go_simp; done) | (intro w hSw; (try dsimp only at hSw); go_simp; with_reducible rfl)
  try simp only [Act.put, List.setIfInBounds_toArray, List.set_cons_zero, List.set_cons_succ]
  refine wpAnyH_take (i := 10) (oi := { dst := some 13, op := Go.Op.fieldAddr 25 (Go.Operand.tmp 1) 4, type := 0, pos := "value.go:47", after := #[{ on := 9, ground := Go.Ground.guard }], guard := some (9, true) }) (v := undef) rfl (by kernel_rfl) (by kernel_rfl) (by kernel_rfl) (fun _ _ _ h => h) (Or.inr ⟨by rfl, rfl⟩) (by assumption) ?_
  try simp only [Act.put, List.setIfInBounds_toArray, List.set_cons_zero, List.set_cons_succ]
  refine wpAnyH_take (i := 11) (oi := { dst := some 14, op := Go.Op.load 23 (Go.Operand.tmp 13), type := 23, pos := "value.go:47", after := #[{ on := 10, ground := Go.Ground.data }, { on := 9, ground := Go.Ground.guard }], guard := some (9, true) }) (v := undef) rfl (by kernel_rfl) (by kernel_rfl) (by kernel_rfl) (fun _ _ _ h => h) (Or.inr ⟨by rfl, rfl⟩) (by assumption) ?_
  try simp only [Act.put, List.setIfInBounds_toArray, List.set_cons_zero, List.set_cons_succ]
  refine wpAnyH_take (i := 12) (oi := { dst := some 15, op := Go.Op.call { callee := Go.Callee.value (Go.Operand.func 57), args := #[Go.Operand.tmp 14, Go.Operand.func 39], argTypes := #[23, 27] }, type := 4, pos := "value.go:47", after := #[{ on := 11, ground := Go.Ground.data }, { on := 9, ground := Go.Ground.chain }, { on := 9, ground := Go.Ground.guard }], guard := some (9, true) }) (v := undef) rfl (by kernel_rfl) (by kernel_rfl) (by kernel_rfl) (fun _ _ _ h => h) (Or.inr ⟨by rfl, rfl⟩) (by assumption) ?_
  try simp only [Act.put, List.setIfInBounds_toArray, List.set_cons_zero, List.set_cons_succ]
  refine wpAnyH_take (i := 13) (oi := { dst := some 16, op := Go.Op.pick (Go.Operand.tmp 12) (Go.Operand.tmp 15) (Go.Operand.const (Go.Value.bool false)), type := 4, pos := "value.go:47", after := #[{ on := 9, ground := Go.Ground.data }, { on := 12, ground := Go.Ground.data }, { on := 5, ground := Go.Ground.guard }], guard := some (5, false) }) (v := ?_) rfl (by kernel_rfl) (by kernel_rfl) (by kernel_rfl) (fun _ _ _ h => h) (Or.inl ⟨by rfl, ?_⟩) (by assumption) ?_
  rotate_left
  · first | (intro w hSw; (try dsimp only at hSw); go_simp; done) | (intro w hSw; (try dsimp only at hSw); go_simp; with_reducible rfl)
  try simp only [Act.put, List.setIfInBounds_toArray, List.set_cons_zero, List.set_cons_succ]
  refine wpAnyH_take (i := 14) (oi := { dst := some 17, op := Go.Op.pick (Go.Operand.tmp 8) (Go.Operand.const (Go.Value.bool true)) (Go.Operand.tmp 16), type := 4, pos := "value.go:47", after := #[{ on := 5, ground := Go.Ground.data }, { on := 13, ground := Go.Ground.data }], guard := none }) (v := ?_) rfl (by kernel_rfl) (by kernel_rfl) (by kernel_rfl) (fun _ _ _ h => h) (Or.inl ⟨by rfl, ?_⟩) (by assumption) ?_
  rotate_left
  · first | (intro w hSw; (try dsimp only at hSw); go_simp; done) | (intro w hSw; (try dsimp only at hSw); go_simp; with_reducible rfl)
  try simp only [Act.put, List.setIfInBounds_toArray, List.set_cons_zero, List.set_cons_succ]
  refine wpAnyH_take (i := 15) (oi := { dst := some 2, op := Go.Op.assign (Go.Operand.tmp 17), type := 4, pos := "value.go:47", after := #[{ on := 14, ground := Go.Ground.data }, { on := 12, ground := Go.Ground.chain }, { on := 0, ground := Go.Ground.phase }, { on := 1, ground := Go.Ground.phase }, { on := 2, ground := Go.Ground.phase }, { on := 3, ground := Go.Ground.phase }, { on := 4, ground := Go.Ground.phase }, { on := 5, ground := Go.Ground.phase }, { on := 6, ground := Go.Ground.phase }, { on := 7, ground := Go.Ground.phase }, { on := 8, ground := Go.Ground.phase }, { on := 9, ground := Go.Ground.phase }, { on := 10, ground := Go.Ground.phase }, { on := 11, ground := Go.Ground.phase }, { on := 12, ground := Go.Ground.phase }, { on := 13, ground := Go.Ground.phase }, { on := 14, ground := Go.Ground.phase }], guard := none }) (v := ?_) rfl (by kernel_rfl) (by kernel_rfl) (by kernel_rfl) (fun _ _ _ h => h) (Or.inl ⟨by rfl, ?_⟩) (by assumption) ?_
  rotate_left
  · first | (intro w hSw; (try dsimp only at hSw); go_simp; done) | (intro w hSw; (try dsimp only at hSw); go_simp; with_reducible rfl)
  try simp only [Act.put, List.setIfInBounds_toArray, List.set_cons_zero, List.set_cons_succ]
  refine wpAnyH_done (by kernel_rfl) ?_ _
  have HB3 := Aside0.mk (below_step HB.out.drew hb)
  clear hb b0 b1 b2 b3 b4
  go_wp2
  go_ret
  exact ⟨rfl, HB3.out⟩

set_option maxHeartbeats 8000000 in
set_option maxRecDepth 100000 in
theorem strange_4 (k i : Int) (f : Nat) (s : ByteArray) (l : List Val) (A : Option Addr) (c : Nat) (hk : k = 4) (hE : ∀ (j : Nat) (hj : j < l.length), StrangeC l[j]) (W : World) (ok : Nat → Prop) (hR : RV W ok (.mk k i f s l) #[.int .i64 k, .int .i64 i, .float .f64 f, .string s, .slice A l.length c]) :
    Calls Tryz.prog 39 #[.agg #[.int .i64 k, .int .i64 i, .float .f64 f, .string s, .slice A l.length c]] W fun e w' => e = .returned (.bool (stranges l)) ∧ Below W.heap.size W w' := by
  have e1 : (k != kindV k) = false := by rw [hk]; decide
  have e4 : (k == 4) = true := by rw [hk]; decide
  clear hk
  have h57 := Aside0.mk (fun (W' : World) (hb : Below W.heap.size W W') => contains57s k i f s l hE W' ok _ _ _ _ A c (hR.kept hb))
  obtain ⟨F, hF⟩ : ∃ F, stranges l = F := ⟨_, rfl⟩
  rw [hF] at h57 ⊢
  clear hF hE
  have HR := Aside0.mk hR
  have h31 := fun W => kind31 k i f s A l.length c W
  have H31 := Aside0.mk h31
  clear hR h31
  go_enter Tryz.func39, Tryz.ntmps39
  go_upto_region 1 with (first
    | ((with_reducible refine gate_dst (N := 1) rfl ?_); refine box_event ?hg (N := 1) ?hd (cs := #[.int .i64 k, .int .i64 i, .float .f64 f, .string s, .slice A l.length c]) (t := 25) ?hr ?_; (case hd => rfl); (case hg => rfl); (case hr => first | (go_simp; done) | (go_simp; rfl)); intro gb hg w1 hbox hb; have HB := Aside0.mk hb; have KB := Aside0.mk hbox; clear hg hbox hb))
  have b0 : w1.cell? ⟨gb, 0, none⟩ = some (.int .i64 k) := blk_cell KB.out 0
  have b1 : w1.cell? ⟨gb, 1, none⟩ = some (.int .i64 i) := blk_cell KB.out 1
  have b2 : w1.cell? ⟨gb, 2, none⟩ = some (.float .f64 f) := blk_cell KB.out 2
  have b3 : w1.cell? ⟨gb, 3, none⟩ = some (.string s) := blk_cell KB.out 3
  have b4 : w1.cell? ⟨gb, 4, none⟩ = some (.slice A l.length c) := blk_cell KB.out 4
  go_region_held3 (fun w' => w'.cell? ⟨gb, 0, none⟩ = some (.int .i64 k) ∧ w'.cell? ⟨gb, 1, none⟩ = some (.int .i64 i) ∧ w'.cell? ⟨gb, 2, none⟩ = some (.float .f64 f) ∧ w'.cell? ⟨gb, 3, none⟩ = some (.string s) ∧ w'.cell? ⟨gb, 4, none⟩ = some (.slice A l.length c)) (first | exact fiveS (W := w1.drew) KB.out (below_step hb1 hb2) | exact fiveS (W := w1.drew) KB.out hb1 | exact ⟨b0, b1, b2, b3, b4⟩)
    (first
      | (go_at_call 57; refine (h57.out _ (below_step HB.out.drew hb1)).mono ?_; rintro e w3 ⟨rfl, hb2⟩)
      | (go_at_call 31; refine (H31.out _).mono ?_; rintro e w2 ⟨rfl, hb1⟩))
  have HB3 := Aside0.mk (below_step (below_step HB.out.drew hb1) hb2)
  (try clear hHeld)
  clear hb1 hb2 b0 b1 b2 b3 b4
  go_wp2
  go_ret
  exact ⟨rfl, HB3.out⟩

theorem strange39 (v : Val) : StrangeC v := by
  induction v using Val.ind with
  | h k i f s l ih =>
    intro W ok cs hR
    obtain ⟨A, c, rfl, _⟩ := hR.len
    unfold strangeV
    by_cases hk : kindV k = k
    · rw [if_pos hk]
      by_cases h4 : k = 4
      · rw [if_pos h4]; exact strange_4 k i f s l A c h4 ih W ok hR
      · rw [if_neg h4]; exact strange_no k i f s l A c hk h4 W ok hR
    · rw [if_neg hk]; exact strange_ne k i f s l A c hk W ok hR
end Go.Proofs.YtejfmghjmhiodaaGreatDoor.Vz
namespace Go.Proofs.YtejfmghjmhiodaaGreatDoor.Vz
open Go.RowKit Go.Proofs.YtejfmghjmhiodaaGreatDoorW.PrintWords
set_option linter.unusedVariables false
set_option linter.unusedSimpArgs false
attribute [local go_sem] store_float

mutual
def greatV : Val → Int → Bool
  | .mk k _ _ s l, m => if k = 3 then decide ((256 : Int) < (s.size : Int)) else if k = 4 then (if 64 < l.length then true else if m < 1 then true else greats l (wrap64 (m - 1))) else false
def greats : List Val → Int → Bool
  | [], _ => false
  | x :: r, m => if greatV x m = true then true else greats r m
end
theorem greats_nil (m : Int) : greats [] m = false := by rw [greats]
theorem greats_cons (x : Val) (r : List Val) (m : Int) : greats (x :: r) m = if greatV x m = true then true else greats r m := by rw [greats]
def GreatC (v : Val) : Prop := ∀ (W : World) (ok : Nat → Prop) (cs : Array Value), RV W ok v cs → ∀ m : Int, Calls Tryz.prog 40 #[.agg cs, .int .i64 m] W fun e w' => e = .returned (.bool (greatV v m)) ∧ Below W.heap.size W w'

set_option maxHeartbeats 8000000 in
set_option maxRecDepth 100000 in
theorem clos58 (v : Val) (hG : GreatC v) (W : World) (ok : Nat → Prop) (cs : Array Value) (hR : RV W ok v cs) (m : Int) (gm : Nat) (hm : W.cell? ⟨gm, 0, none⟩ = some (.int .i64 m)) :
    Calls Tryz.prog 58 #[.agg cs, .pointer (some ⟨gm, 0, none⟩)] W fun e w' => e = .returned (.bool (greatV v (wrap64 (m - 1)))) ∧ Below W.heap.size W w' := by
  obtain ⟨k, i, f, s, A, n, c, rfl⟩ := hR.form
  have HR := Aside0.mk hR
  have HG := Aside0.mk hG
  have HM := Aside0.mk hm
  clear hR hG hm
  go_enter Tryz.func58, Tryz.ntmps58
  go_wp2_with (first
    | ((with_reducible refine gate_dst (N := 2) rfl ?_); refine box_event ?hg (N := 2) ?hd (cs := #[.int .i64 k, .int .i64 i, .float .f64 f, .string s, .slice A n c]) (t := 25) ?hr ?_; (case hd => rfl); (case hg => rfl); (case hr => first | (go_simp; done) | (go_simp; rfl)); intro gb hg w1 hbox hb; have HB := Aside0.mk hb; have HR := Aside0.mk (HR.out.kept hb); have m0 : w1.cell? ⟨gm, 0, none⟩ = some (.int .i64 m) := (hb.cell (cell_in HM.out)).trans HM.out; have b0 : w1.cell? ⟨gb, 0, none⟩ = some (.int .i64 k) := blk_cell hbox 0; have b1 : w1.cell? ⟨gb, 1, none⟩ = some (.int .i64 i) := blk_cell hbox 1; have b2 : w1.cell? ⟨gb, 2, none⟩ = some (.float .f64 f) := blk_cell hbox 2; have b3 : w1.cell? ⟨gb, 3, none⟩ = some (.string s) := blk_cell hbox 3; have b4 : w1.cell? ⟨gb, 4, none⟩ = some (.slice A n c) := blk_cell hbox 4; clear hg hbox hb)
    | (go_at_call 40; refine (HG.out _ _ _ HR.out _).mono ?_; rintro e w2 ⟨rfl, hb⟩; have HB2 := Aside0.mk (below_step HB.out hb); clear hb))
  go_ret
  exact ⟨rfl, HB2.out⟩

set_option maxHeartbeats 8000000 in
set_option maxRecDepth 100000 in
theorem index71g (k i : Int) (f : Nat) (s : ByteArray) (l : List Val) (hE : ∀ (j : Nat) (hj : j < l.length), GreatC l[j]) (W : World) (ok : Nat → Prop) (x0 x1 x2 x3 : Value) (A : Option Addr) (c : Nat) (m : Int) (gm : Nat) (hm : W.cell? ⟨gm, 0, none⟩ = some (.int .i64 m))
    (hR : RV W ok (.mk k i f s l) #[x0, x1, x2, x3, .slice A l.length c]) :
    Calls Tryz.prog 71 #[.slice A l.length c, .func (.func 58) #[] #[.pointer (some ⟨gm, 0, none⟩)]] W fun e w' => ∃ r : Int, e = .returned (.int .i64 r) ∧ decide (0 ≤ r) = greats l (wrap64 (m - 1)) ∧ Below W.heap.size W w' := by
  obtain ⟨A0, c0, e0, wk, wi, wf, ws, wc, wb⟩ := hR.len
  have HI := Aside0.mk hE
  have HM := Aside0.mk hm
  have HR := Aside0.mk hR
  have HWB := Aside0.mk (show (l.length : Int) * 64 ≤ 140737488351232 by omega)
  have hnn : (0 : Int) ≤ (l.length : Int) := by omega
  have hent := enters58
  clear hE hm hR wk wi wf ws wc wb e0
  obtain ⟨n, hn⟩ : ∃ n, l.length = n := ⟨_, rfl⟩
  have HNL := Aside0.mk hn
  rw [hn] at HR HWB hnn ⊢
  clear hn
  obtain ⟨O, hO⟩ : ∃ O, greats l (wrap64 (m - 1)) = O := ⟨_, rfl⟩
  rw [hO]
  have HO := Aside0.mk hO
  clear hO
  go_enter Tryz.func71, Tryz.ntmps71
  go_wp2
  go_loopw [8] (fun ix wr => ∃ j : Nat, j ≤ n ∧ ix = .int .i64 (j : Int) ∧ Aside0 (Below W.heap.size W wr) ∧ Aside0 (greats (l.drop j) (wrap64 (m - 1)) = O)) (fun ix _ => n - (intOf ix).toNat)
  case atStart => exact ⟨0, by omega, rfl, Aside0.mk (Below.refl _ _), HO⟩
  case round =>
    obtain ⟨j, hj, rfl, HB', HOj⟩ := hrel
    by_cases hlt : j < n
    · have hji : (j : Int) < (n : Int) := by omega
      have hj0 : (0 : Int) ≤ (j : Int) := by omega
      have hjl : j < l.length := by rw [HNL.out]; exact hlt
      obtain ⟨g, off, k', i', f', s', A', n', c', rfl, hg1, hg2, hsub, p0, p1, p2, p3, p4⟩ := (HR.out.kept HB'.out).elem j hjl
      have hih := HI.out j hjl
      have HOj2 := Aside0.mk HOj.out
      rw [dropAt l j hjl, greats_cons] at HOj2
      generalize l[j] = x at hsub hih HOj2
      have HSub := Aside0.mk hsub
      have HIx := Aside0.mk hih
      obtain ⟨o, ho⟩ : ∃ o, greatV x (wrap64 (m - 1)) = o := ⟨_, rfl⟩
      have HOo := Aside0.mk ho
      have hwk : IntKind.i64.wrap ((j : Int) + 1) = ((j + 1 : Nat) : Int) := by have := HWB.out; rw [IntKind.wrap_i64]; omega
      clear hsub hih hjl hg1 hg2 ho
      rw [HOo.out] at HOj2
      cases o
      · have HN := Aside0.mk (show greats (l.drop (j + 1)) (wrap64 (m - 1)) = O by have := HOj2.out; rwa [if_neg (by decide)] at this)
        go_wp2_with (first
          | (go_at_call 58; refine (clos58 _ HIx.out _ _ _ HSub.out m gm ((HB'.out.cell (cell_in HM.out)).trans HM.out)).mono ?_; rw [HOo.out]; rintro e w4 ⟨rfl, hb⟩; have HB2 := Aside0.mk (below_step HB'.out hb); clear hb))
        go_roundw
        case rel => exact ⟨j + 1, by omega, by go_num, HB2, HN⟩
        case measure => simp [intOf]; omega
      · have HN := Aside0.mk (show true = O by have := HOj2.out; rwa [if_pos rfl] at this)
        go_wp2_with (first
          | (go_at_call 58; refine (clos58 _ HIx.out _ _ _ HSub.out m gm ((HB'.out.cell (cell_in HM.out)).trans HM.out)).mono ?_; rw [HOo.out]; rintro e w4 ⟨rfl, hb⟩; have HB2 := Aside0.mk (below_step HB'.out hb); clear hb))
        go_ret
        exact ⟨j, rfl, by rw [← HN.out]; simp, HB2.out⟩
    · obtain rfl : j = n := by omega
      have HOj2 := Aside0.mk HOj.out
      rw [show l.drop j = [] from List.drop_eq_nil_of_le (by rw [HNL.out]; omega), greats_nil] at HOj2
      go_wp2
      go_ret
      exact ⟨-1, rfl, by rw [← HOj2.out]; rfl, HB'.out⟩


set_option maxHeartbeats 8000000 in
set_option maxRecDepth 100000 in
theorem contains57g (k i : Int) (f : Nat) (s : ByteArray) (l : List Val) (hE : ∀ (j : Nat) (hj : j < l.length), GreatC l[j]) (W : World) (ok : Nat → Prop) (x0 x1 x2 x3 : Value) (A : Option Addr) (c : Nat) (m : Int) (gm : Nat) (hm : W.cell? ⟨gm, 0, none⟩ = some (.int .i64 m))
    (hR : RV W ok (.mk k i f s l) #[x0, x1, x2, x3, .slice A l.length c]) :
    Calls Tryz.prog 57 #[.slice A l.length c, .func (.func 58) #[] #[.pointer (some ⟨gm, 0, none⟩)]] W fun e w' => e = .returned (.bool (greats l (wrap64 (m - 1)))) ∧ Below W.heap.size W w' := by
  have H := Aside0.mk (index71g k i f s l hE W ok x0 x1 x2 x3 A c m gm hm hR)
  clear hE hR hm
  go_enter Tryz.func57, Tryz.ntmps57
  go_wp2_with (go_at_call 71; refine H.out.mono ?_; rintro e w1 ⟨r, rfl, hr, hb⟩; have HR := Aside0.mk hr; have HB := Aside0.mk hb; clear hr hb)
  go_ret
  exact ⟨by rw [← HR.out]; rfl, HB.out⟩

set_option maxHeartbeats 8000000 in
set_option maxRecDepth 100000 in
theorem great_3 (i : Int) (f : Nat) (s : ByteArray) (l : List Val) (A : Option Addr) (c : Nat) (m : Int)  (W : World) (ok : Nat → Prop) (hR : RV W ok (.mk 3 i f s l) #[.int .i64 3, .int .i64 i, .float .f64 f, .string s, .slice A l.length c]) :
    Calls Tryz.prog 40 #[.agg #[.int .i64 3, .int .i64 i, .float .f64 f, .string s, .slice A l.length c], .int .i64 m] W fun e w' => e = .returned (.bool (decide ((256 : Int) < (s.size : Int)))) ∧ Below W.heap.size W w' := by
  have HR := Aside0.mk hR
  clear hR
  go_enter Tryz.func40, Tryz.ntmps40
  go_wp2_with (first
    | ((with_reducible refine gate_dst (N := 2) rfl ?_); refine box_event ?hg (N := 2) ?hd (cs := #[.int .i64 3, .int .i64 i, .float .f64 f, .string s, .slice A l.length c]) (t := 25) ?hr ?_; (case hd => rfl); (case hg => rfl); (case hr => first | (go_simp; done) | (go_simp; rfl)); intro gb hg w1 hbox hb; have HB := Aside0.mk hb; have b0 : w1.cell? ⟨gb, 0, none⟩ = some (.int .i64 3) := blk_cell hbox 0; have b3 : w1.cell? ⟨gb, 3, none⟩ = some (.string s) := blk_cell hbox 3; have b4 : w1.cell? ⟨gb, 4, none⟩ = some (.slice A l.length c) := blk_cell hbox 4; have K := Aside0.mk hbox; clear hg hbox hb)
    | ((with_reducible refine gate_dst (N := 3) rfl ?_); refine box_event ?hg (N := 3) ?hd (cs := #[.int .i64 m]) (t := 3) ?hr ?_; (case hd => rfl); (case hg => rfl); (case hr => first | (go_simp; done) | (go_simp; rfl)); intro gm hg w2 hbox hb; have m0 : w2.cell? ⟨gm, 0, none⟩ = some (.int .i64 m) := blk_cell hbox 0; clear b0 b3 b4; have KB2 := Aside0.mk (blk_below K.out hb); have HB := Aside0.mk (below_step HB.out hb); have b0 : w2.cell? ⟨gb, 0, none⟩ = some (.int .i64 3) := blk_cell KB2.out 0; have b3 : w2.cell? ⟨gb, 3, none⟩ = some (.string s) := blk_cell KB2.out 3; have b4 : w2.cell? ⟨gb, 4, none⟩ = some (.slice A l.length c) := blk_cell KB2.out 4; clear hg hbox hb))
  go_ret
  exact ⟨rfl, HB.out⟩

set_option maxHeartbeats 8000000 in
set_option maxRecDepth 100000 in
theorem great_4a (i : Int) (f : Nat) (s : ByteArray) (l : List Val) (A : Option Addr) (c : Nat) (m : Int) (h : 64 < l.length) (W : World) (ok : Nat → Prop) (hR : RV W ok (.mk 4 i f s l) #[.int .i64 4, .int .i64 i, .float .f64 f, .string s, .slice A l.length c]) :
    Calls Tryz.prog 40 #[.agg #[.int .i64 4, .int .i64 i, .float .f64 f, .string s, .slice A l.length c], .int .i64 m] W fun e w' => e = .returned (.bool true) ∧ Below W.heap.size W w' := by
  have HR := Aside0.mk hR
  have h' : (64 : Int) < (l.length : Int) := by omega
  clear h
  clear hR
  go_enter Tryz.func40, Tryz.ntmps40
  go_wp2_with (first
    | ((with_reducible refine gate_dst (N := 2) rfl ?_); refine box_event ?hg (N := 2) ?hd (cs := #[.int .i64 4, .int .i64 i, .float .f64 f, .string s, .slice A l.length c]) (t := 25) ?hr ?_; (case hd => rfl); (case hg => rfl); (case hr => first | (go_simp; done) | (go_simp; rfl)); intro gb hg w1 hbox hb; have HB := Aside0.mk hb; have b0 : w1.cell? ⟨gb, 0, none⟩ = some (.int .i64 4) := blk_cell hbox 0; have b3 : w1.cell? ⟨gb, 3, none⟩ = some (.string s) := blk_cell hbox 3; have b4 : w1.cell? ⟨gb, 4, none⟩ = some (.slice A l.length c) := blk_cell hbox 4; have K := Aside0.mk hbox; clear hg hbox hb)
    | ((with_reducible refine gate_dst (N := 3) rfl ?_); refine box_event ?hg (N := 3) ?hd (cs := #[.int .i64 m]) (t := 3) ?hr ?_; (case hd => rfl); (case hg => rfl); (case hr => first | (go_simp; done) | (go_simp; rfl)); intro gm hg w2 hbox hb; have m0 : w2.cell? ⟨gm, 0, none⟩ = some (.int .i64 m) := blk_cell hbox 0; clear b0 b3 b4; have KB2 := Aside0.mk (blk_below K.out hb); have HB := Aside0.mk (below_step HB.out hb); have b0 : w2.cell? ⟨gb, 0, none⟩ = some (.int .i64 4) := blk_cell KB2.out 0; have b3 : w2.cell? ⟨gb, 3, none⟩ = some (.string s) := blk_cell KB2.out 3; have b4 : w2.cell? ⟨gb, 4, none⟩ = some (.slice A l.length c) := blk_cell KB2.out 4; clear hg hbox hb))
  go_ret
  exact ⟨rfl, HB.out⟩

set_option maxHeartbeats 8000000 in
set_option maxRecDepth 100000 in
theorem great_4b (i : Int) (f : Nat) (s : ByteArray) (l : List Val) (A : Option Addr) (c : Nat) (m : Int) (h : ¬ 64 < l.length) (hm : m < 1) (W : World) (ok : Nat → Prop) (hR : RV W ok (.mk 4 i f s l) #[.int .i64 4, .int .i64 i, .float .f64 f, .string s, .slice A l.length c]) :
    Calls Tryz.prog 40 #[.agg #[.int .i64 4, .int .i64 i, .float .f64 f, .string s, .slice A l.length c], .int .i64 m] W fun e w' => e = .returned (.bool true) ∧ Below W.heap.size W w' := by
  have HR := Aside0.mk hR
  have h' : ¬ (64 : Int) < (l.length : Int) := by omega
  clear h
  clear hR
  go_enter Tryz.func40, Tryz.ntmps40
  go_wp2_with (first
    | ((with_reducible refine gate_dst (N := 2) rfl ?_); refine box_event ?hg (N := 2) ?hd (cs := #[.int .i64 4, .int .i64 i, .float .f64 f, .string s, .slice A l.length c]) (t := 25) ?hr ?_; (case hd => rfl); (case hg => rfl); (case hr => first | (go_simp; done) | (go_simp; rfl)); intro gb hg w1 hbox hb; have HB := Aside0.mk hb; have b0 : w1.cell? ⟨gb, 0, none⟩ = some (.int .i64 4) := blk_cell hbox 0; have b3 : w1.cell? ⟨gb, 3, none⟩ = some (.string s) := blk_cell hbox 3; have b4 : w1.cell? ⟨gb, 4, none⟩ = some (.slice A l.length c) := blk_cell hbox 4; have K := Aside0.mk hbox; clear hg hbox hb)
    | ((with_reducible refine gate_dst (N := 3) rfl ?_); refine box_event ?hg (N := 3) ?hd (cs := #[.int .i64 m]) (t := 3) ?hr ?_; (case hd => rfl); (case hg => rfl); (case hr => first | (go_simp; done) | (go_simp; rfl)); intro gm hg w2 hbox hb; have m0 : w2.cell? ⟨gm, 0, none⟩ = some (.int .i64 m) := blk_cell hbox 0; clear b0 b3 b4; have KB2 := Aside0.mk (blk_below K.out hb); have HB := Aside0.mk (below_step HB.out hb); have b0 : w2.cell? ⟨gb, 0, none⟩ = some (.int .i64 4) := blk_cell KB2.out 0; have b3 : w2.cell? ⟨gb, 3, none⟩ = some (.string s) := blk_cell KB2.out 3; have b4 : w2.cell? ⟨gb, 4, none⟩ = some (.slice A l.length c) := blk_cell KB2.out 4; clear hg hbox hb))
  go_ret
  exact ⟨rfl, HB.out⟩

set_option maxHeartbeats 8000000 in
set_option maxRecDepth 100000 in
theorem great_4c (i : Int) (f : Nat) (s : ByteArray) (l : List Val) (A : Option Addr) (c : Nat) (m : Int) (h : ¬ 64 < l.length) (hm : ¬ m < 1) (hE : ∀ (j : Nat) (hj : j < l.length), GreatC l[j]) (W : World) (ok : Nat → Prop) (hR : RV W ok (.mk 4 i f s l) #[.int .i64 4, .int .i64 i, .float .f64 f, .string s, .slice A l.length c]) :
    Calls Tryz.prog 40 #[.agg #[.int .i64 4, .int .i64 i, .float .f64 f, .string s, .slice A l.length c], .int .i64 m] W fun e w' => e = .returned (.bool (greats l (wrap64 (m - 1)))) ∧ Below W.heap.size W w' := by
  have HR := Aside0.mk hR
  have h' : ¬ (64 : Int) < (l.length : Int) := by omega
  clear h
  have hmf : ∀ (fn : Fn) (first cap : Array Value) (w : World), (Instr.makeFunc fn first cap).run Tryz.prog w = .ok (.func fn first cap) w := fun _ _ _ _ => rfl
  have h57 := Aside0.mk (fun (W' : World) (hb : Below W.heap.size W W') (gm : Nat) (hm : W'.cell? ⟨gm, 0, none⟩ = some (.int .i64 m)) => contains57g 4 i f s l hE W' ok _ _ _ _ A c m gm hm (hR.kept hb))
  clear hE
  clear hR
  go_enter Tryz.func40, Tryz.ntmps40
  go_wp2_with (first
    | ((with_reducible refine gate_dst (N := 2) rfl ?_); refine box_event ?hg (N := 2) ?hd (cs := #[.int .i64 4, .int .i64 i, .float .f64 f, .string s, .slice A l.length c]) (t := 25) ?hr ?_; (case hd => rfl); (case hg => rfl); (case hr => first | (go_simp; done) | (go_simp; rfl)); intro gb hg w1 hbox hb; have HB := Aside0.mk hb; have b0 : w1.cell? ⟨gb, 0, none⟩ = some (.int .i64 4) := blk_cell hbox 0; have b3 : w1.cell? ⟨gb, 3, none⟩ = some (.string s) := blk_cell hbox 3; have b4 : w1.cell? ⟨gb, 4, none⟩ = some (.slice A l.length c) := blk_cell hbox 4; have K := Aside0.mk hbox; clear hg hbox hb)
    | ((with_reducible refine gate_dst (N := 3) rfl ?_); refine box_event ?hg (N := 3) ?hd (cs := #[.int .i64 m]) (t := 3) ?hr ?_; (case hd => rfl); (case hg => rfl); (case hr => first | (go_simp; done) | (go_simp; rfl)); intro gm hg w2 hbox hb; have m0 : w2.cell? ⟨gm, 0, none⟩ = some (.int .i64 m) := blk_cell hbox 0; clear b0 b3 b4; have KB2 := Aside0.mk (blk_below K.out hb); have HB := Aside0.mk (below_step HB.out hb); have b0 : w2.cell? ⟨gb, 0, none⟩ = some (.int .i64 4) := blk_cell KB2.out 0; have b3 : w2.cell? ⟨gb, 3, none⟩ = some (.string s) := blk_cell KB2.out 3; have b4 : w2.cell? ⟨gb, 4, none⟩ = some (.slice A l.length c) := blk_cell KB2.out 4; clear hg hbox hb)
    | (go_at_call 57; refine (h57.out _ HB.out _ m0).mono ?_; rintro e w3 ⟨rfl, hb⟩; have HB := Aside0.mk (below_step HB.out hb); clear hb))
  go_ret
  exact ⟨rfl, HB.out⟩

set_option maxHeartbeats 8000000 in
set_option maxRecDepth 100000 in
theorem great_no (k i : Int) (f : Nat) (s : ByteArray) (l : List Val) (A : Option Addr) (c : Nat) (m : Int) (h3 : k ≠ 3) (h4 : k ≠ 4) (W : World) (ok : Nat → Prop) (hR : RV W ok (.mk k i f s l) #[.int .i64 k, .int .i64 i, .float .f64 f, .string s, .slice A l.length c]) :
    Calls Tryz.prog 40 #[.agg #[.int .i64 k, .int .i64 i, .float .f64 f, .string s, .slice A l.length c], .int .i64 m] W fun e w' => e = .returned (.bool false) ∧ Below W.heap.size W w' := by
  have HR := Aside0.mk hR
  have e3 : (k == 3) = false := beq_eq_false_iff_ne.2 h3
  have e4 : (k == 4) = false := beq_eq_false_iff_ne.2 h4
  clear h3 h4
  clear hR
  go_enter Tryz.func40, Tryz.ntmps40
  go_wp2_with (first
    | ((with_reducible refine gate_dst (N := 2) rfl ?_); refine box_event ?hg (N := 2) ?hd (cs := #[.int .i64 k, .int .i64 i, .float .f64 f, .string s, .slice A l.length c]) (t := 25) ?hr ?_; (case hd => rfl); (case hg => rfl); (case hr => first | (go_simp; done) | (go_simp; rfl)); intro gb hg w1 hbox hb; have HB := Aside0.mk hb; have b0 : w1.cell? ⟨gb, 0, none⟩ = some (.int .i64 k) := blk_cell hbox 0; have b3 : w1.cell? ⟨gb, 3, none⟩ = some (.string s) := blk_cell hbox 3; have b4 : w1.cell? ⟨gb, 4, none⟩ = some (.slice A l.length c) := blk_cell hbox 4; have K := Aside0.mk hbox; clear hg hbox hb)
    | ((with_reducible refine gate_dst (N := 3) rfl ?_); refine box_event ?hg (N := 3) ?hd (cs := #[.int .i64 m]) (t := 3) ?hr ?_; (case hd => rfl); (case hg => rfl); (case hr => first | (go_simp; done) | (go_simp; rfl)); intro gm hg w2 hbox hb; have m0 : w2.cell? ⟨gm, 0, none⟩ = some (.int .i64 m) := blk_cell hbox 0; clear b0 b3 b4; have KB2 := Aside0.mk (blk_below K.out hb); have HB := Aside0.mk (below_step HB.out hb); have b0 : w2.cell? ⟨gb, 0, none⟩ = some (.int .i64 k) := blk_cell KB2.out 0; have b3 : w2.cell? ⟨gb, 3, none⟩ = some (.string s) := blk_cell KB2.out 3; have b4 : w2.cell? ⟨gb, 4, none⟩ = some (.slice A l.length c) := blk_cell KB2.out 4; clear hg hbox hb))
  go_ret
  exact ⟨rfl, HB.out⟩

theorem great40 (v : Val) : GreatC v := by
  induction v using Val.ind with
  | h k i f s l ih =>
    intro W ok cs hR m
    obtain ⟨A, c, rfl, _⟩ := hR.len
    unfold greatV
    by_cases h3 : k = 3
    · subst h3; rw [if_pos rfl]; exact great_3 i f s l A c m W ok hR
    · rw [if_neg h3]
      by_cases h4 : k = 4
      · subst h4; rw [if_pos rfl]
        by_cases h : 64 < l.length
        · rw [if_pos h]; exact great_4a i f s l A c m h W ok hR
        · rw [if_neg h]
          by_cases hm : m < 1
          · rw [if_pos hm]; exact great_4b i f s l A c m h hm W ok hR
          · rw [if_neg hm]; exact great_4c i f s l A c m h hm ih W ok hR
      · rw [if_neg h4]; exact great_no k i f s l A c m h3 h4 W ok hR
end Go.Proofs.YtejfmghjmhiodaaGreatDoor.Vz
namespace Go.Proofs.YtejfmghjmhiodaaGreatDoor.Vz
open Go.RowKit Go.Proofs.YtejfmghjmhiodaaGreatDoorW.PrintWords
set_option linter.unusedVariables false
set_option linter.unusedSimpArgs false
attribute [local go_sem] store_float

def checkV (v : Val) : Int := if strangeV v = true then 31 else if greatV v 8 = true then 22 else if 4096 < sizeV v then 22 else 0

set_option maxHeartbeats 8000000 in
set_option maxRecDepth 100000 in
theorem check17 (v : Val) (W : World) (ok : Nat → Prop) (cs : Array Value) (hR : RV W ok v cs) : Calls Tryz.prog 17 #[.agg cs] W fun e w' => e = .returned (.int .i64 (checkV v)) ∧ Below W.heap.size W w' := by
  obtain ⟨k, i, f, s, A, n, c, rfl⟩ := hR.form
  have HR := Aside0.mk hR
  have H1 := Aside0.mk (strange39 v)
  have H2 := Aside0.mk (great40 v)
  have H3 := Aside0.mk (size18 v)
  clear hR
  unfold checkV
  obtain ⟨b, hb⟩ : ∃ b, strangeV v = b := ⟨_, rfl⟩
  obtain ⟨d, hd⟩ : ∃ d, greatV v 8 = d := ⟨_, rfl⟩
  obtain ⟨z, hz⟩ : ∃ z, sizeV v = z := ⟨_, rfl⟩
  rw [hb, hd, hz]
  have G1 := Aside0.mk hb
  have G2 := Aside0.mk hd
  have G3 := Aside0.mk hz
  clear hb hd hz
  cases b
  · cases d
    · by_cases h : 4096 < z
      · rw [if_neg (by decide), if_neg (by decide), if_pos h]
        go_enter Tryz.func17, Tryz.ntmps17
        go_wp2_with (first
          | ((with_reducible refine gate_dst (N := 1) rfl ?_); refine box_event ?hg (N := 1) ?hd (cs := #[.int .i64 k, .int .i64 i, .float .f64 f, .string s, .slice A n c]) (t := 25) ?hr ?_; (case hd => rfl); (case hg => rfl); (case hr => first | (go_simp; done) | (go_simp; rfl)); intro gb hg w1 hbox hb; have HB := Aside0.mk hb; have HR := Aside0.mk (HR.out.kept hb); have KB := Aside0.mk hbox; have b0 : w1.cell? ⟨gb, 0, none⟩ = some (.int .i64 k) := blk_cell KB.out 0; have b1 : w1.cell? ⟨gb, 1, none⟩ = some (.int .i64 i) := blk_cell KB.out 1; have b2 : w1.cell? ⟨gb, 2, none⟩ = some (.float .f64 f) := blk_cell KB.out 2; have b3 : w1.cell? ⟨gb, 3, none⟩ = some (.string s) := blk_cell KB.out 3; have b4 : w1.cell? ⟨gb, 4, none⟩ = some (.slice A n c) := blk_cell KB.out 4; clear hg hbox hb)
          | (go_at_call 39; refine (H1.out _ _ _ HR.out).mono ?_; rw [G1.out]; rintro e w2 ⟨rfl, hb⟩; have HB := Aside0.mk (below_step HB.out hb); have HR := Aside0.mk (HR.out.kept hb); have KB := Aside0.mk (blk_below KB.out hb); clear b0 b1 b2 b3 b4; have b0 : w2.cell? ⟨gb, 0, none⟩ = some (.int .i64 k) := blk_cell KB.out 0; have b1 : w2.cell? ⟨gb, 1, none⟩ = some (.int .i64 i) := blk_cell KB.out 1; have b2 : w2.cell? ⟨gb, 2, none⟩ = some (.float .f64 f) := blk_cell KB.out 2; have b3 : w2.cell? ⟨gb, 3, none⟩ = some (.string s) := blk_cell KB.out 3; have b4 : w2.cell? ⟨gb, 4, none⟩ = some (.slice A n c) := blk_cell KB.out 4; clear hb)
          | (go_at_call 40; refine (H2.out _ _ _ HR.out 8).mono ?_; rw [G2.out]; rintro e w3 ⟨rfl, hb⟩; have HB := Aside0.mk (below_step HB.out hb); have HR := Aside0.mk (HR.out.kept hb); have KB := Aside0.mk (blk_below KB.out hb); clear b0 b1 b2 b3 b4; have b0 : w3.cell? ⟨gb, 0, none⟩ = some (.int .i64 k) := blk_cell KB.out 0; have b1 : w3.cell? ⟨gb, 1, none⟩ = some (.int .i64 i) := blk_cell KB.out 1; have b2 : w3.cell? ⟨gb, 2, none⟩ = some (.float .f64 f) := blk_cell KB.out 2; have b3 : w3.cell? ⟨gb, 3, none⟩ = some (.string s) := blk_cell KB.out 3; have b4 : w3.cell? ⟨gb, 4, none⟩ = some (.slice A n c) := blk_cell KB.out 4; clear hb)
          | (go_at_call 18; refine (H3.out _ _ _ HR.out).mono ?_; rw [G3.out]; rintro e w4 ⟨rfl, hb⟩; have HB := Aside0.mk (below_step HB.out hb); clear hb))
        go_ret
        exact ⟨rfl, HB.out⟩
      · rw [if_neg (by decide), if_neg (by decide), if_neg h]
        go_enter Tryz.func17, Tryz.ntmps17
        go_wp2_with (first
          | ((with_reducible refine gate_dst (N := 1) rfl ?_); refine box_event ?hg (N := 1) ?hd (cs := #[.int .i64 k, .int .i64 i, .float .f64 f, .string s, .slice A n c]) (t := 25) ?hr ?_; (case hd => rfl); (case hg => rfl); (case hr => first | (go_simp; done) | (go_simp; rfl)); intro gb hg w1 hbox hb; have HB := Aside0.mk hb; have HR := Aside0.mk (HR.out.kept hb); have KB := Aside0.mk hbox; have b0 : w1.cell? ⟨gb, 0, none⟩ = some (.int .i64 k) := blk_cell KB.out 0; have b1 : w1.cell? ⟨gb, 1, none⟩ = some (.int .i64 i) := blk_cell KB.out 1; have b2 : w1.cell? ⟨gb, 2, none⟩ = some (.float .f64 f) := blk_cell KB.out 2; have b3 : w1.cell? ⟨gb, 3, none⟩ = some (.string s) := blk_cell KB.out 3; have b4 : w1.cell? ⟨gb, 4, none⟩ = some (.slice A n c) := blk_cell KB.out 4; clear hg hbox hb)
          | (go_at_call 39; refine (H1.out _ _ _ HR.out).mono ?_; rw [G1.out]; rintro e w2 ⟨rfl, hb⟩; have HB := Aside0.mk (below_step HB.out hb); have HR := Aside0.mk (HR.out.kept hb); have KB := Aside0.mk (blk_below KB.out hb); clear b0 b1 b2 b3 b4; have b0 : w2.cell? ⟨gb, 0, none⟩ = some (.int .i64 k) := blk_cell KB.out 0; have b1 : w2.cell? ⟨gb, 1, none⟩ = some (.int .i64 i) := blk_cell KB.out 1; have b2 : w2.cell? ⟨gb, 2, none⟩ = some (.float .f64 f) := blk_cell KB.out 2; have b3 : w2.cell? ⟨gb, 3, none⟩ = some (.string s) := blk_cell KB.out 3; have b4 : w2.cell? ⟨gb, 4, none⟩ = some (.slice A n c) := blk_cell KB.out 4; clear hb)
          | (go_at_call 40; refine (H2.out _ _ _ HR.out 8).mono ?_; rw [G2.out]; rintro e w3 ⟨rfl, hb⟩; have HB := Aside0.mk (below_step HB.out hb); have HR := Aside0.mk (HR.out.kept hb); have KB := Aside0.mk (blk_below KB.out hb); clear b0 b1 b2 b3 b4; have b0 : w3.cell? ⟨gb, 0, none⟩ = some (.int .i64 k) := blk_cell KB.out 0; have b1 : w3.cell? ⟨gb, 1, none⟩ = some (.int .i64 i) := blk_cell KB.out 1; have b2 : w3.cell? ⟨gb, 2, none⟩ = some (.float .f64 f) := blk_cell KB.out 2; have b3 : w3.cell? ⟨gb, 3, none⟩ = some (.string s) := blk_cell KB.out 3; have b4 : w3.cell? ⟨gb, 4, none⟩ = some (.slice A n c) := blk_cell KB.out 4; clear hb)
          | (go_at_call 18; refine (H3.out _ _ _ HR.out).mono ?_; rw [G3.out]; rintro e w4 ⟨rfl, hb⟩; have HB := Aside0.mk (below_step HB.out hb); clear hb))
        go_ret
        exact ⟨rfl, HB.out⟩
    · rw [if_neg (by decide), if_pos rfl]
      go_enter Tryz.func17, Tryz.ntmps17
      go_wp2_with (first
        | ((with_reducible refine gate_dst (N := 1) rfl ?_); refine box_event ?hg (N := 1) ?hd (cs := #[.int .i64 k, .int .i64 i, .float .f64 f, .string s, .slice A n c]) (t := 25) ?hr ?_; (case hd => rfl); (case hg => rfl); (case hr => first | (go_simp; done) | (go_simp; rfl)); intro gb hg w1 hbox hb; have HB := Aside0.mk hb; have HR := Aside0.mk (HR.out.kept hb); have KB := Aside0.mk hbox; have b0 : w1.cell? ⟨gb, 0, none⟩ = some (.int .i64 k) := blk_cell KB.out 0; have b1 : w1.cell? ⟨gb, 1, none⟩ = some (.int .i64 i) := blk_cell KB.out 1; have b2 : w1.cell? ⟨gb, 2, none⟩ = some (.float .f64 f) := blk_cell KB.out 2; have b3 : w1.cell? ⟨gb, 3, none⟩ = some (.string s) := blk_cell KB.out 3; have b4 : w1.cell? ⟨gb, 4, none⟩ = some (.slice A n c) := blk_cell KB.out 4; clear hg hbox hb)
        | (go_at_call 39; refine (H1.out _ _ _ HR.out).mono ?_; rw [G1.out]; rintro e w2 ⟨rfl, hb⟩; have HB := Aside0.mk (below_step HB.out hb); have HR := Aside0.mk (HR.out.kept hb); have KB := Aside0.mk (blk_below KB.out hb); clear b0 b1 b2 b3 b4; have b0 : w2.cell? ⟨gb, 0, none⟩ = some (.int .i64 k) := blk_cell KB.out 0; have b1 : w2.cell? ⟨gb, 1, none⟩ = some (.int .i64 i) := blk_cell KB.out 1; have b2 : w2.cell? ⟨gb, 2, none⟩ = some (.float .f64 f) := blk_cell KB.out 2; have b3 : w2.cell? ⟨gb, 3, none⟩ = some (.string s) := blk_cell KB.out 3; have b4 : w2.cell? ⟨gb, 4, none⟩ = some (.slice A n c) := blk_cell KB.out 4; clear hb)
        | (go_at_call 40; refine (H2.out _ _ _ HR.out 8).mono ?_; rw [G2.out]; rintro e w3 ⟨rfl, hb⟩; have HB := Aside0.mk (below_step HB.out hb); have HR := Aside0.mk (HR.out.kept hb); have KB := Aside0.mk (blk_below KB.out hb); clear b0 b1 b2 b3 b4; have b0 : w3.cell? ⟨gb, 0, none⟩ = some (.int .i64 k) := blk_cell KB.out 0; have b1 : w3.cell? ⟨gb, 1, none⟩ = some (.int .i64 i) := blk_cell KB.out 1; have b2 : w3.cell? ⟨gb, 2, none⟩ = some (.float .f64 f) := blk_cell KB.out 2; have b3 : w3.cell? ⟨gb, 3, none⟩ = some (.string s) := blk_cell KB.out 3; have b4 : w3.cell? ⟨gb, 4, none⟩ = some (.slice A n c) := blk_cell KB.out 4; clear hb)
        | (go_at_call 18; refine (H3.out _ _ _ HR.out).mono ?_; rw [G3.out]; rintro e w4 ⟨rfl, hb⟩; have HB := Aside0.mk (below_step HB.out hb); clear hb))
      go_ret
      exact ⟨rfl, HB.out⟩
  · rw [if_pos rfl]
    go_enter Tryz.func17, Tryz.ntmps17
    go_wp2_with (first
      | ((with_reducible refine gate_dst (N := 1) rfl ?_); refine box_event ?hg (N := 1) ?hd (cs := #[.int .i64 k, .int .i64 i, .float .f64 f, .string s, .slice A n c]) (t := 25) ?hr ?_; (case hd => rfl); (case hg => rfl); (case hr => first | (go_simp; done) | (go_simp; rfl)); intro gb hg w1 hbox hb; have HB := Aside0.mk hb; have HR := Aside0.mk (HR.out.kept hb); have KB := Aside0.mk hbox; have b0 : w1.cell? ⟨gb, 0, none⟩ = some (.int .i64 k) := blk_cell KB.out 0; have b1 : w1.cell? ⟨gb, 1, none⟩ = some (.int .i64 i) := blk_cell KB.out 1; have b2 : w1.cell? ⟨gb, 2, none⟩ = some (.float .f64 f) := blk_cell KB.out 2; have b3 : w1.cell? ⟨gb, 3, none⟩ = some (.string s) := blk_cell KB.out 3; have b4 : w1.cell? ⟨gb, 4, none⟩ = some (.slice A n c) := blk_cell KB.out 4; clear hg hbox hb)
      | (go_at_call 39; refine (H1.out _ _ _ HR.out).mono ?_; rw [G1.out]; rintro e w2 ⟨rfl, hb⟩; have HB := Aside0.mk (below_step HB.out hb); have HR := Aside0.mk (HR.out.kept hb); have KB := Aside0.mk (blk_below KB.out hb); clear b0 b1 b2 b3 b4; have b0 : w2.cell? ⟨gb, 0, none⟩ = some (.int .i64 k) := blk_cell KB.out 0; have b1 : w2.cell? ⟨gb, 1, none⟩ = some (.int .i64 i) := blk_cell KB.out 1; have b2 : w2.cell? ⟨gb, 2, none⟩ = some (.float .f64 f) := blk_cell KB.out 2; have b3 : w2.cell? ⟨gb, 3, none⟩ = some (.string s) := blk_cell KB.out 3; have b4 : w2.cell? ⟨gb, 4, none⟩ = some (.slice A n c) := blk_cell KB.out 4; clear hb)
      | (go_at_call 40; refine (H2.out _ _ _ HR.out 8).mono ?_; rw [G2.out]; rintro e w3 ⟨rfl, hb⟩; have HB := Aside0.mk (below_step HB.out hb); have HR := Aside0.mk (HR.out.kept hb); have KB := Aside0.mk (blk_below KB.out hb); clear b0 b1 b2 b3 b4; have b0 : w3.cell? ⟨gb, 0, none⟩ = some (.int .i64 k) := blk_cell KB.out 0; have b1 : w3.cell? ⟨gb, 1, none⟩ = some (.int .i64 i) := blk_cell KB.out 1; have b2 : w3.cell? ⟨gb, 2, none⟩ = some (.float .f64 f) := blk_cell KB.out 2; have b3 : w3.cell? ⟨gb, 3, none⟩ = some (.string s) := blk_cell KB.out 3; have b4 : w3.cell? ⟨gb, 4, none⟩ = some (.slice A n c) := blk_cell KB.out 4; clear hb)
      | (go_at_call 18; refine (H3.out _ _ _ HR.out).mono ?_; rw [G3.out]; rintro e w4 ⟨rfl, hb⟩; have HB := Aside0.mk (below_step HB.out hb); clear hb))
    go_ret
    exact ⟨rfl, HB.out⟩
end Go.Proofs.YtejfmghjmhiodaaGreatDoor.Vz
namespace Go.Proofs.YtejfmghjmhiodaaGreatDoor.Vz
open Go.RowKit Go.Proofs.YtejfmghjmhiodaaGreatDoorW.PrintWords
set_option linter.unusedVariables false
set_option linter.unusedSimpArgs false
attribute [local go_sem] store_float

set_option maxHeartbeats 8000000 in
set_option maxRecDepth 100000 in
theorem txt_list (i : Int) (f : Nat) (s : ByteArray) (l : List Val) (ts : List ByteArray) (hl : ts.length = l.length) (h0 : 0 < l.length) (hn : l.length ≤ 1000) (hE : ∀ (j : Nat) (hj : j < l.length), TxtC l[j] (ts.getD j ⟨#[]⟩)) (J : ByteArray) (hJ : Lib.join (ts.map (·.data.toList)) [44, 32] = J.data.toList) (hJl : J.size ≤ 1000) :
    TxtC (.mk 4 i f s l) ((⟨#[91]⟩ ++ J) ++ ⟨#[93]⟩) := by
  intro W ok cs T hR
  obtain ⟨A, c, rfl, wk, wi, wf, ws, wc, wb⟩ := hR.len
  have HJ : ∀ (bk c : Nat) (w : World), bk < w.heap.size → ts.length ≤ c → (∀ (j : Nat) x, ts[j]? = some x → w.cell? ⟨bk, j, none⟩ = some (.string x)) → Calls Tryz.prog 47 #[.slice (some ⟨bk, 0, none⟩) ts.length c, .string ⟨#[44, 32]⟩] w fun e w' => e = .returned (.string J) ∧ Below w.heap.size w w' := by
    intro bk c w h1 h2 h3
    have hj2 : Lib.join (ts.map (·.data.toList)) (ByteArray.mk #[44, 32]).data.toList = J.data.toList := hJ
    have h := Tryz.strings_Join bk 0 c ts ⟨#[44, 32]⟩ w (fun j x hx => by rw [Nat.zero_add]; exact h3 j x hx) h1 (by omega) h2 (by rw [hj2]; simp; have : J.size = J.data.size := rfl; omega)
    rw [hj2] at h
    simpa using h
  have HI := Aside0.mk hE
  have HR := Aside0.mk hR
  have HT := Aside0.mk T
  have HJJ := Aside0.mk HJ
  have HLT := Aside0.mk hl
  have HL0 := Aside0.mk h0
  have HWB := Aside0.mk (show (l.length : Int) ≤ 1000 by omega)
  have hnn : (0 : Int) ≤ (l.length : Int) := by omega
  have ha1 : (ByteArray.mk #[91]).size + J.size ≤ 9223372036854775807 := by have : (ByteArray.mk #[91]).size = 1 := rfl; omega
  have ha2 : ((ByteArray.mk #[91]) ++ J).size + (ByteArray.mk #[93]).size ≤ 9223372036854775807 := by
    have : (ByteArray.mk #[91]).size = 1 := rfl
    have : (ByteArray.mk #[93]).size = 1 := rfl
    rw [ByteArray.size_append]
    omega
  have hp1 : ∀ w, (Op.stringOp .add (ByteArray.mk #[91]) J).run Tryz.prog w = .ok (.string (ByteArray.mk #[91] ++ J)) w := fun w => run_string_add_sum w _ _ ha1
  have hp2 : ∀ w, (Op.stringOp .add (ByteArray.mk #[91] ++ J) (ByteArray.mk #[93])).run Tryz.prog w = .ok (.string (ByteArray.mk #[91] ++ J ++ ByteArray.mk #[93])) w := fun w => run_string_add_sum w _ _ ha2
  clear hE hR T HJ hl h0 hn hJ hJl wk wi wf ws wc wb ha1 ha2
  obtain ⟨n, hn⟩ : ∃ n, l.length = n := ⟨_, rfl⟩
  have HNL := Aside0.mk hn
  rw [hn] at HR HWB hnn HLT HL0 ⊢
  clear hn
  go_enter Tryz.func22, Tryz.ntmps22
  go_upto_region 10 with (first
    | ((with_reducible refine gate_dst (N := 1) rfl ?_); refine box_event ?hg (N := 1) ?hd (cs := #[.int .i64 4, .int .i64 i, .float .f64 f, .string s, .slice A n c]) (t := 25) ?hr ?_; (case hd => rfl); (case hg => rfl); (case hr => first | (go_simp; done) | (go_simp; rfl)); intro gb hg w1 hbox hb; have HB := Aside0.mk hb; have KB := Aside0.mk hbox; have b0 : w1.cell? ⟨gb, 0, none⟩ = some (.int .i64 4) := blk_cell hbox 0; clear hg hbox hb))
  clear b0
  have b4 : w1.cell? ⟨gb, 4, none⟩ = some (.slice A n c) := blk_cell KB.out 4
  go_wp2
  clear b4
  go_loopw [3, 28] (fun vx ix wr => ∃ j : Nat, j ≤ n ∧ ix = .int .i64 (j : Int) ∧ Aside0 (Below W.heap.size W wr) ∧ Aside0 (wr.ownsRow W.heap.size 9 1 vx j ((ts.take j).map Value.string))) (fun _ ix _ => n - (intOf ix).toNat)
  case atStart => exact ⟨0, by omega, rfl, HB, Aside0.mk ⟨rfl, .inl ⟨rfl, rfl⟩⟩⟩
  case round =>
    obtain ⟨j, hj, rfl, HB', HO⟩ := hrel
    by_cases hlt : j < n
    · have hji : (j : Int) < (n : Int) := by omega
      have hj0 : (0 : Int) ≤ (j : Int) := by omega
      have hjl : j < l.length := by rw [HNL.out]; exact hlt
      obtain ⟨g, off, k', i', f', s', A', n', c', rfl, hg1, hg2, hsub, p0, p1, p2, p3, p4⟩ := (HR.out.kept HB'.out).elem j hjl
      have hih := HI.out j hjl
      generalize l[j] = x at hsub hih
      obtain ⟨t, ht⟩ : ∃ t, ts.getD j ⟨#[]⟩ = t := ⟨_, rfl⟩
      rw [ht] at hih
      have HTK := Aside0.mk (show (ts.take (j + 1)).map Value.string = (ts.take j).map Value.string ++ [.string t] by
        have hjt : j < ts.length := by rw [HLT.out]; exact hlt
        rw [List.take_add_one, List.getElem?_eq_getElem hjt, List.map_append, ← ht, List.getD_eq_getElem?_getD, List.getElem?_eq_getElem hjt]; rfl)
      have HLX := Aside0.mk (show ((ts.take j).map Value.string).length = j by simp; rw [HLT.out]; omega)
      have HLX2 := Aside0.mk (show ((ts.take (j + 1)).map Value.string).length = j + 1 by simp; rw [HLT.out]; omega)
      have HSub := Aside0.mk hsub
      have HIx := Aside0.mk hih
      have hwk : IntKind.i64.wrap ((j : Int) + 1) = ((j + 1 : Nat) : Int) := by have := HWB.out; rw [IntKind.wrap_i64]; omega
      clear hsub hih hjl hg1 hg2 ht
      go_wp2_with (first
        | ((with_reducible refine gate_dst (N := 5) rfl ?_); refine box_event ?hg (N := 5) ?hd (cs := #[.int .i64 0, .int .i64 0, .float .f64 0, .string ⟨#[]⟩, .slice none 0 0]) (t := 25) ?hr ?_; (case hd => rfl); (case hg => rfl); (case hr => first | (go_simp; done) | (go_simp; rfl)); intro g5 hg w2 hbox hb; have H2 := Aside0.mk hb; have K5 := Aside0.mk hbox; have HG5 := Aside0.mk (show wr.heap.size ≤ g5 by omega); clear hg hbox hb)
        | ((with_reducible refine gate_store (t := 25) (p := 5) rfl ?_); refine put_eventU ?hg (t := 25) (p := 5) (v := .tmp 31) ?ho ?hN (g := g5) (u := .agg #[.int .i64 k', .int .i64 i', .float .f64 f', .string s', .slice A' n' c']) (cs := #[.int .i64 k', .int .i64 i', .float .f64 f', .string s', .slice A' n' c']) ?hp ?hv K5.out ?hs ?hi ?h1 ?hc ?_; (case hs => rfl); (case hi => kernel_rfl); (case h1 => simp [Value.oneCell']); (case hc => simp [Value.cells]); (case hg => rfl); (case ho => rfl); (case hN => rfl); (case hp => rfl); (case hv => rfl); intro w3 hk hs; have H3 := Aside0.mk (below_keep H2.out HG5.out hs); have HS := Aside0.mk (HSub.out.kept H3.out); have a0 : w3.cell? ⟨g5, 0, none⟩ = some (.int .i64 k') := blk_cell hk 0; have a1 : w3.cell? ⟨g5, 1, none⟩ = some (.int .i64 i') := blk_cell hk 1; have a2 : w3.cell? ⟨g5, 2, none⟩ = some (.float .f64 f') := blk_cell hk 2; have a3 : w3.cell? ⟨g5, 3, none⟩ = some (.string s') := blk_cell hk 3; have a4 : w3.cell? ⟨g5, 4, none⟩ = some (.slice A' n' c') := blk_cell hk 4; clear hk hs)
        | (go_at_call 22; refine (HIx.out _ _ _ (HT.out.below (below_step HB'.out H3.out)) HS.out).mono ?_; rintro e w4 ⟨rfl, hb⟩; have HB2 := Aside0.mk (below_step HB'.out (below_step H3.out hb)); have HO2 := Aside0.mk (own_save HO.out (Save.of (S := fun _ => False) (below_step H3.out hb)) (fun _ _ x => x)); clear hb)
        | ((with_reducible refine gate_builtin (b := .append) (xs := #[.tmp 32, .tmp 35]) rfl ?_); at_builtin; refine print_append (w0 := W) W.heap.size rfl (.tmp 32) (.tmp 35) 61 9 (.string ⟨#[]⟩) 16 rfl Tryz.underlying61 info9 rfl (by decide) _ ((ts.take j).map Value.string) (.string t) rfl rfl rfl ?HO ?HB ?hbase ?hl ?_; (case HO => rw [HLX.out]; exact HO2.out); (case HB => exact HB2.out); (case hbase => exact HB2.out.size); (case hl => rw [HLX.out]; have := HWB.out; omega); intro v1 w5 ho hb hg hat; rw [← HTK.out, HLX2.out] at ho; have HO3 := Aside0.mk ho; have HB3 := Aside0.mk hb; clear ho hb hg hat))
      go_roundw
      case rel => exact ⟨j + 1, by omega, by go_num, HB3, HO3⟩
      case measure => simp [intOf]; omega
    · obtain rfl : j = n := by omega
      have ho := HO.out
      rw [← HLT.out, List.take_length] at ho
      obtain ⟨g, cap, rfl, hgb, hgl, hcap⟩ : ∃ (g cap : Nat), u3 = .slice (some ⟨g, 0, none⟩) j cap ∧ g < wr.heap.size ∧ (∀ (q : Nat) x, ts[q]? = some x → wr.cell? ⟨g, q, none⟩ = some (.string x)) ∧ ts.length ≤ cap := by
        obtain ⟨g, cap, hv, _, hlt2⟩ := ho.form (by rw [HLT.out]; exact HL0.out)
        refine ⟨g, cap, by rw [hv, HLT.out], hlt2, fun q x hx => ?_, ?_⟩
        · have hc := ho.cells (g := g) (by rw [hv]; rfl) q (.string x) (by rw [List.getElem?_map, hx]; rfl)
          rwa [add_plain] at hc
        · rcases ho.2 with ⟨h1, h2⟩ | ⟨g2, cap2, cur, h1, _, _, h3, _⟩
          · rw [hv] at h1; cases h1
          · rw [hv] at h1; injection h1 with h4 h5 h6; omega
      have hj47 := HJJ.out g cap _ hgb hcap hgl
      rw [HLT.out] at hj47
      go_wp2_with (go_at_call 47; refine hj47.mono ?_; rintro e w6 ⟨rfl, hb⟩; have HB6 := Aside0.mk (below_step HB'.out hb); clear hb)
      go_ret
      exact ⟨rfl, HB6.out⟩
end Go.Proofs.YtejfmghjmhiodaaGreatDoor.Vz
namespace Go.Proofs.YtejfmghjmhiodaaGreatDoor.Vz
open Go.RowKit Go.Proofs.YtejfmghjmhiodaaGreatDoorW.PrintWords
set_option linter.unusedVariables false
set_option linter.unusedSimpArgs false
attribute [local go_sem] store_float

set_option maxHeartbeats 8000000 in
set_option maxRecDepth 100000 in
theorem list16 (A : Option Addr) (n c : Nat) (W : World) : Calls Tryz.prog 16 #[.slice A n c] W fun e w' => e = .returned (.agg #[.int .i64 4, .int .i64 0, .float .f64 0, .string ⟨#[]⟩, .slice A n c]) ∧ Below W.heap.size W w' := by
  go_enter Tryz.func16, Tryz.ntmps16
  go_wp2_with (first
    | ((with_reducible refine gate_dst (N := 2) rfl ?_); refine box_event ?hg (N := 2) ?hd (cs := #[.int .i64 0, .int .i64 0, .float .f64 0, .string ⟨#[]⟩, .slice none 0 0]) (t := 25) ?hr ?_; (case hd => rfl); (case hg => rfl); (case hr => first | (go_simp; done) | (go_simp; rfl)); intro g hg w1 hbox hb; have HB := Aside0.mk hb; have HG := Aside0.mk (show W.heap.size ≤ g by omega); have K := Aside0.mk hbox; clear hg hbox hb)
    | ((with_reducible refine gate_store (t := 25) (p := 2) rfl ?_); refine put_eventU ?hg (t := 25) (p := 2) (v := .tmp 4) ?ho ?hN (g := g) (u := .agg #[.int .i64 4, .int .i64 0, .float .f64 0, .string ⟨#[]⟩, .slice A n c]) (cs := #[.int .i64 4, .int .i64 0, .float .f64 0, .string ⟨#[]⟩, .slice A n c]) ?hp ?hv K.out ?hs ?hi ?h1 ?hc ?_; (case hs => rfl); (case hi => kernel_rfl); (case h1 => simp [Value.oneCell']); (case hc => simp [Value.cells]); (case hg => rfl); (case ho => rfl); (case hN => rfl); (case hp => rfl); (case hv => rfl); intro w3 hk hs; have HB := Aside0.mk (below_keep HB.out HG.out hs); have K := Aside0.mk hk; clear hk hs))
  have q0 := blk_cell K.out 0
  have q1 := blk_cell K.out 1
  have q2 := blk_cell K.out 2
  have q3 := blk_cell K.out 3
  have q4 := blk_cell K.out 4
  simp at q0 q1 q2 q3 q4
  refine bodyPost_ret (v := .agg #[.int .i64 4, .int .i64 0, .float .f64 0, .string ⟨#[]⟩, .slice A n c]) ?_ rfl ⟨rfl, HB.out⟩
  simp [results, Tryz.results16, go_sem, q0, q1, q2, q3, q4]

theorem mk_zero (W : World) : Calls Tryz.prog 12 #[.float .f64 0] W fun e w' => e = .returned (.agg #[.int .i64 2, .int .i64 0, .float .f64 0, .string ⟨#[]⟩, .slice none 0 0]) ∧ Below W.heap.size W w' := by
  have h := float31 0 W
  rwa [show canon 0 = 0 by decide +kernel] at h

theorem mk_half (W : World) : Calls Tryz.prog 12 #[.float .f64 4602678819172646912] W fun e w' => e = .returned (.agg #[.int .i64 2, .int .i64 0, .float .f64 4602678819172646912, .string ⟨#[]⟩, .slice none 0 0]) ∧ Below W.heap.size W w' := by
  have h := float31 4602678819172646912 W
  rwa [show canon 4602678819172646912 = 4602678819172646912 by decide +kernel] at h

theorem mk_two (W : World) : Calls Tryz.prog 12 #[.float .f64 4611686018427387904] W fun e w' => e = .returned (.agg #[.int .i64 2, .int .i64 0, .float .f64 4611686018427387904, .string ⟨#[]⟩, .slice none 0 0]) ∧ Below W.heap.size W w' := by
  have h := float31 4611686018427387904 W
  rwa [show canon 4611686018427387904 = 4611686018427387904 by decide +kernel] at h

theorem mk_one (W : World) : Calls Tryz.prog 12 #[.float .f64 4607182418800017408] W fun e w' => e = .returned (.agg #[.int .i64 2, .int .i64 0, .float .f64 4607182418800017408, .string ⟨#[]⟩, .slice none 0 0]) ∧ Below W.heap.size W w' := by
  have h := float31 4607182418800017408 W
  rwa [show canon 4607182418800017408 = 4607182418800017408 by decide +kernel] at h

theorem canon_zero (W : World) : Calls Tryz.prog 28 #[.float .f64 0] W fun e w' => e = .returned (.float .f64 0) ∧ w' = W := by
  have h := canon38 0 W
  rwa [show canon 0 = 0 by decide +kernel] at h
def vInt1 : Val := .mk 1 1 0 ⟨#[]⟩ []
def vHalf : Val := .mk 2 0 4602678819172646912 ⟨#[]⟩ []
def vA : Val := .mk 3 0 0 ⟨#[97]⟩ []
def vL : Val := .mk 4 0 0 ⟨#[]⟩ [vInt1, vHalf, vA]
theorem vL_text : TxtC vL ⟨#[91, 49, 44, 32, 48, 46, 53, 44, 32, 34, 97, 34, 93]⟩ := by
  have h := txt_list 0 0 ⟨#[]⟩ [vInt1, vHalf, vA] [⟨#[49]⟩, ⟨#[48, 46, 53]⟩, ⟨#[34, 97, 34]⟩] rfl (by decide) (by decide) (fun j hj => by
    match j, hj with
    | 0, _ => exact txt_int1 _ _ _
    | 1, _ => exact txt_half _ _ _
    | 2, _ => exact txt_a _ _ _) ⟨#[49, 44, 32, 48, 46, 53, 44, 32, 34, 97, 34]⟩ (by decide +kernel) (by decide)
  exact h
theorem vL_equal : equalV vL vL = true := by decide +kernel
theorem vL_check : checkV vL = 0 := by decide +kernel
theorem v9_check : checkV (.mk 9 0 0 ⟨#[]⟩ []) = 31 := by decide +kernel
theorem vL_size : sizeV vL = 24 := by decide +kernel
theorem v_order : order (.mk 2 0 0 ⟨#[]⟩ []) (.mk 2 0 4607182418800017408 ⟨#[]⟩ []) = -1 := by decide +kernel
end Go.Proofs.YtejfmghjmhiodaaGreatDoor.Vz
namespace Go.Proofs.YtejfmghjmhiodaaGreatDoor.Vz
open Go.RowKit Go.Proofs.YtejfmghjmhiodaaGreatDoorW.PrintWords
set_option linter.unusedVariables false
set_option linter.unusedSimpArgs false
attribute [local go_sem] store_float

theorem vL_RV {W : World} {gl : Nat} (K : W.heap[gl]? = some (.cells #[.int .i64 1, .int .i64 1, .float .f64 0, .string ⟨#[]⟩, .slice none 0 0, .int .i64 2, .int .i64 0, .float .f64 4602678819172646912, .string ⟨#[]⟩, .slice none 0 0, .int .i64 3, .int .i64 0, .float .f64 0, .string ⟨#[97]⟩, .slice none 0 0] 25 (0, 0))) : RV W (fun _ => True) vL #[.int .i64 4, .int .i64 0, .float .f64 0, .string ⟨#[]⟩, .slice (some ⟨gl, 0, none⟩) 3 3] := by
  refine .mk 4 0 0 ⟨#[]⟩ [vInt1, vHalf, vA] (some ⟨gl, 0, none⟩) 3 gl 0 (fun j => if j = 0 then #[.int .i64 1, .int .i64 1, .float .f64 0, .string ⟨#[]⟩, .slice none 0 0] else if j = 1 then #[.int .i64 2, .int .i64 0, .float .f64 4602678819172646912, .string ⟨#[]⟩, .slice none 0 0] else #[.int .i64 3, .int .i64 0, .float .f64 0, .string ⟨#[97]⟩, .slice none 0 0]) (by decide) (by decide) (by decide) (by decide) (by decide) (by decide) (fun _ => ⟨rfl, trivial⟩) ?_ ?_
  · intro j hj q hq
    have hj3 : j < 3 := hj
    rw [Nat.zero_add, blk_cell K]
    match j, hj3 with
    | 0, _ => match q, hq with
      | 0, _ => rfl
      | 1, _ => rfl
      | 2, _ => rfl
      | 3, _ => rfl
      | 4, _ => rfl
    | 1, _ => match q, hq with
      | 0, _ => rfl
      | 1, _ => rfl
      | 2, _ => rfl
      | 3, _ => rfl
      | 4, _ => rfl
    | 2, _ => match q, hq with
      | 0, _ => rfl
      | 1, _ => rfl
      | 2, _ => rfl
      | 3, _ => rfl
      | 4, _ => rfl
  · intro j hj
    match j, hj with
    | 0, _ => exact RV.flat (by decide) (by decide) (by decide) (by decide)
    | 1, _ => exact RV.flat (by decide) (by decide) (by decide +kernel) (by decide)
    | 2, _ => exact RV.flat (by decide) (by decide) (by decide) (by decide)
theorem flatRV (W : World) (k : Int) (f : Nat) (hk : (Lit.int .i64 k).wf = true) (hf : (Lit.float .f64 f).wf = true) : RV W (fun _ => True) (.mk k 0 f ⟨#[]⟩ []) #[.int .i64 k, .int .i64 0, .float .f64 f, .string ⟨#[]⟩, .slice none 0 0] := RV.flat hk (by decide) hf (by decide)
theorem tenK {W w : World} {g2 g1 gl : Nat} (K2 : W.heap[g2]? = some (.cells #[.int .i64 4, .int .i64 0, .float .f64 0, .string ⟨#[]⟩, .slice (some ⟨gl, 0, none⟩) 3 3] 25 (0, 0))) (K1 : W.heap[g1]? = some (.cells #[.int .i64 2, .int .i64 0, .float .f64 0, .string ⟨#[]⟩, .slice none 0 0] 25 (0, 0))) (h : Below W.heap.size W w) : w.cell? ⟨g2, 0, none⟩ = some (.int .i64 4) ∧ w.cell? ⟨g2, 1, none⟩ = some (.int .i64 0) ∧ w.cell? ⟨g2, 2, none⟩ = some (.float .f64 0) ∧ w.cell? ⟨g2, 3, none⟩ = some (.string ⟨#[]⟩) ∧ w.cell? ⟨g2, 4, none⟩ = some (.slice (some ⟨gl, 0, none⟩) 3 3) ∧ w.cell? ⟨g1, 0, none⟩ = some (.int .i64 2) ∧ w.cell? ⟨g1, 1, none⟩ = some (.int .i64 0) ∧ w.cell? ⟨g1, 2, none⟩ = some (.float .f64 0) ∧ w.cell? ⟨g1, 3, none⟩ = some (.string ⟨#[]⟩) ∧ w.cell? ⟨g1, 4, none⟩ = some (.slice none 0 0) :=
  ⟨blk_cell (blk_below K2 h) 0, blk_cell (blk_below K2 h) 1, blk_cell (blk_below K2 h) 2, blk_cell (blk_below K2 h) 3, blk_cell (blk_below K2 h) 4, blk_cell (blk_below K1 h) 0, blk_cell (blk_below K1 h) 1, blk_cell (blk_below K1 h) 2, blk_cell (blk_below K1 h) 3, blk_cell (blk_below K1 h) 4⟩

set_option maxHeartbeats 8000000 in
set_option maxRecDepth 100000 in
theorem known9 (hS : CompareC) (W : World) (T : Tabs3 W) : Calls Tryz.prog 9 #[] W fun e w' => e = .returned (.bool true) ∧ Below W.heap.size W w' := by
  have HT := Aside0.mk T
  have HS := Aside0.mk hS
  clear T hS
  go_enter Tryz.func9, Tryz.ntmps9
  go_upto_region 3 with (first
    | (go_at_call 28; refine (canon_zero _).mono ?_; rintro e w1 ⟨rfl, hw⟩; rw [hw]; clear hw w1)
    | (go_at_call 12; with_reducible refine (mk_zero _).mono ?_; rintro e w2 ⟨rfl, hb⟩; have HB := Aside0.mk hb; clear hb)
    | ((with_reducible refine gate_dst (N := 1) rfl ?_); refine box_event ?hg (N := 1) ?hd (cs := #[.int .i64 0, .int .i64 0, .float .f64 0, .string ⟨#[]⟩, .slice none 0 0]) (t := 25) ?hr ?_; (case hd => rfl); (case hg => rfl); (case hr => first | (go_simp; done) | (go_simp; rfl)); intro g1 hg w3 hbox hb; have HG := Aside0.mk (show W.heap.size ≤ g1 by (have := HB.out.size; omega)); have HB := Aside0.mk (below_step HB.out hb); have K1 := Aside0.mk hbox; clear hg hbox hb)
    | ((with_reducible refine gate_store (t := 25) (p := 1) rfl ?_); refine put_eventU ?hg (t := 25) (p := 1) (v := .tmp 4) ?ho ?hN (g := g1) (u := .agg #[.int .i64 2, .int .i64 0, .float .f64 0, .string ⟨#[]⟩, .slice none 0 0]) (cs := #[.int .i64 2, .int .i64 0, .float .f64 0, .string ⟨#[]⟩, .slice none 0 0]) ?hp ?hv K1.out ?hs ?hi ?h1 ?hc ?_; (case hs => rfl); (case hi => kernel_rfl); (case h1 => simp [Value.oneCell']); (case hc => simp [Value.cells]); (case hg => rfl); (case ho => rfl); (case hN => rfl); (case hp => rfl); (case hv => rfl); intro w4 hk hs; have HB := Aside0.mk (below_keep HB.out HG.out hs); have K1 := Aside0.mk hk; clear hk hs)
    | (go_at_call 23; refine (int14 1 _).mono ?_; rintro e w5 ⟨rfl, hb⟩; have K1 := Aside0.mk (blk_below K1.out hb); have HB := Aside0.mk (below_step HB.out hb); clear hb)
    | (go_at_call 12; with_reducible refine (mk_half _).mono ?_; rintro e w6 ⟨rfl, hb⟩; have K1 := Aside0.mk (blk_below K1.out hb); have HB := Aside0.mk (below_step HB.out hb); clear hb)
    | (go_at_call 15; refine (text32 ⟨#[97]⟩ _).mono ?_; rintro e w7 ⟨rfl, hb⟩; have K1 := Aside0.mk (blk_below K1.out hb); have HB := Aside0.mk (below_step HB.out hb); clear hb)
    | (go_at_call 16; refine (list16 _ _ _ _).mono ?_; rintro e w8 ⟨rfl, hb⟩; have hb2 := below_step (below_alloc (Below.refl _ w7) (.cells #[.int .i64 1, .int .i64 1, .float .f64 0, .string ⟨#[]⟩, .slice none 0 0, .int .i64 2, .int .i64 0, .float .f64 4602678819172646912, .string ⟨#[]⟩, .slice none 0 0, .int .i64 3, .int .i64 0, .float .f64 0, .string ⟨#[97]⟩, .slice none 0 0] 25)) hb; have hn := blk_below (blk_new w7 (.cells #[.int .i64 1, .int .i64 1, .float .f64 0, .string ⟨#[]⟩, .slice none 0 0, .int .i64 2, .int .i64 0, .float .f64 4602678819172646912, .string ⟨#[]⟩, .slice none 0 0, .int .i64 3, .int .i64 0, .float .f64 0, .string ⟨#[97]⟩, .slice none 0 0] 25)) hb; have K1 := Aside0.mk (blk_below K1.out hb2); have HB := Aside0.mk (below_step HB.out hb2); have GL := Aside0.mk hn; clear hb hb2 hn; generalize w7.heap.size = gl at GL ⊢)
    | ((with_reducible refine gate_dst (N := 2) rfl ?_); refine box_event ?hg (N := 2) ?hd (cs := #[.int .i64 0, .int .i64 0, .float .f64 0, .string ⟨#[]⟩, .slice none 0 0]) (t := 25) ?hr ?_; (case hd => rfl); (case hg => rfl); (case hr => first | (go_simp; done) | (go_simp; rfl)); intro g2 hg w9 hbox hb; have HG2 := Aside0.mk (show W.heap.size ≤ g2 ∧ g1 ≠ g2 ∧ gl ≠ g2 by (have h1_ := HB.out.size; have h2_ := blk_lt K1.out; have h3_ := blk_lt GL.out; omega)); have HB := Aside0.mk (below_step HB.out hb); have K1 := Aside0.mk (blk_below K1.out hb); have GL := Aside0.mk (blk_below GL.out hb); have K2 := Aside0.mk hbox; clear hg hbox hb)
    | ((with_reducible refine gate_store (t := 25) (p := 2) rfl ?_); refine put_eventU ?hg (t := 25) (p := 2) (v := .tmp 9) ?ho ?hN (g := g2) (u := .agg #[.int .i64 4, .int .i64 0, .float .f64 0, .string ⟨#[]⟩, .slice (some ⟨gl, 0, none⟩) 3 3]) (cs := #[.int .i64 4, .int .i64 0, .float .f64 0, .string ⟨#[]⟩, .slice (some ⟨gl, 0, none⟩) 3 3]) ?hp ?hv K2.out ?hs ?hi ?h1 ?hc ?_; (case hs => rfl); (case hi => kernel_rfl); (case h1 => simp [Value.oneCell']); (case hc => simp [Value.cells]); (case hg => rfl); (case ho => rfl); (case hN => rfl); (case hp => rfl); (case hv => rfl); intro w10 hk hs; have HB := Aside0.mk (below_keep HB.out HG2.out.1 hs); have K1 := Aside0.mk (hs.blk K1.out HG2.out.2.1); have GL := Aside0.mk (hs.blk GL.out HG2.out.2.2); have K2 := Aside0.mk hk; clear hk hs))
  have a0 : w10.cell? ⟨g2, 0, none⟩ = some (.int .i64 4) := blk_cell K2.out 0
  have a1 : w10.cell? ⟨g2, 1, none⟩ = some (.int .i64 0) := blk_cell K2.out 1
  have a2 : w10.cell? ⟨g2, 2, none⟩ = some (.float .f64 0) := blk_cell K2.out 2
  have a3 : w10.cell? ⟨g2, 3, none⟩ = some (.string ⟨#[]⟩) := blk_cell K2.out 3
  have a4 : w10.cell? ⟨g2, 4, none⟩ = some (.slice (some ⟨gl, 0, none⟩) 3 3) := blk_cell K2.out 4
  have b0 : w10.cell? ⟨g1, 0, none⟩ = some (.int .i64 2) := blk_cell K1.out 0
  have b1 : w10.cell? ⟨g1, 1, none⟩ = some (.int .i64 0) := blk_cell K1.out 1
  have b2 : w10.cell? ⟨g1, 2, none⟩ = some (.float .f64 0) := blk_cell K1.out 2
  have b3 : w10.cell? ⟨g1, 3, none⟩ = some (.string ⟨#[]⟩) := blk_cell K1.out 3
  have b4 : w10.cell? ⟨g1, 4, none⟩ = some (.slice none 0 0) := blk_cell K1.out 4
  have C0 := Aside0.mk (Below.refl w10.drew.heap.size w10.drew)
  have HW := Aside0.mk (HB.out.drew)
  have R := Aside0.mk (fun (w' : World) (h : Below w10.drew.heap.size w10.drew w') => (vL_RV (W := w10.drew) GL.out).kept h)
  have HTT := Aside0.mk (fun (w' : World) (h : Below w10.drew.heap.size w10.drew w') => HT.out.below (below_step HW.out h))
  have ceq : ∀ w', Below w10.drew.heap.size w10.drew w' → Calls Tryz.prog 13 #[.agg #[.int .i64 4, .int .i64 0, .float .f64 0, .string ⟨#[]⟩, .slice (some ⟨gl, 0, none⟩) 3 3], .agg #[.int .i64 4, .int .i64 0, .float .f64 0, .string ⟨#[]⟩, .slice (some ⟨gl, 0, none⟩) 3 3]] w' (fun e w'' => e = .returned (.bool true) ∧ Below w'.heap.size w' w'') := fun w' h => by
    have h1 := equal13 vL w' _ _ (R.out w' h) vL _ _ (R.out w' h)
    rwa [vL_equal] at h1
  have cor : ∀ w' : World, Calls Tryz.prog 11 #[.agg #[.int .i64 2, .int .i64 0, .float .f64 0, .string ⟨#[]⟩, .slice none 0 0], .agg #[.int .i64 2, .int .i64 0, .float .f64 4607182418800017408, .string ⟨#[]⟩, .slice none 0 0]] w' (fun e w'' => e = .returned (.int .i64 (-1)) ∧ Below w'.heap.size w' w'') := fun w' => by
    have h1 := order11 HS.out (.mk 2 0 0 ⟨#[]⟩ []) w' (fun _ => True) _ (flatRV _ 2 0 (by decide) (by decide)) (.mk 2 0 4607182418800017408 ⟨#[]⟩ []) (fun _ => True) _ (flatRV _ 2 4607182418800017408 (by decide) (by decide +kernel))
    rwa [v_order] at h1
  have cch : ∀ w', Below w10.drew.heap.size w10.drew w' → Calls Tryz.prog 17 #[.agg #[.int .i64 4, .int .i64 0, .float .f64 0, .string ⟨#[]⟩, .slice (some ⟨gl, 0, none⟩) 3 3]] w' (fun e w'' => e = .returned (.int .i64 0) ∧ Below w'.heap.size w' w'') := fun w' h => by
    have h1 := check17 vL w' _ _ (R.out w' h)
    rwa [vL_check] at h1
  have cc9 : ∀ w' : World, Calls Tryz.prog 17 #[.agg #[.int .i64 9, .int .i64 0, .float .f64 0, .string ⟨#[]⟩, .slice none 0 0]] w' (fun e w'' => e = .returned (.int .i64 31) ∧ Below w'.heap.size w' w'') := fun w' => by
    have h1 := check17 (.mk 9 0 0 ⟨#[]⟩ []) w' (fun _ => True) _ (flatRV _ 9 0 (by decide) (by decide))
    rwa [v9_check] at h1
  have csz : ∀ w', Below w10.drew.heap.size w10.drew w' → Calls Tryz.prog 18 #[.agg #[.int .i64 4, .int .i64 0, .float .f64 0, .string ⟨#[]⟩, .slice (some ⟨gl, 0, none⟩) 3 3]] w' (fun e w'' => e = .returned (.int .i64 24) ∧ Below w'.heap.size w' w'') := fun w' h => by
    have h1 := size18 vL w' _ _ (R.out w' h)
    rwa [vL_size] at h1
  have CE := Aside0.mk (And.intro ceq (And.intro cor (And.intro cch (And.intro cc9 csz))))
  clear ceq cor cch cc9 csz
  refine wp_region_held_drew (S := fun w' => w'.cell? ⟨g2, 0, none⟩ = some (.int .i64 4) ∧ w'.cell? ⟨g2, 1, none⟩ = some (.int .i64 0) ∧ w'.cell? ⟨g2, 2, none⟩ = some (.float .f64 0) ∧ w'.cell? ⟨g2, 3, none⟩ = some (.string ⟨#[]⟩) ∧ w'.cell? ⟨g2, 4, none⟩ = some (.slice (some ⟨gl, 0, none⟩) 3 3) ∧ w'.cell? ⟨g1, 0, none⟩ = some (.int .i64 2) ∧ w'.cell? ⟨g1, 1, none⟩ = some (.int .i64 0) ∧ w'.cell? ⟨g1, 2, none⟩ = some (.float .f64 0) ∧ w'.cell? ⟨g1, 3, none⟩ = some (.string ⟨#[]⟩) ∧ w'.cell? ⟨g1, 4, none⟩ = some (.slice none 0 0)) (by kernel_rfl) ?_ (fun hHeld => ?_)
  · exact ⟨a0, a1, a2, a3, a4, b0, b1, b2, b3, b4⟩
  refine wpAnyH_take (i := 0) (oi := { dst := some 10, op := Go.Op.load 25 (Go.Operand.tmp 2), type := 25, pos := "law.go:15", after := #[], guard := none }) (v := ?_) rfl (by kernel_rfl) (by kernel_rfl) (by kernel_rfl) (fun _ _ _ h => h) (Or.inl ⟨by rfl, ?_⟩) (by assumption) ?_
  rotate_left
  · first | (intro w hSw; (try dsimp only at hSw); go_simp; done) | (intro w hSw; (try dsimp only at hSw); go_simp; with_reducible rfl)
  try simp only [Act.put, List.setIfInBounds_toArray, List.set_cons_zero, List.set_cons_succ]
  refine wpAnyH_ready (rs := [1]) (by kernel_rfl) (by simp) ?_
  refine AllReadyH.cons (o := { dst := some 11, op := Go.Op.call { callee := Go.Callee.value (Go.Operand.func 22), args := #[Go.Operand.tmp 10], argTypes := #[25] }, type := 9, pos := "law.go:15", after := #[{ on := 0, ground := Go.Ground.data }], guard := none }) rfl (fun K hK => ?_) AllReadyH.nil
  go_simp
  refine (vL_text _ _ _ (HTT.out _ C0.out) (R.out _ C0.out)).mono ?_
  rintro e v1 ⟨rfl, hb⟩
  have C1 := Aside0.mk (below_step C0.out hb)
  refine hK.out _ _ ?_ (fun hHeld => ?_)
  · exact tenK (gl := gl) (W := w10.drew) K2.out K1.out C1.out
  clear hK K hb
  try simp only [Act.put, List.setIfInBounds_toArray, List.set_cons_zero, List.set_cons_succ]
  refine wpAnyH_take (i := 2) (oi := { dst := some 12, op := Go.Op.binOp Go.BinOp.eql 9 (Go.Operand.tmp 11) (Go.Operand.const (Go.Value.string { data := #[91, 49, 44, 32, 48, 46, 53, 44, 32, 34, 97, 34, 93] })) 9, type := 4, pos := "law.go:15", after := #[{ on := 1, ground := Go.Ground.data }], guard := none }) (v := ?_) rfl (by kernel_rfl) (by kernel_rfl) (by kernel_rfl) (fun _ _ _ h => h) (Or.inl ⟨by rfl, ?_⟩) (by assumption) ?_
  rotate_left
  · first | (intro w hSw; (try dsimp only at hSw); go_simp; done) | (intro w hSw; (try dsimp only at hSw); go_simp; with_reducible rfl)
  try simp only [Act.put, List.setIfInBounds_toArray, List.set_cons_zero, List.set_cons_succ]
  refine wpAnyH_take (i := 3) (oi := { dst := some 13, op := Go.Op.move (Go.Operand.tmp 12), type := 4, pos := "law.go:15", after := #[{ on := 2, ground := Go.Ground.data }, { on := 1, ground := Go.Ground.chain }], guard := none }) (v := ?_) rfl (by kernel_rfl) (by kernel_rfl) (by kernel_rfl) (fun _ _ _ h => h) (Or.inl ⟨by rfl, ?_⟩) (by assumption) ?_
  rotate_left
  · first | (intro w hSw; (try dsimp only at hSw); go_simp; done) | (intro w hSw; (try dsimp only at hSw); go_simp; with_reducible rfl)
  try simp only [Act.put, List.setIfInBounds_toArray, List.set_cons_zero, List.set_cons_succ]
  refine wpAnyH_ready (rs := [4]) (by kernel_rfl) (by simp) ?_
  refine AllReadyH.cons (o := { dst := some 14, op := Go.Op.call { callee := Go.Callee.value (Go.Operand.func 12), args := #[Go.Operand.const (Go.Value.float Go.FloatKind.f64 4611686018427387904)], argTypes := #[22] }, type := 25, pos := "law.go:15", after := #[{ on := 3, ground := Go.Ground.chain }, { on := 3, ground := Go.Ground.guard }], guard := some (3, true) }) rfl (fun K hK => ?_) AllReadyH.nil
  go_simp
  refine (mk_two _).mono ?_
  rintro e v2 ⟨rfl, hb⟩
  have C2 := Aside0.mk (below_step C1.out hb)
  refine hK.out _ _ ?_ (fun hHeld => ?_)
  · exact tenK (gl := gl) (W := w10.drew) K2.out K1.out C2.out
  clear hK K hb
  try simp only [Act.put, List.setIfInBounds_toArray, List.set_cons_zero, List.set_cons_succ]
  refine wpAnyH_ready (rs := [5]) (by kernel_rfl) (by simp) ?_
  refine AllReadyH.cons (o := { dst := some 15, op := Go.Op.call { callee := Go.Callee.value (Go.Operand.func 22), args := #[Go.Operand.tmp 14], argTypes := #[25] }, type := 9, pos := "law.go:15", after := #[{ on := 4, ground := Go.Ground.data }, { on := 4, ground := Go.Ground.chain }, { on := 3, ground := Go.Ground.guard }], guard := some (3, true) }) rfl (fun K hK => ?_) AllReadyH.nil
  go_simp
  refine (txt_two 0 ⟨#[]⟩ [] _ (fun _ => True) _ (HTT.out _ C2.out) (flatRV _ 2 4611686018427387904 (by decide) (by decide +kernel))).mono ?_
  rintro e v3 ⟨rfl, hb⟩
  have C3 := Aside0.mk (below_step C2.out hb)
  refine hK.out _ _ ?_ (fun hHeld => ?_)
  · exact tenK (gl := gl) (W := w10.drew) K2.out K1.out C3.out
  clear hK K hb
  try simp only [Act.put, List.setIfInBounds_toArray, List.set_cons_zero, List.set_cons_succ]
  refine wpAnyH_take (i := 6) (oi := { dst := some 16, op := Go.Op.binOp Go.BinOp.eql 9 (Go.Operand.tmp 15) (Go.Operand.const (Go.Value.string { data := #[50, 46, 48] })) 9, type := 4, pos := "law.go:15", after := #[{ on := 5, ground := Go.Ground.data }, { on := 3, ground := Go.Ground.guard }], guard := some (3, true) }) (v := ?_) rfl (by kernel_rfl) (by kernel_rfl) (by kernel_rfl) (fun _ _ _ h => h) (Or.inl ⟨by rfl, ?_⟩) (by assumption) ?_
  rotate_left
  · first | (intro w hSw; (try dsimp only at hSw); go_simp; done) | (intro w hSw; (try dsimp only at hSw); go_simp; with_reducible rfl)
  try simp only [Act.put, List.setIfInBounds_toArray, List.set_cons_zero, List.set_cons_succ]
  refine wpAnyH_take (i := 7) (oi := { dst := some 17, op := Go.Op.pick (Go.Operand.tmp 13) (Go.Operand.tmp 16) (Go.Operand.const (Go.Value.bool false)), type := 4, pos := "law.go:15", after := #[{ on := 3, ground := Go.Ground.data }, { on := 6, ground := Go.Ground.data }], guard := none }) (v := ?_) rfl (by kernel_rfl) (by kernel_rfl) (by kernel_rfl) (fun _ _ _ h => h) (Or.inl ⟨by rfl, ?_⟩) (by assumption) ?_
  rotate_left
  · first | (intro w hSw; (try dsimp only at hSw); go_simp; done) | (intro w hSw; (try dsimp only at hSw); go_simp; with_reducible rfl)
  try simp only [Act.put, List.setIfInBounds_toArray, List.set_cons_zero, List.set_cons_succ]
  refine wpAnyH_take (i := 8) (oi := { dst := some 18, op := Go.Op.move (Go.Operand.tmp 17), type := 4, pos := "law.go:15", after := #[{ on := 7, ground := Go.Ground.data }, { on := 5, ground := Go.Ground.chain }], guard := none }) (v := ?_) rfl (by kernel_rfl) (by kernel_rfl) (by kernel_rfl) (fun _ _ _ h => h) (Or.inl ⟨by rfl, ?_⟩) (by assumption) ?_
  rotate_left
  · first | (intro w hSw; (try dsimp only at hSw); go_simp; done) | (intro w hSw; (try dsimp only at hSw); go_simp; with_reducible rfl)
  try simp only [Act.put, List.setIfInBounds_toArray, List.set_cons_zero, List.set_cons_succ]
  refine wpAnyH_take (i := 9) (oi := { dst := some 19, op := Go.Op.load 25 (Go.Operand.tmp 2), type := 25, pos := "law.go:15", after := #[{ on := 8, ground := Go.Ground.guard }], guard := some (8, true) }) (v := ?_) rfl (by kernel_rfl) (by kernel_rfl) (by kernel_rfl) (fun _ _ _ h => h) (Or.inl ⟨by rfl, ?_⟩) (by assumption) ?_
  rotate_left
  · first | (intro w hSw; (try dsimp only at hSw); go_simp; done) | (intro w hSw; (try dsimp only at hSw); go_simp; with_reducible rfl)
  try simp only [Act.put, List.setIfInBounds_toArray, List.set_cons_zero, List.set_cons_succ]
  refine wpAnyH_take (i := 10) (oi := { dst := some 20, op := Go.Op.load 25 (Go.Operand.tmp 2), type := 25, pos := "law.go:15", after := #[{ on := 8, ground := Go.Ground.guard }], guard := some (8, true) }) (v := ?_) rfl (by kernel_rfl) (by kernel_rfl) (by kernel_rfl) (fun _ _ _ h => h) (Or.inl ⟨by rfl, ?_⟩) (by assumption) ?_
  rotate_left
  · first | (intro w hSw; (try dsimp only at hSw); go_simp; done) | (intro w hSw; (try dsimp only at hSw); go_simp; with_reducible rfl)
  try simp only [Act.put, List.setIfInBounds_toArray, List.set_cons_zero, List.set_cons_succ]
  refine wpAnyH_ready (rs := [11]) (by kernel_rfl) (by simp) ?_
  refine AllReadyH.cons (o := { dst := some 21, op := Go.Op.call { callee := Go.Callee.value (Go.Operand.func 13), args := #[Go.Operand.tmp 19, Go.Operand.tmp 20], argTypes := #[25, 25] }, type := 4, pos := "law.go:15", after := #[{ on := 9, ground := Go.Ground.data }, { on := 10, ground := Go.Ground.data }, { on := 8, ground := Go.Ground.chain }, { on := 8, ground := Go.Ground.guard }], guard := some (8, true) }) rfl (fun K hK => ?_) AllReadyH.nil
  go_simp
  refine (CE.out.1 _ C3.out).mono ?_
  rintro e v4 ⟨rfl, hb⟩
  have C4 := Aside0.mk (below_step C3.out hb)
  refine hK.out _ _ ?_ (fun hHeld => ?_)
  · exact tenK (gl := gl) (W := w10.drew) K2.out K1.out C4.out
  clear hK K hb
  try simp only [Act.put, List.setIfInBounds_toArray, List.set_cons_zero, List.set_cons_succ]
  refine wpAnyH_take (i := 12) (oi := { dst := some 22, op := Go.Op.pick (Go.Operand.tmp 18) (Go.Operand.tmp 21) (Go.Operand.const (Go.Value.bool false)), type := 4, pos := "law.go:15", after := #[{ on := 8, ground := Go.Ground.data }, { on := 11, ground := Go.Ground.data }], guard := none }) (v := ?_) rfl (by kernel_rfl) (by kernel_rfl) (by kernel_rfl) (fun _ _ _ h => h) (Or.inl ⟨by rfl, ?_⟩) (by assumption) ?_
  rotate_left
  · first | (intro w hSw; (try dsimp only at hSw); go_simp; done) | (intro w hSw; (try dsimp only at hSw); go_simp; with_reducible rfl)
  try simp only [Act.put, List.setIfInBounds_toArray, List.set_cons_zero, List.set_cons_succ]
  refine wpAnyH_take (i := 13) (oi := { dst := some 23, op := Go.Op.move (Go.Operand.tmp 22), type := 4, pos := "law.go:15", after := #[{ on := 12, ground := Go.Ground.data }, { on := 11, ground := Go.Ground.chain }], guard := none }) (v := ?_) rfl (by kernel_rfl) (by kernel_rfl) (by kernel_rfl) (fun _ _ _ h => h) (Or.inl ⟨by rfl, ?_⟩) (by assumption) ?_
  rotate_left
  · first | (intro w hSw; (try dsimp only at hSw); go_simp; done) | (intro w hSw; (try dsimp only at hSw); go_simp; with_reducible rfl)
  try simp only [Act.put, List.setIfInBounds_toArray, List.set_cons_zero, List.set_cons_succ]
  refine wpAnyH_take (i := 14) (oi := { dst := some 24, op := Go.Op.load 25 (Go.Operand.tmp 1), type := 25, pos := "law.go:15", after := #[{ on := 13, ground := Go.Ground.guard }], guard := some (13, true) }) (v := ?_) rfl (by kernel_rfl) (by kernel_rfl) (by kernel_rfl) (fun _ _ _ h => h) (Or.inl ⟨by rfl, ?_⟩) (by assumption) ?_
  rotate_left
  · first | (intro w hSw; (try dsimp only at hSw); go_simp; done) | (intro w hSw; (try dsimp only at hSw); go_simp; with_reducible rfl)
  try simp only [Act.put, List.setIfInBounds_toArray, List.set_cons_zero, List.set_cons_succ]
  refine wpAnyH_ready (rs := [15]) (by kernel_rfl) (by simp) ?_
  refine AllReadyH.cons (o := { dst := some 25, op := Go.Op.call { callee := Go.Callee.value (Go.Operand.func 12), args := #[Go.Operand.const (Go.Value.float Go.FloatKind.f64 4607182418800017408)], argTypes := #[22] }, type := 25, pos := "law.go:15", after := #[{ on := 13, ground := Go.Ground.chain }, { on := 13, ground := Go.Ground.guard }], guard := some (13, true) }) rfl (fun K hK => ?_) AllReadyH.nil
  go_simp
  refine (mk_one _).mono ?_
  rintro e v5 ⟨rfl, hb⟩
  have C5 := Aside0.mk (below_step C4.out hb)
  refine hK.out _ _ ?_ (fun hHeld => ?_)
  · exact tenK (gl := gl) (W := w10.drew) K2.out K1.out C5.out
  clear hK K hb
  try simp only [Act.put, List.setIfInBounds_toArray, List.set_cons_zero, List.set_cons_succ]
  refine wpAnyH_ready (rs := [16]) (by kernel_rfl) (by simp) ?_
  refine AllReadyH.cons (o := { dst := some 26, op := Go.Op.call { callee := Go.Callee.value (Go.Operand.func 11), args := #[Go.Operand.tmp 24, Go.Operand.tmp 25], argTypes := #[25, 25] }, type := 3, pos := "law.go:15", after := #[{ on := 14, ground := Go.Ground.data }, { on := 15, ground := Go.Ground.data }, { on := 15, ground := Go.Ground.chain }, { on := 13, ground := Go.Ground.guard }], guard := some (13, true) }) rfl (fun K hK => ?_) AllReadyH.nil
  go_simp
  refine (CE.out.2.1 _).mono ?_
  rintro e v6 ⟨rfl, hb⟩
  have C6 := Aside0.mk (below_step C5.out hb)
  refine hK.out _ _ ?_ (fun hHeld => ?_)
  · exact tenK (gl := gl) (W := w10.drew) K2.out K1.out C6.out
  clear hK K hb
  try simp only [Act.put, List.setIfInBounds_toArray, List.set_cons_zero, List.set_cons_succ]
  refine wpAnyH_take (i := 17) (oi := { dst := some 27, op := Go.Op.binOp Go.BinOp.eql 3 (Go.Operand.tmp 26) (Go.Operand.const (Go.Value.int Go.IntKind.i64 (-1))) 3, type := 4, pos := "law.go:15", after := #[{ on := 16, ground := Go.Ground.data }, { on := 13, ground := Go.Ground.guard }], guard := some (13, true) }) (v := ?_) rfl (by kernel_rfl) (by kernel_rfl) (by kernel_rfl) (fun _ _ _ h => h) (Or.inl ⟨by rfl, ?_⟩) (by assumption) ?_
  rotate_left
  · first | (intro w hSw; (try dsimp only at hSw); go_simp; done) | (intro w hSw; (try dsimp only at hSw); go_simp; with_reducible rfl)
  try simp only [Act.put, List.setIfInBounds_toArray, List.set_cons_zero, List.set_cons_succ]
  refine wpAnyH_take (i := 18) (oi := { dst := some 28, op := Go.Op.pick (Go.Operand.tmp 23) (Go.Operand.tmp 27) (Go.Operand.const (Go.Value.bool false)), type := 4, pos := "law.go:15", after := #[{ on := 13, ground := Go.Ground.data }, { on := 17, ground := Go.Ground.data }], guard := none }) (v := ?_) rfl (by kernel_rfl) (by kernel_rfl) (by kernel_rfl) (fun _ _ _ h => h) (Or.inl ⟨by rfl, ?_⟩) (by assumption) ?_
  rotate_left
  · first | (intro w hSw; (try dsimp only at hSw); go_simp; done) | (intro w hSw; (try dsimp only at hSw); go_simp; with_reducible rfl)
  try simp only [Act.put, List.setIfInBounds_toArray, List.set_cons_zero, List.set_cons_succ]
  refine wpAnyH_take (i := 19) (oi := { dst := some 29, op := Go.Op.move (Go.Operand.tmp 28), type := 4, pos := "law.go:15", after := #[{ on := 18, ground := Go.Ground.data }, { on := 16, ground := Go.Ground.chain }], guard := none }) (v := ?_) rfl (by kernel_rfl) (by kernel_rfl) (by kernel_rfl) (fun _ _ _ h => h) (Or.inl ⟨by rfl, ?_⟩) (by assumption) ?_
  rotate_left
  · first | (intro w hSw; (try dsimp only at hSw); go_simp; done) | (intro w hSw; (try dsimp only at hSw); go_simp; with_reducible rfl)
  try simp only [Act.put, List.setIfInBounds_toArray, List.set_cons_zero, List.set_cons_succ]
  refine wpAnyH_take (i := 20) (oi := { dst := some 30, op := Go.Op.load 25 (Go.Operand.tmp 2), type := 25, pos := "law.go:15", after := #[{ on := 19, ground := Go.Ground.guard }], guard := some (19, true) }) (v := ?_) rfl (by kernel_rfl) (by kernel_rfl) (by kernel_rfl) (fun _ _ _ h => h) (Or.inl ⟨by rfl, ?_⟩) (by assumption) ?_
  rotate_left
  · first | (intro w hSw; (try dsimp only at hSw); go_simp; done) | (intro w hSw; (try dsimp only at hSw); go_simp; with_reducible rfl)
  try simp only [Act.put, List.setIfInBounds_toArray, List.set_cons_zero, List.set_cons_succ]
  refine wpAnyH_ready (rs := [21]) (by kernel_rfl) (by simp) ?_
  refine AllReadyH.cons (o := { dst := some 31, op := Go.Op.call { callee := Go.Callee.value (Go.Operand.func 17), args := #[Go.Operand.tmp 30], argTypes := #[25] }, type := 38, pos := "law.go:15", after := #[{ on := 20, ground := Go.Ground.data }, { on := 19, ground := Go.Ground.chain }, { on := 19, ground := Go.Ground.guard }], guard := some (19, true) }) rfl (fun K hK => ?_) AllReadyH.nil
  go_simp
  refine (CE.out.2.2.1 _ C6.out).mono ?_
  rintro e v7 ⟨rfl, hb⟩
  have C7 := Aside0.mk (below_step C6.out hb)
  refine hK.out _ _ ?_ (fun hHeld => ?_)
  · exact tenK (gl := gl) (W := w10.drew) K2.out K1.out C7.out
  clear hK K hb
  try simp only [Act.put, List.setIfInBounds_toArray, List.set_cons_zero, List.set_cons_succ]
  refine wpAnyH_take (i := 22) (oi := { dst := some 32, op := Go.Op.binOp Go.BinOp.eql 3 (Go.Operand.tmp 31) (Go.Operand.const (Go.Value.int Go.IntKind.i64 0)) 3, type := 4, pos := "law.go:15", after := #[{ on := 21, ground := Go.Ground.data }, { on := 19, ground := Go.Ground.guard }], guard := some (19, true) }) (v := ?_) rfl (by kernel_rfl) (by kernel_rfl) (by kernel_rfl) (fun _ _ _ h => h) (Or.inl ⟨by rfl, ?_⟩) (by assumption) ?_
  rotate_left
  · first | (intro w hSw; (try dsimp only at hSw); go_simp; done) | (intro w hSw; (try dsimp only at hSw); go_simp; with_reducible rfl)
  try simp only [Act.put, List.setIfInBounds_toArray, List.set_cons_zero, List.set_cons_succ]
  refine wpAnyH_take (i := 23) (oi := { dst := some 33, op := Go.Op.pick (Go.Operand.tmp 29) (Go.Operand.tmp 32) (Go.Operand.const (Go.Value.bool false)), type := 4, pos := "law.go:15", after := #[{ on := 19, ground := Go.Ground.data }, { on := 22, ground := Go.Ground.data }], guard := none }) (v := ?_) rfl (by kernel_rfl) (by kernel_rfl) (by kernel_rfl) (fun _ _ _ h => h) (Or.inl ⟨by rfl, ?_⟩) (by assumption) ?_
  rotate_left
  · first | (intro w hSw; (try dsimp only at hSw); go_simp; done) | (intro w hSw; (try dsimp only at hSw); go_simp; with_reducible rfl)
  try simp only [Act.put, List.setIfInBounds_toArray, List.set_cons_zero, List.set_cons_succ]
  refine wpAnyH_take (i := 24) (oi := { dst := some 34, op := Go.Op.move (Go.Operand.tmp 33), type := 4, pos := "law.go:15", after := #[{ on := 23, ground := Go.Ground.data }, { on := 21, ground := Go.Ground.chain }], guard := none }) (v := ?_) rfl (by kernel_rfl) (by kernel_rfl) (by kernel_rfl) (fun _ _ _ h => h) (Or.inl ⟨by rfl, ?_⟩) (by assumption) ?_
  rotate_left
  · first | (intro w hSw; (try dsimp only at hSw); go_simp; done) | (intro w hSw; (try dsimp only at hSw); go_simp; with_reducible rfl)
  try simp only [Act.put, List.setIfInBounds_toArray, List.set_cons_zero, List.set_cons_succ]
  refine wpAnyH_take (i := 25) (oi := { dst := some 35, op := Go.Op.build 25 #[(0, Go.Operand.const (Go.Value.int Go.IntKind.i64 9))], type := 25, pos := "law.go:15", after := #[{ on := 24, ground := Go.Ground.guard }], guard := some (24, true) }) (v := ?_) rfl (by kernel_rfl) (by kernel_rfl) (by kernel_rfl) (fun _ _ _ h => h) (Or.inl ⟨by rfl, ?_⟩) (by assumption) ?_
  rotate_left
  · first | (intro w hSw; (try dsimp only at hSw); go_simp; done) | (intro w hSw; (try dsimp only at hSw); go_simp; with_reducible rfl)
  try simp only [Act.put, List.setIfInBounds_toArray, List.set_cons_zero, List.set_cons_succ]
  refine wpAnyH_ready (rs := [26]) (by kernel_rfl) (by simp) ?_
  refine AllReadyH.cons (o := { dst := some 36, op := Go.Op.call { callee := Go.Callee.value (Go.Operand.func 17), args := #[Go.Operand.tmp 35], argTypes := #[25] }, type := 38, pos := "law.go:15", after := #[{ on := 25, ground := Go.Ground.data }, { on := 24, ground := Go.Ground.chain }, { on := 24, ground := Go.Ground.guard }], guard := some (24, true) }) rfl (fun K hK => ?_) AllReadyH.nil
  go_simp
  refine (CE.out.2.2.2.1 _).mono ?_
  rintro e v8 ⟨rfl, hb⟩
  have C8 := Aside0.mk (below_step C7.out hb)
  refine hK.out _ _ ?_ (fun hHeld => ?_)
  · exact tenK (gl := gl) (W := w10.drew) K2.out K1.out C8.out
  clear hK K hb
  try simp only [Act.put, List.setIfInBounds_toArray, List.set_cons_zero, List.set_cons_succ]
  refine wpAnyH_take (i := 27) (oi := { dst := some 37, op := Go.Op.binOp Go.BinOp.eql 3 (Go.Operand.tmp 36) (Go.Operand.const (Go.Value.int Go.IntKind.i64 31)) 3, type := 4, pos := "law.go:15", after := #[{ on := 26, ground := Go.Ground.data }, { on := 24, ground := Go.Ground.guard }], guard := some (24, true) }) (v := ?_) rfl (by kernel_rfl) (by kernel_rfl) (by kernel_rfl) (fun _ _ _ h => h) (Or.inl ⟨by rfl, ?_⟩) (by assumption) ?_
  rotate_left
  · first | (intro w hSw; (try dsimp only at hSw); go_simp; done) | (intro w hSw; (try dsimp only at hSw); go_simp; with_reducible rfl)
  try simp only [Act.put, List.setIfInBounds_toArray, List.set_cons_zero, List.set_cons_succ]
  refine wpAnyH_take (i := 28) (oi := { dst := some 38, op := Go.Op.pick (Go.Operand.tmp 34) (Go.Operand.tmp 37) (Go.Operand.const (Go.Value.bool false)), type := 4, pos := "law.go:15", after := #[{ on := 24, ground := Go.Ground.data }, { on := 27, ground := Go.Ground.data }], guard := none }) (v := ?_) rfl (by kernel_rfl) (by kernel_rfl) (by kernel_rfl) (fun _ _ _ h => h) (Or.inl ⟨by rfl, ?_⟩) (by assumption) ?_
  rotate_left
  · first | (intro w hSw; (try dsimp only at hSw); go_simp; done) | (intro w hSw; (try dsimp only at hSw); go_simp; with_reducible rfl)
  try simp only [Act.put, List.setIfInBounds_toArray, List.set_cons_zero, List.set_cons_succ]
  refine wpAnyH_take (i := 29) (oi := { dst := some 39, op := Go.Op.move (Go.Operand.tmp 38), type := 4, pos := "law.go:15", after := #[{ on := 28, ground := Go.Ground.data }, { on := 26, ground := Go.Ground.chain }], guard := none }) (v := ?_) rfl (by kernel_rfl) (by kernel_rfl) (by kernel_rfl) (fun _ _ _ h => h) (Or.inl ⟨by rfl, ?_⟩) (by assumption) ?_
  rotate_left
  · first | (intro w hSw; (try dsimp only at hSw); go_simp; done) | (intro w hSw; (try dsimp only at hSw); go_simp; with_reducible rfl)
  try simp only [Act.put, List.setIfInBounds_toArray, List.set_cons_zero, List.set_cons_succ]
  refine wpAnyH_take (i := 30) (oi := { dst := some 40, op := Go.Op.load 25 (Go.Operand.tmp 2), type := 25, pos := "law.go:15", after := #[{ on := 29, ground := Go.Ground.guard }], guard := some (29, true) }) (v := ?_) rfl (by kernel_rfl) (by kernel_rfl) (by kernel_rfl) (fun _ _ _ h => h) (Or.inl ⟨by rfl, ?_⟩) (by assumption) ?_
  rotate_left
  · first | (intro w hSw; (try dsimp only at hSw); go_simp; done) | (intro w hSw; (try dsimp only at hSw); go_simp; with_reducible rfl)
  try simp only [Act.put, List.setIfInBounds_toArray, List.set_cons_zero, List.set_cons_succ]
  refine wpAnyH_ready (rs := [31]) (by kernel_rfl) (by simp) ?_
  refine AllReadyH.cons (o := { dst := some 41, op := Go.Op.call { callee := Go.Callee.value (Go.Operand.func 18), args := #[Go.Operand.tmp 40], argTypes := #[25] }, type := 3, pos := "law.go:15", after := #[{ on := 30, ground := Go.Ground.data }, { on := 29, ground := Go.Ground.chain }, { on := 29, ground := Go.Ground.guard }], guard := some (29, true) }) rfl (fun K hK => ?_) AllReadyH.nil
  go_simp
  refine (CE.out.2.2.2.2 _ C8.out).mono ?_
  rintro e v9 ⟨rfl, hb⟩
  have C9 := Aside0.mk (below_step C8.out hb)
  refine hK.out _ _ ?_ (fun hHeld => ?_)
  · exact tenK (gl := gl) (W := w10.drew) K2.out K1.out C9.out
  clear hK K hb
  try simp only [Act.put, List.setIfInBounds_toArray, List.set_cons_zero, List.set_cons_succ]
  refine wpAnyH_take (i := 32) (oi := { dst := some 42, op := Go.Op.binOp Go.BinOp.eql 3 (Go.Operand.tmp 41) (Go.Operand.const (Go.Value.int Go.IntKind.i64 24)) 3, type := 4, pos := "law.go:15", after := #[{ on := 31, ground := Go.Ground.data }, { on := 29, ground := Go.Ground.guard }], guard := some (29, true) }) (v := ?_) rfl (by kernel_rfl) (by kernel_rfl) (by kernel_rfl) (fun _ _ _ h => h) (Or.inl ⟨by rfl, ?_⟩) (by assumption) ?_
  rotate_left
  · first | (intro w hSw; (try dsimp only at hSw); go_simp; done) | (intro w hSw; (try dsimp only at hSw); go_simp; with_reducible rfl)
  try simp only [Act.put, List.setIfInBounds_toArray, List.set_cons_zero, List.set_cons_succ]
  refine wpAnyH_take (i := 33) (oi := { dst := some 43, op := Go.Op.pick (Go.Operand.tmp 39) (Go.Operand.tmp 42) (Go.Operand.const (Go.Value.bool false)), type := 4, pos := "law.go:15", after := #[{ on := 29, ground := Go.Ground.data }, { on := 32, ground := Go.Ground.data }], guard := none }) (v := ?_) rfl (by kernel_rfl) (by kernel_rfl) (by kernel_rfl) (fun _ _ _ h => h) (Or.inl ⟨by rfl, ?_⟩) (by assumption) ?_
  rotate_left
  · first | (intro w hSw; (try dsimp only at hSw); go_simp; done) | (intro w hSw; (try dsimp only at hSw); go_simp; with_reducible rfl)
  try simp only [Act.put, List.setIfInBounds_toArray, List.set_cons_zero, List.set_cons_succ]
  refine wpAnyH_take (i := 34) (oi := { dst := some 0, op := Go.Op.assign (Go.Operand.tmp 43), type := 4, pos := "law.go:15", after := #[{ on := 33, ground := Go.Ground.data }, { on := 31, ground := Go.Ground.chain }, { on := 0, ground := Go.Ground.phase }, { on := 1, ground := Go.Ground.phase }, { on := 2, ground := Go.Ground.phase }, { on := 3, ground := Go.Ground.phase }, { on := 4, ground := Go.Ground.phase }, { on := 5, ground := Go.Ground.phase }, { on := 6, ground := Go.Ground.phase }, { on := 7, ground := Go.Ground.phase }, { on := 8, ground := Go.Ground.phase }, { on := 9, ground := Go.Ground.phase }, { on := 10, ground := Go.Ground.phase }, { on := 11, ground := Go.Ground.phase }, { on := 12, ground := Go.Ground.phase }, { on := 13, ground := Go.Ground.phase }, { on := 14, ground := Go.Ground.phase }, { on := 15, ground := Go.Ground.phase }, { on := 16, ground := Go.Ground.phase }, { on := 17, ground := Go.Ground.phase }, { on := 18, ground := Go.Ground.phase }, { on := 19, ground := Go.Ground.phase }, { on := 20, ground := Go.Ground.phase }, { on := 21, ground := Go.Ground.phase }, { on := 22, ground := Go.Ground.phase }, { on := 23, ground := Go.Ground.phase }, { on := 24, ground := Go.Ground.phase }, { on := 25, ground := Go.Ground.phase }, { on := 26, ground := Go.Ground.phase }, { on := 27, ground := Go.Ground.phase }, { on := 28, ground := Go.Ground.phase }, { on := 29, ground := Go.Ground.phase }, { on := 30, ground := Go.Ground.phase }, { on := 31, ground := Go.Ground.phase }, { on := 32, ground := Go.Ground.phase }, { on := 33, ground := Go.Ground.phase }], guard := none }) (v := ?_) rfl (by kernel_rfl) (by kernel_rfl) (by kernel_rfl) (fun _ _ _ h => h) (Or.inl ⟨by rfl, ?_⟩) (by assumption) ?_
  rotate_left
  · first | (intro w hSw; (try dsimp only at hSw); go_simp; done) | (intro w hSw; (try dsimp only at hSw); go_simp; with_reducible rfl)
  try simp only [Act.put, List.setIfInBounds_toArray, List.set_cons_zero, List.set_cons_succ]
  refine wpAnyH_done (by kernel_rfl) ?_ _
  have HF := Aside0.mk (below_step HW.out C9.out)
  clear hHeld a0 a1 a2 a3 a4 b0 b1 b2 b3 b4
  go_wp2
  go_ret
  exact ⟨rfl, HF.out⟩
end Go.Proofs.YtejfmghjmhiodaaGreatDoor.Vz
namespace Go.Proofs.YtejfmghjmhiodaaGreatDoor.Vz
open Go.RowKit Go.Proofs.YtejfmghjmhiodaaGreatDoorW.PrintWords Go.Proofs.YtejfmghjmhiodaaGreatDoorW.PrintLast
set_option linter.unusedVariables false
set_option linter.unusedSimpArgs false
attribute [local go_sem] store_float

theorem pclean50 (v : Val) : PCleanC v := by
  induction v using Val.ind with
  | h k i f s l ih =>
    intro W ok cs hR
    obtain ⟨A, c, rfl, wk, wi, wf, ws, wc, wb⟩ := hR.len
    have hk1 : (Lit.int .i64 1).wf = true := by decide
    have hk2 : (Lit.int .i64 2).wf = true := by decide
    have hk3 : (Lit.int .i64 3).wf = true := by decide
    have hi0 : (Lit.int .i64 0).wf = true := by decide
    have hf0 : (Lit.float .f64 0).wf = true := by decide
    have hs0 : (⟨#[]⟩ : ByteArray).size ≤ 140737488351232 := by decide
    unfold clean
    by_cases h1 : k = 1
    · subst h1
      exact (pclean_1 1 i f s A l.length c W).mono fun e w' ⟨he, hb⟩ => ⟨_, he, by simp only [if_true]; exact OV.flat hk1 wi hf0 hs0, hb⟩
    · rw [if_neg h1]
      by_cases h2 : k = 2
      · subst h2
        exact (pclean_2 2 i f s A l.length c W).mono fun e w' ⟨he, hb⟩ => ⟨_, he, by simp only [if_true]; exact OV.flat hk2 hi0 (canon_wf wf) hs0, hb⟩
      · rw [if_neg h2]
        by_cases h3 : k = 3
        · subst h3
          exact (pclean_3 3 i f s A l.length c W).mono fun e w' ⟨he, hb⟩ => ⟨_, he, by simp only [if_true]; exact OV.flat hk3 hi0 hf0 ws, hb⟩
        · rw [if_neg h3]
          by_cases h4 : k = 4
          · subst h4
            refine (pclean_4 i f s l ih W ok A l.length c rfl hR).mono fun e w' ⟨cs', he, hv, hb⟩ => ⟨_, he, by simp only [if_true]; exact hv, hb⟩
          · rw [if_neg h4]
            exact (pclean_0 k i f s A l.length c W (beq_eq_false_iff_ne.2 h1) (beq_eq_false_iff_ne.2 h2) (beq_eq_false_iff_ne.2 h3) (beq_eq_false_iff_ne.2 h4)).mono fun e w' ⟨he, hb⟩ => ⟨_, he, OV.flat hi0 hi0 hf0 hs0, hb⟩

set_option maxHeartbeats 8000000 in
set_option maxRecDepth 100000 in
/-- Clone. -/
theorem clone26 (v : Val) (W : World) (ok : Nat → Prop) (cs : Array Value) (hR : RV W ok v cs) : Calls Tryz.prog 26 #[.agg cs] W fun e w' => ∃ cs', e = .returned (.agg cs') ∧ OV w' (fun g => W.heap.size ≤ g) (clean v) cs' ∧ Below W.heap.size W w' := by
  have HP := Aside0.mk (fun (W' : World) ok' cs' h' => pclean50 v W' ok' cs' h')
  have HR := Aside0.mk hR
  obtain ⟨k, i, f, s, A, n, c, rfl⟩ := hR.form
  clear hR
  go_enter Tryz.func26, Tryz.ntmps26
  go_wp2_with (first
    | ((with_reducible refine gate_dst (N := 1) rfl ?_); refine box_event ?hg (N := 1) ?hd (cs := #[.int .i64 k, .int .i64 i, .float .f64 f, .string s, .slice A n c]) (t := 25) ?hr ?_; (case hd => rfl); (case hg => rfl); (case hr => first | (go_simp; done) | (go_simp; rfl)); intro gb hg w1 hbox hb; have HB := Aside0.mk hb; have KB := Aside0.mk hbox; clear hg hbox hb)
    | ((with_reducible refine gate_dst (N := 2) rfl ?_); refine box_event ?hg (N := 2) ?hd (cs := #[.int .i64 0, .int .i64 0, .float .f64 0, .string ⟨#[]⟩, .slice none 0 0]) (t := 25) ?hr ?_; (case hd => rfl); (case hg => rfl); (case hr => first | (go_simp; done) | (go_simp; rfl)); intro gr hg w2 hbox hb; have HG := Aside0.mk (show W.heap.size ≤ gr from by (have := HB.out.size; omega)); have HB := Aside0.mk (below_step HB.out hb); have KB := Aside0.mk (blk_below KB.out hb); have K := Aside0.mk hbox; have b0 : w2.cell? ⟨gb, 0, none⟩ = some (.int .i64 k) := blk_cell KB.out 0; have b1 : w2.cell? ⟨gb, 1, none⟩ = some (.int .i64 i) := blk_cell KB.out 1; have b2 : w2.cell? ⟨gb, 2, none⟩ = some (.float .f64 f) := blk_cell KB.out 2; have b3 : w2.cell? ⟨gb, 3, none⟩ = some (.string s) := blk_cell KB.out 3; have b4 : w2.cell? ⟨gb, 4, none⟩ = some (.slice A n c) := blk_cell KB.out 4; clear hg hbox hb)
    | (go_at_call 50; (with_reducible refine (HP.out _ _ _ (HR.out.kept HB.out)).mono ?_); rintro e w3 ⟨cs', rfl, hcs, hb⟩; obtain ⟨y0, y1, y2, y3, y4, y5, y6, rfl⟩ := hcs.form; have HO := Aside0.mk (hcs.mono (ok' := fun q => W.heap.size ≤ q ∧ gr ≠ q) (fun q hq _ => by have := HB.out.size; have := blk_lt K.out; omega)); have HB := Aside0.mk (below_step HB.out hb); have K := Aside0.mk (blk_below K.out hb); clear hcs hb)
    | ((with_reducible refine gate_store (t := 25) (p := 2) rfl ?_); refine put_eventU ?hg (t := 25) (p := 2) (v := .tmp 4) ?ho ?hN (g := gr) (u := .agg #[.int .i64 y0, .int .i64 y1, .float .f64 y2, .string y3, .slice y4 y5 y6]) (cs := #[.int .i64 y0, .int .i64 y1, .float .f64 y2, .string y3, .slice y4 y5 y6]) ?hp ?hv K.out ?hs ?hi ?h1 ?hc ?_; (case hs => rfl); (case hi => kernel_rfl); (case h1 => simp [Value.oneCell']); (case hc => simp [Value.cells]); (case hg => rfl); (case ho => rfl); (case hN => rfl); (case hp => rfl); (case hv => rfl); intro w4 hk hs; have HB := Aside0.mk (below_keep HB.out HG.out hs); have HO := Aside0.mk (HO.out.step (ok' := fun q => W.heap.size ≤ q) (fun q hq hlt => hs.block q hlt (fun e => hq.2 e.symm)) (fun q hq _ => hq.1)); have K := Aside0.mk hk; clear hk hs))
  have q0 := blk_cell K.out 0
  have q1 := blk_cell K.out 1
  have q2 := blk_cell K.out 2
  have q3 := blk_cell K.out 3
  have q4 := blk_cell K.out 4
  simp at q0 q1 q2 q3 q4
  refine bodyPost_ret (v := .agg #[.int .i64 y0, .int .i64 y1, .float .f64 y2, .string y3, .slice y4 y5 y6]) ?_ rfl ⟨_, rfl, HO.out, HB.out⟩
  simp [results, Tryz.results26, go_sem, q0, q1, q2, q3, q4]

/-- The law's value: a list of a list and a number. -/
def twoV (l : List Val) : Val := .mk 4 0 0 ⟨#[]⟩ [.mk 4 0 0 ⟨#[]⟩ l, .mk 1 1 0 ⟨#[]⟩ []]
theorem twoV_RV {W : World} {ok : Nat → Prop} {l : List Val} {A : Option Addr} {n c gl : Nat} (hl : RV W ok (.mk 4 0 0 ⟨#[]⟩ l) #[.int .i64 4, .int .i64 0, .float .f64 0, .string ⟨#[]⟩, .slice A n c]) (hg : ok gl) (K : W.heap[gl]? = some (.cells #[.int .i64 4, .int .i64 0, .float .f64 0, .string ⟨#[]⟩, .slice A n c, .int .i64 1, .int .i64 1, .float .f64 0, .string ⟨#[]⟩, .slice none 0 0] 25 (0, 0))) : RV W ok (twoV l) #[.int .i64 4, .int .i64 0, .float .f64 0, .string ⟨#[]⟩, .slice (some ⟨gl, 0, none⟩) 2 2] := by
  refine .mk 4 0 0 ⟨#[]⟩ [.mk 4 0 0 ⟨#[]⟩ l, .mk 1 1 0 ⟨#[]⟩ []] (some ⟨gl, 0, none⟩) 2 gl 0 (fun j => if j = 0 then #[.int .i64 4, .int .i64 0, .float .f64 0, .string ⟨#[]⟩, .slice A n c] else #[.int .i64 1, .int .i64 1, .float .f64 0, .string ⟨#[]⟩, .slice none 0 0]) (by decide) (by decide) (by decide) (by decide) (by simp) (by simp) (fun _ => ⟨rfl, hg⟩) ?_ ?_
  · intro j hj q hq
    have hj3 : j < 2 := hj
    rw [Nat.zero_add, blk_cell K]
    match j, hj3 with
    | 0, _ => match q, hq with
      | 0, _ => rfl
      | 1, _ => rfl
      | 2, _ => rfl
      | 3, _ => rfl
      | 4, _ => rfl
    | 1, _ => match q, hq with
      | 0, _ => rfl
      | 1, _ => rfl
      | 2, _ => rfl
      | 3, _ => rfl
      | 4, _ => rfl
  · intro j hj
    match j, hj with
    | 0, _ => exact hl
    | 1, _ => exact RV.flat (by decide) (by decide) (by decide) (by decide)
/-- The clone of that value: where its parts lie. -/
structure Cloned (W : World) (B : Nat) (n g1 c1 g2 : Nat) (A2 : Option Addr) (c2 : Nat) : Prop where
  h1 : B ≤ g1
  h2 : B ≤ g2
  hne : g2 ≠ g1
  b1 : ∃ cur, W.heap[g1]? = some (.cells cur 25 (0, 0)) ∧ cur.size = c1 * 5 ∧ 2 ≤ c1 ∧ cur[4]? = some (.slice A2 n c2)
  b2 : 0 < n → A2 = some ⟨g2, 0, none⟩ ∧ n ≤ c2 ∧ ∃ cur, W.heap[g2]? = some (.cells cur 25 (0, 0)) ∧ cur.size = c2 * 5
theorem cloned_of {W : World} {B : Nat} {l : List Val} {n : Nat} (hn : l.length = n) {cs : Array Value} (h : OV W (fun g => B ≤ g) (clean (twoV l)) cs) : ∃ g1 c1 g2 A2 c2, cs = #[.int .i64 4, .int .i64 0, .float .f64 0, .string ⟨#[]⟩, .slice (some ⟨g1, 0, none⟩) 2 c1] ∧ Cloned W B n g1 c1 g2 A2 c2 := by
  have e : clean (twoV l) = .mk 4 0 0 ⟨#[]⟩ [.mk 4 0 0 ⟨#[]⟩ (cleans l), .mk 1 1 0 ⟨#[]⟩ []] := by
    simp [twoV, clean, cleans]
  rw [e] at h
  cases h with
  | mk ok k i f s l' A c css hk hi hf hs hb hn' ho hok hsub =>
    rcases ho.2 with ⟨_, h0⟩ | ⟨g, cap, cur, hv, hg, hh, hc, _, hcs, htk⟩
    · simp at h0
    · simp only [Value.slice.injEq, true_and, List.length_cons, List.length_nil] at hv
      obtain ⟨rfl, rfl⟩ := hv
      have hB := hok g rfl
      have s0 := hsub 0 (by rw [hn']; simp) (by simp)
      simp only [List.getElem_cons_zero] at s0
      have hn2 : (cleans l).length = n := by rw [cleans_map]; simpa using hn
      obtain ⟨A2, c2, css2, e0, ho2, hok2⟩ : ∃ A2 c2, ∃ css2, css[0]'(by rw [hn']; simp) = #[.int .i64 4, .int .i64 0, .float .f64 0, .string ⟨#[]⟩, .slice A2 (cleans l).length c2] ∧ W.ownsRow 0 25 5 (.slice A2 (cleans l).length c2) (cleans l).length (rows css2) ∧ (∀ q, (Value.slice A2 (cleans l).length c2).ownBlock = some q → B ≤ q ∧ q ≠ g) := by
        generalize hq : css[0]'(by rw [hn']; simp) = z at s0
        cases s0 with
        | mk ok k i f s l' A2 c2 css2 _ _ _ _ _ _ ho2 hok2 _ => exact ⟨A2, c2, css2, rfl, ho2, fun q hq => ⟨(hok2 q hq).1, fun e => (hok2 q hq).2 (by rw [e]; rfl)⟩⟩
      have h4 : cur[4]? = some (.slice A2 n c2) := by
        have h5 : ∀ x ∈ css, x.size = 5 := fun x hx => by
          obtain ⟨i, hi', rfl⟩ := List.getElem_of_mem hx
          exact (hsub i hi' (by rw [hn'] at hi'; exact hi')).size
        have hr := rows_get h5 0 (by rw [hn']; simp) 4 (by decide)
        have : (rows css)[0 * 5 + 4]? = cur[4]? := by
          rw [← htk, List.getElem?_take_of_lt (by simp), Array.getElem?_toList]
        rw [← this, hr, e0, hn2]
        rfl
      rw [hn2] at ho2 hok2
      rcases ho2.2 with ⟨hv2, h20⟩ | ⟨g2, cap2, cur2, hv2, hg2, hh2, hc2, _, hcs2, htk2⟩
      · exact ⟨g, c, g + 1 + B, A2, c2, rfl, hB, by omega, by omega, ⟨cur, hh, hcs, hc, h4⟩, fun h => by omega⟩
      · simp only [Value.slice.injEq, true_and] at hv2
        obtain ⟨rfl, rfl⟩ := hv2
        exact ⟨g, c, g2, _, c2, rfl, hB, (hok2 g2 rfl).1, (hok2 g2 rfl).2, ⟨cur, hh, hcs, hc, h4⟩, fun _ => ⟨rfl, hc2, cur2, hh2, hcs2⟩⟩
end Go.Proofs.YtejfmghjmhiodaaGreatDoor.Vz
namespace Go.Proofs.YtejfmghjmhiodaaGreatDoor.Vz
open Go.RowKit Go.Proofs.YtejfmghjmhiodaaGreatDoorW.PrintWords Go.Proofs.YtejfmghjmhiodaaGreatDoorW.PrintLast
set_option linter.unusedVariables false
set_option linter.unusedSimpArgs false
attribute [local go_sem] store_float

section
variable {P : Program} {ops : Array Oper} {o : Oper} {a : Act} {Q : Exit → Act → World → Prop} {K : Act → World → Prop}
/-- A store of some cells at a place. -/
theorem stepH_at {W : World} (hw : Region.wanted o (yielded ops a.tmps) = true) {t : TypeId} {p : Tmp} {v : Operand} (ho : o.op = .store t (.tmp p) v) (hN : o.dst = none) {g off : Nat} {u : Value} {cur cs : Array Value} {e : TypeId}
    (hp : a.eval (.tmp p) = .pointer (some ⟨g, off, none⟩)) (hv : a.eval v = u) (hb : W.heap[g]? = some (.cells cur e (0, 0))) (hs : off + cs.size ≤ cur.size) (hi : (P.info? t).map (·.size) = some cs.size) (h1 : ∀ q ∈ cs.toList, q.oneCell' = true) (hc : u.cells = cs)
    (h : ∀ w1 cur', w1.heap[g]? = some (.cells cur' e (0, 0)) → cur'.size = cur.size → (∀ q, q < cs.size → cur'[off + q]? = cs[q]?) → (∀ x, x < off ∨ off + cs.size ≤ x → cur'[x]? = cur[x]?) → Save (fun k => k = g) W w1 → K a w1) :
    if Region.wanted o (yielded ops a.tmps) = true then Oper.wp P o a W K Q else K (a.put o.dst undef) W := by
  have hr := run_store_run (P := P) (o := off) t u cs.toList hb (by rw [hc]) (by rw [hi]; simp) (by simpa using hs) h1
  have hx : (execOp a.eval o).run P W = .ok .skip (W.setCells g off cs.toList) := by
    simp [execOp, ho, hp, hv, hr]
  rw [if_pos hw]
  unfold Oper.wp
  rw [hx]
  show K (a.put o.dst undef) _
  rw [hN]
  obtain ⟨cur', k1, k2, k3, k4, k5⟩ := cells_at hb hs
  exact h _ cur' k1 k2 k3 k4 k5
end
theorem lights20c (l : List Val) (W : World) (ok : Nat → Prop) (A : Option Addr) (n c : Nat) (hn : l.length = n) (hR : RV W ok (.mk 4 0 0 ⟨#[]⟩ l) #[.int .i64 4, .int .i64 0, .float .f64 0, .string ⟨#[]⟩, .slice A n c]) :
    Calls Tryz.prog 20 #[.slice A n c] W fun e w' => (∃ b, e = .returned (.bool b)) ∧ Below W.heap.size W w' := by
  subst hn
  refine (lights20 _ _ _ _ l W ok _ _ _ _ A c hR).mono ?_
  rintro e w ⟨(⟨rfl, _⟩ | rfl), hb⟩
  · exact ⟨⟨_, rfl⟩, hb⟩
  · exact ⟨⟨_, rfl⟩, hb⟩

theorem Cloned.step {W W' : World} {B n g1 c1 g2 : Nat} {A2 : Option Addr} {c2 : Nat} (h : Cloned W B n g1 c1 g2 A2 c2) (hb : Below W.heap.size W W') : Cloned W' B n g1 c1 g2 A2 c2 := by
  obtain ⟨h1, h2, hne, ⟨cur, k1, k2, k3, k4⟩, b2⟩ := h
  refine ⟨h1, h2, hne, ⟨cur, blk_below k1 hb, k2, k3, k4⟩, fun hn => ?_⟩
  obtain ⟨e, hc, cur2, q1, q2⟩ := b2 hn
  exact ⟨e, hc, cur2, blk_below q1 hb, q2⟩
theorem Cloned.put {W W' : World} {B n g1 c1 g2 : Nat} {A2 : Option Addr} {c2 : Nat} (h : Cloned W B n g1 c1 g2 A2 c2) (hs : Save (fun k => k = g2) W W') {cur' : Array Value} (hn : 0 < n) (hk : W'.heap[g2]? = some (.cells cur' 25 (0, 0))) (hz : cur'.size = c2 * 5) : Cloned W' B n g1 c1 g2 A2 c2 := by
  obtain ⟨h1, h2, hne, ⟨cur, k1, k2, k3, k4⟩, b2⟩ := h
  refine ⟨h1, h2, hne, ⟨cur, hs.blk k1 (fun e => hne e.symm), k2, k3, k4⟩, fun hn => ?_⟩
  obtain ⟨e, hc, _⟩ := b2 hn
  exact ⟨e, hc, cur', hk, hz⟩
theorem Cloned.cell {W : World} {B n g1 c1 g2 : Nat} {A2 : Option Addr} {c2 : Nat} (h : Cloned W B n g1 c1 g2 A2 c2) : W.cell? ⟨g1, 4, none⟩ = some (.slice A2 n c2) := by
  obtain ⟨cur, k1, k2, k3, k4⟩ := h.b1
  rw [blk_cell k1]; exact k4
theorem below_put {w W W' : World} {g : Nat} (h : Below w.heap.size w W) (hg : w.heap.size ≤ g) (k : Save (fun k => k = g) W W') : Below w.heap.size w W' := below_keep h hg k

set_option maxHeartbeats 8000000 in
set_option maxRecDepth 100000 in
theorem clones8 (hS : CompareC) (W : World) (T : Tabs3 W) (l : List Val) (A : Option Addr) (n c : Nat) (hn : l.length = n) (hl : RV W (fun _ => True) (.mk 4 0 0 ⟨#[]⟩ l) #[.int .i64 4, .int .i64 0, .float .f64 0, .string ⟨#[]⟩, .slice A n c]) :
    Calls Tryz.prog 8 #[.slice A n c] W fun e w' => e = .returned (.bool true) ∧ Below W.heap.size W w' := by
  obtain ⟨A0, c0, e0, _, _, _, _, wc, wb⟩ := hl.len
  have HWB := Aside0.mk (show (n : Int) * 64 ≤ 140737488351232 by omega)
  have hnn : (0 : Int) ≤ (n : Int) := by omega
  have HNL := Aside0.mk hn
  have HL := Aside0.mk hl
  have HT := Aside0.mk T
  have HS := Aside0.mk hS
  have HRC := Aside0.mk (fun (W' : World) ok' cs' h' => clean18 (twoV l) W' ok' cs' h')
  have HCL := Aside0.mk (fun (W' : World) ok' cs' h' => clone26 (twoV l) W' ok' cs' h')
  clear hn hl T hS wc wb e0
  go_enter Tryz.func8, Tryz.ntmps8
  go_upto_region 5 with (first
    | (go_at_call 9; refine (known9 HS.out _ HT.out).mono ?_; rintro e w2 ⟨rfl, hb⟩; have HB := Aside0.mk hb; clear hb)
    | (go_at_call 20; (with_reducible refine (lights20c l _ _ _ _ _ HNL.out (HL.out.kept HB.out)).mono ?_); rintro e w3 ⟨⟨b20, rfl⟩, hb⟩; have HB := Aside0.mk (below_step HB.out hb); clear hb; cases b20))
  all_goals (try (go_ret; exact ⟨rfl, HB.out⟩))
  go_upto_region 6 with (first
    | (go_at_call 23; (with_reducible refine (int14 1 _).mono ?_); rintro e w5 ⟨rfl, hb⟩; have HB := Aside0.mk (below_step HB.out hb); clear hb)
    | (go_at_call 16; (with_reducible refine (list16 A n c _).mono ?_); rintro e w4 ⟨rfl, hb⟩; have HB := Aside0.mk (below_step HB.out hb); clear hb)
    | (go_at_call 16; refine (list16 _ _ _ _).mono ?_; rintro e w6 ⟨rfl, hb⟩; have hb2 := below_step (below_alloc (Below.refl _ w5) (.cells #[.int .i64 4, .int .i64 0, .float .f64 0, .string ⟨#[]⟩, .slice A n c, .int .i64 1, .int .i64 1, .float .f64 0, .string ⟨#[]⟩, .slice none 0 0] 25)) hb; have hnw := blk_below (blk_new w5 (.cells #[.int .i64 4, .int .i64 0, .float .f64 0, .string ⟨#[]⟩, .slice A n c, .int .i64 1, .int .i64 1, .float .f64 0, .string ⟨#[]⟩, .slice none 0 0] 25)) hb; have HGL := Aside0.mk (show W.heap.size ≤ w5.heap.size from HB.out.size); have HB := Aside0.mk (below_step HB.out hb2); have GL := Aside0.mk hnw; clear hb hb2 hnw; generalize w5.heap.size = gl at GL HGL ⊢)
    | ((with_reducible refine gate_dst (N := 3) rfl ?_); refine box_event ?hg (N := 3) ?hd (cs := #[.int .i64 0, .int .i64 0, .float .f64 0, .string ⟨#[]⟩, .slice none 0 0]) (t := 25) ?hr ?_; (case hd => rfl); (case hg => rfl); (case hr => first | (go_simp; done) | (go_simp; rfl)); intro g3 hg w7 hbox hb; have HG3 := Aside0.mk (show W.heap.size ≤ g3 ∧ gl ≠ g3 by (have h1_ := HB.out.size; have h2_ := blk_lt GL.out; omega)); have HB := Aside0.mk (below_step HB.out hb); have GL := Aside0.mk (blk_below GL.out hb); have K3 := Aside0.mk hbox; clear hg hbox hb)
    | ((with_reducible refine gate_store (t := 25) (p := 3) rfl ?_); refine put_eventU ?hg (t := 25) (p := 3) (v := .tmp 16) ?ho ?hN (g := g3) (u := .agg #[.int .i64 4, .int .i64 0, .float .f64 0, .string ⟨#[]⟩, .slice (some ⟨gl, 0, none⟩) 2 2]) (cs := #[.int .i64 4, .int .i64 0, .float .f64 0, .string ⟨#[]⟩, .slice (some ⟨gl, 0, none⟩) 2 2]) ?hp ?hv K3.out ?hs ?hi ?h1 ?hc ?_; (case hs => rfl); (case hi => kernel_rfl); (case h1 => simp [Value.oneCell']); (case hc => simp [Value.cells]); (case hg => rfl); (case ho => rfl); (case hN => rfl); (case hp => rfl); (case hv => rfl); intro w8 hk hs; have HB := Aside0.mk (below_keep HB.out HG3.out.1 hs); have GL := Aside0.mk (hs.blk GL.out HG3.out.2); have K3 := Aside0.mk hk; clear hk hs))
  have HV := Aside0.mk (twoV_RV (HL.out.kept HB.out) trivial GL.out)
  have v0 : w8.cell? ⟨g3, 0, none⟩ = some (.int .i64 4) := blk_cell K3.out 0
  have v1 : w8.cell? ⟨g3, 1, none⟩ = some (.int .i64 0) := blk_cell K3.out 1
  have v2 : w8.cell? ⟨g3, 2, none⟩ = some (.float .f64 0) := blk_cell K3.out 2
  have v3 : w8.cell? ⟨g3, 3, none⟩ = some (.string ⟨#[]⟩) := blk_cell K3.out 3
  have v4 : w8.cell? ⟨g3, 4, none⟩ = some (.slice (some ⟨gl, 0, none⟩) 2 2) := blk_cell K3.out 4
  go_upto_region 7 with (first
    | (go_at_call 25; (with_reducible refine (HRC.out _ _ _ HV.out).mono ?_); rintro e w9 ⟨cw, rfl, hcw, hb⟩; obtain ⟨w0, w1', w2', w3', w4', w5', w6', rfl⟩ := hcw.form; have HW := Aside0.mk (hcw.mono (ok' := fun q => True) (fun q hq _ => trivial)); have HB := Aside0.mk (below_step HB.out hb); have HV := Aside0.mk (HV.out.kept hb); have K3 := Aside0.mk (blk_below K3.out hb); clear hb hcw)
    | ((with_reducible refine gate_dst (N := 4) rfl ?_); refine box_event ?hg (N := 4) ?hd (cs := #[.int .i64 0, .int .i64 0, .float .f64 0, .string ⟨#[]⟩, .slice none 0 0]) (t := 25) ?hr ?_; (case hd => rfl); (case hg => rfl); (case hr => first | (go_simp; done) | (go_simp; rfl)); intro g4 hg w10 hbox hb; have HG4 := Aside0.mk (show W.heap.size ≤ g4 ∧ w9.heap.size ≤ g4 by (have h1_ := HB.out.size; omega)); have H10 := Aside0.mk hb; have K4 := Aside0.mk hbox; clear hg hbox hb)
    | ((with_reducible refine gate_store (t := 25) (p := 4) rfl ?_); refine put_eventU ?hg (t := 25) (p := 4) (v := .tmp 18) ?ho ?hN (g := g4) (u := .agg #[.int .i64 w0, .int .i64 w1', .float .f64 w2', .string w3', .slice w4' w5' w6']) (cs := #[.int .i64 w0, .int .i64 w1', .float .f64 w2', .string w3', .slice w4' w5' w6']) ?hp ?hv K4.out ?hs ?hi ?h1 ?hc ?_; (case hs => rfl); (case hi => kernel_rfl); (case h1 => simp [Value.oneCell']); (case hc => simp [Value.cells]); (case hg => rfl); (case ho => rfl); (case hN => rfl); (case hp => rfl); (case hv => rfl); intro w11 hk hs; have H11 := Aside0.mk (below_keep H10.out HG4.out.2 hs); have K4 := Aside0.mk hk; clear hk hs))
  clear v0 v1 v2 v3 v4
  have HB := Aside0.mk (below_step HB.out H11.out)
  have HV := Aside0.mk (HV.out.kept H11.out)
  have HW := Aside0.mk (HW.out.kept H11.out)
  have K3 := Aside0.mk (blk_below K3.out H11.out)
  have v0 : w11.cell? ⟨g3, 0, none⟩ = some (.int .i64 4) := blk_cell K3.out 0
  have v1 : w11.cell? ⟨g3, 1, none⟩ = some (.int .i64 0) := blk_cell K3.out 1
  have v2 : w11.cell? ⟨g3, 2, none⟩ = some (.float .f64 0) := blk_cell K3.out 2
  have v3 : w11.cell? ⟨g3, 3, none⟩ = some (.string ⟨#[]⟩) := blk_cell K3.out 3
  have v4 : w11.cell? ⟨g3, 4, none⟩ = some (.slice (some ⟨gl, 0, none⟩) 2 2) := blk_cell K3.out 4
  have HV11 := Aside0.mk HV.out
  have HW11 := Aside0.mk HW.out
  have K311 := Aside0.mk K3.out
  have K411 := Aside0.mk K4.out
  have HB11 := Aside0.mk HB.out
  go_upto_region 8 with (first
    | (go_at_call 26; (with_reducible refine (HCL.out _ _ _ HV.out).mono ?_); rintro e w12 ⟨cc, rfl, hcc, hb⟩; obtain ⟨g1, c1, g2, A2, c2, rfl, hcd⟩ := cloned_of HNL.out hcc; have HCD := Aside0.mk hcd; have HBC := Aside0.mk hb; have HB := Aside0.mk (below_step HB.out hb); have HV := Aside0.mk (HV.out.kept hb); have HW := Aside0.mk (HW.out.kept hb); have K3 := Aside0.mk (blk_below K3.out hb); have K4 := Aside0.mk (blk_below K4.out hb); clear hb hcc hcd)
    | ((with_reducible refine gate_dst (N := 5) rfl ?_); refine box_event ?hg (N := 5) ?hd (cs := #[.int .i64 0, .int .i64 0, .float .f64 0, .string ⟨#[]⟩, .slice none 0 0]) (t := 25) ?hr ?_; (case hd => rfl); (case hg => rfl); (case hr => first | (go_simp; done) | (go_simp; rfl)); intro g5 hg w13 hbox hb; have HG5 := Aside0.mk (show w12.heap.size ≤ g5 by omega); have H13 := Aside0.mk hb; have K5 := Aside0.mk hbox; clear hg hbox hb)
    | ((with_reducible refine gate_store (t := 25) (p := 5) rfl ?_); refine put_eventU ?hg (t := 25) (p := 5) (v := .tmp 20) ?ho ?hN (g := g5) (u := .agg #[.int .i64 4, .int .i64 0, .float .f64 0, .string ⟨#[]⟩, .slice (some ⟨g1, 0, none⟩) 2 c1]) (cs := #[.int .i64 4, .int .i64 0, .float .f64 0, .string ⟨#[]⟩, .slice (some ⟨g1, 0, none⟩) 2 c1]) ?hp ?hv K5.out ?hs ?hi ?h1 ?hc ?_; (case hs => rfl); (case hi => kernel_rfl); (case h1 => simp [Value.oneCell']); (case hc => simp [Value.cells]); (case hg => rfl); (case ho => rfl); (case hN => rfl); (case hp => rfl); (case hv => rfl); intro w14 hk hs; have H14 := Aside0.mk (below_keep H13.out HG5.out hs); have K5 := Aside0.mk hk; clear hk hs))
  clear v0 v1 v2 v3 v4
  have HM := Aside0.mk (below_step HBC.out H14.out)
  have KC := K5
  have HD := Aside0.mk (HCD.out.step H14.out)
  have HG52 := Aside0.mk (show 0 < n → g5 ≠ g2 from fun h => by (obtain ⟨_, _, cur, hk, _⟩ := HCD.out.b2 h; have := blk_lt hk; have := HG5.out; omega))
  have q4 : w14.cell? ⟨g5, 4, none⟩ = some (.slice (some ⟨g1, 0, none⟩) 2 c1) := blk_cell KC.out 4
  have r4 : w14.cell? ⟨g1, 4, none⟩ = some (.slice A2 n c2) := HD.out.cell
  go_wp2
  clear q4 r4
  go_loopw [6] (fun ix wr => ∃ j : Nat, j ≤ n ∧ ix = .int .i64 (j : Int) ∧ Aside0 (Below w11.heap.size w11 wr ∧ wr.heap[g5]? = some (.cells #[.int .i64 4, .int .i64 0, .float .f64 0, .string ⟨#[]⟩, .slice (some ⟨g1, 0, none⟩) 2 c1] 25 (0, 0)) ∧ Cloned wr w11.heap.size n g1 c1 g2 A2 c2)) (fun ix _ => n - (intOf ix).toNat)
  case atStart => exact ⟨0, by omega, rfl, Aside0.mk ⟨HM.out, KC.out, HD.out⟩⟩
  case round =>
    obtain ⟨j, hj, rfl, HH⟩ := hrel
    have HM := Aside0.mk HH.out.1
    have KC := Aside0.mk HH.out.2.1
    have HD := Aside0.mk HH.out.2.2
    clear HH
    have q4 : wr.cell? ⟨g5, 4, none⟩ = some (.slice (some ⟨g1, 0, none⟩) 2 c1) := blk_cell KC.out 4
    have r4 : wr.cell? ⟨g1, 4, none⟩ = some (.slice A2 n c2) := HD.out.cell
    have hj0 : (0 : Int) ≤ (j : Int) := by omega
    by_cases hlt : j < n
    · have hji : (j : Int) < (n : Int) := by omega
      have HJ := Aside0.mk hlt
      have HN0 := Aside0.mk (show 0 < n by omega)
      have HG52 := Aside0.mk (HG52.out HN0.out)
      obtain ⟨rfl, _⟩ := HD.out.b2 HN0.out
      have hwk : IntKind.i64.wrap ((j : Int) + 1) = ((j + 1 : Nat) : Int) := by have := HWB.out; rw [IntKind.wrap_i64]; omega
      go_upto_region 13 with (fail)
      clear q4 r4
      refine wp_region_last_drew (S := fun w' => w'.cell? ⟨g5, 4, none⟩ = some (.slice (some ⟨g1, 0, none⟩) 2 c1) ∧ w'.cell? ⟨g1, 4, none⟩ = some (.slice (some ⟨g2, 0, none⟩) n c2)) (ds := [8]) (by kernel_rfl) ?hS0 (fun hHeld => ?_)
      case hS0 => exact ⟨blk_cell (show wr.drew.heap[g5]? = _ from KC.out) 4, (HD.out.step (Below.refl _ _).drew).cell⟩
      have HM := Aside0.mk (show Below w11.heap.size w11 wr.drew from HM.out.drew)
      have KC := Aside0.mk (show wr.drew.heap[g5]? = some (.cells #[.int .i64 4, .int .i64 0, .float .f64 0, .string ⟨#[]⟩, .slice (some ⟨g1, 0, none⟩) 2 c1] 25 (0, 0)) from KC.out)
      have HD := Aside0.mk (show Cloned wr.drew w11.heap.size n g1 c1 g2 (some ⟨g2, 0, none⟩) c2 from HD.out.step (Below.refl _ _).drew)
      generalize wr.drew = wd at hHeld HM KC HD ⊢
      refine wpAnyLast_take (i := 0) (oi := { dst := some 46, op := Go.Op.fieldAddr 25 (Go.Operand.tmp 5) 4, type := 0, pos := "more.go:48", after := #[], guard := none }) (v := ?_) rfl (by kernel_rfl) (by kernel_rfl) (by kernel_rfl) (by kernel_rfl) (by kernel_rfl) (fun _ _ _ h => h) (Or.inl ⟨by rfl, ?_⟩) hHeld ?_
      rotate_left
      · first | (intro w hSw; (try dsimp only at hSw); (try go_split_ands); go_simp; done) | (intro w hSw; (try dsimp only at hSw); (try go_split_ands); go_simp; with_reducible rfl)
      try simp only [Act.put, List.setIfInBounds_toArray, List.set_cons_zero, List.set_cons_succ]
      refine wpAnyLast_take (i := 1) (oi := { dst := some 47, op := Go.Op.load 23 (Go.Operand.tmp 46), type := 23, pos := "more.go:48", after := #[{ on := 0, ground := Go.Ground.data }], guard := none }) (v := ?_) rfl (by kernel_rfl) (by kernel_rfl) (by kernel_rfl) (by kernel_rfl) (by kernel_rfl) (fun _ _ _ h => h) (Or.inl ⟨by rfl, ?_⟩) hHeld ?_
      rotate_left
      · first | (intro w hSw; (try dsimp only at hSw); (try go_split_ands); go_simp; done) | (intro w hSw; (try dsimp only at hSw); (try go_split_ands); go_simp; with_reducible rfl)
      try simp only [Act.put, List.setIfInBounds_toArray, List.set_cons_zero, List.set_cons_succ]
      refine wpAnyLast_take (i := 2) (oi := { dst := some 48, op := Go.Op.indexAddr 23 (Go.Operand.tmp 47) (Go.Operand.const (Go.Value.int Go.IntKind.i64 0)), type := 0, pos := "more.go:48", after := #[{ on := 1, ground := Go.Ground.data }], guard := none }) (v := ?_) rfl (by kernel_rfl) (by kernel_rfl) (by kernel_rfl) (by kernel_rfl) (by kernel_rfl) (fun _ _ _ h => h) (Or.inl ⟨by rfl, ?_⟩) hHeld ?_
      rotate_left
      · first | (intro w hSw; (try dsimp only at hSw); (try go_split_ands); go_simp; done) | (intro w hSw; (try dsimp only at hSw); (try go_split_ands); go_simp; with_reducible rfl)
      try simp only [Act.put, List.setIfInBounds_toArray, List.set_cons_zero, List.set_cons_succ]
      refine wpAnyLast_take (i := 3) (oi := { dst := some 49, op := Go.Op.fieldAddr 25 (Go.Operand.tmp 48) 4, type := 0, pos := "more.go:48", after := #[{ on := 2, ground := Go.Ground.data }], guard := none }) (v := ?_) rfl (by kernel_rfl) (by kernel_rfl) (by kernel_rfl) (by kernel_rfl) (by kernel_rfl) (fun _ _ _ h => h) (Or.inl ⟨by rfl, ?_⟩) hHeld ?_
      rotate_left
      · first | (intro w hSw; (try dsimp only at hSw); (try go_split_ands); go_simp; done) | (intro w hSw; (try dsimp only at hSw); (try go_split_ands); go_simp; with_reducible rfl)
      try simp only [Act.put, List.setIfInBounds_toArray, List.set_cons_zero, List.set_cons_succ]
      refine wpAnyLast_take (i := 4) (oi := { dst := some 50, op := Go.Op.load 23 (Go.Operand.tmp 49), type := 23, pos := "more.go:48", after := #[{ on := 3, ground := Go.Ground.data }], guard := none }) (v := ?_) rfl (by kernel_rfl) (by kernel_rfl) (by kernel_rfl) (by kernel_rfl) (by kernel_rfl) (fun _ _ _ h => h) (Or.inl ⟨by rfl, ?_⟩) hHeld ?_
      rotate_left
      · first | (intro w hSw; (try dsimp only at hSw); (try go_split_ands); go_simp; done) | (intro w hSw; (try dsimp only at hSw); (try go_split_ands); go_simp; with_reducible rfl)
      try simp only [Act.put, List.setIfInBounds_toArray, List.set_cons_zero, List.set_cons_succ]
      refine wpAnyLast_take (i := 5) (oi := { dst := some 51, op := Go.Op.move (Go.Operand.tmp 6), type := 3, pos := "more.go:48", after := #[], guard := none }) (v := ?_) rfl (by kernel_rfl) (by kernel_rfl) (by kernel_rfl) (by kernel_rfl) (by kernel_rfl) (fun _ _ _ h => h) (Or.inl ⟨by rfl, ?_⟩) hHeld ?_
      rotate_left
      · first | (intro w hSw; (try dsimp only at hSw); (try go_split_ands); go_simp; done) | (intro w hSw; (try dsimp only at hSw); (try go_split_ands); go_simp; with_reducible rfl)
      try simp only [Act.put, List.setIfInBounds_toArray, List.set_cons_zero, List.set_cons_succ]
      refine wpAnyLast_ready (rs := [6]) (by kernel_rfl) (by simp) ?_
      refine AllReadyL.cons (o := { dst := some 52, op := Go.Op.call { callee := Go.Callee.value (Go.Operand.func 15), args := #[Go.Operand.const (Go.Value.string { data := #[120] })], argTypes := #[9] }, type := 25, pos := "more.go:48", after := #[], guard := none }) rfl (by decide) (fun K hK => ?_) AllReadyL.nil
      go_simp
      (with_reducible refine (text32 ⟨#[120]⟩ _).mono ?_)
      rintro e w107 ⟨rfl, hb⟩
      have HM := Aside0.mk (below_step HM.out hb)
      have KC := Aside0.mk (blk_below KC.out hb)
      have HD := Aside0.mk (HD.out.step hb)
      clear hb
      refine hK.out _ _ (⟨blk_cell KC.out 4, HD.out.cell⟩) (fun hHeld => ?_)
      clear hK K
      try simp only [Act.put, List.setIfInBounds_toArray, List.set_cons_zero, List.set_cons_succ]
      refine wpAnyLast_take (i := 7) (oi := { dst := some 53, op := Go.Op.indexAddr 23 (Go.Operand.tmp 50) (Go.Operand.tmp 51), type := 0, pos := "more.go:48", after := #[{ on := 4, ground := Go.Ground.data }, { on := 5, ground := Go.Ground.data }, { on := 0, ground := Go.Ground.phase }, { on := 1, ground := Go.Ground.phase }, { on := 2, ground := Go.Ground.phase }, { on := 3, ground := Go.Ground.phase }, { on := 4, ground := Go.Ground.phase }, { on := 5, ground := Go.Ground.phase }, { on := 6, ground := Go.Ground.phase }], guard := none }) (v := ?_) rfl (by kernel_rfl) (by kernel_rfl) (by kernel_rfl) (by kernel_rfl) (by kernel_rfl) (fun _ _ _ h => h) (Or.inl ⟨by rfl, ?_⟩) hHeld ?_
      rotate_left
      · first | (intro w hSw; (try dsimp only at hSw); (try go_split_ands); go_simp; done) | (intro w hSw; (try dsimp only at hSw); (try go_split_ands); go_simp; with_reducible rfl)
      try simp only [Act.put, List.setIfInBounds_toArray, List.set_cons_zero, List.set_cons_succ]
      refine wpAnyLast_ready (rs := [8]) (by kernel_rfl) (by simp) ?_
      refine AllReadyL.cons_last (o := { dst := none, op := Go.Op.store 25 (Go.Operand.tmp 53) (Go.Operand.tmp 52), type := 0, pos := "more.go:48", after := #[{ on := 7, ground := Go.Ground.data }, { on := 6, ground := Go.Ground.data }, { on := 6, ground := Go.Ground.chain }, { on := 0, ground := Go.Ground.phase }, { on := 1, ground := Go.Ground.phase }, { on := 2, ground := Go.Ground.phase }, { on := 3, ground := Go.Ground.phase }, { on := 4, ground := Go.Ground.phase }, { on := 5, ground := Go.Ground.phase }, { on := 6, ground := Go.Ground.phase }], guard := none }) rfl (by decide) (fun K hK => ?_) AllReadyL.nil
      obtain ⟨_, hc2_, cur2, hcur2, hsz2⟩ := HD.out.b2 HN0.out
      have HC2 := Aside0.mk (And.intro hc2_ (And.intro hcur2 hsz2))
      clear hc2_ hcur2 hsz2
      refine stepH_at (by rfl) (t := 25) (p := 53) (v := .tmp 52) rfl rfl (g := g2) (off := j * 5) (u := .agg #[.int .i64 3, .int .i64 0, .float .f64 0, .string ⟨#[120]⟩, .slice none 0 0]) (cs := #[.int .i64 3, .int .i64 0, .float .f64 0, .string ⟨#[120]⟩, .slice none 0 0]) (by first | rfl | (go_simp; done) | (go_simp; rfl)) rfl HC2.out.2.1 (by have := HC2.out; have := HJ.out; simp; omega) (by kernel_rfl) (by simp [Value.oneCell']) (by simp [Value.cells]) ?_
      intro w109 cur' hk hz _ _ hs
      have KC := Aside0.mk (hs.blk KC.out HG52.out)
      have HM := Aside0.mk (below_put HM.out HD.out.h2 hs)
      have HD := Aside0.mk (HD.out.put hs HN0.out hk (hz.trans HC2.out.2.2))
      clear hk hz hs
      refine hK.out _ _ ?_
      clear hK K
      try simp only [Act.put, List.setIfInBounds_toArray, List.set_cons_zero, List.set_cons_succ]
      refine wpAnyLast_done (by kernel_rfl) ?_ _
      go_wp2
      go_roundw
      case rel => exact ⟨j + 1, by omega, by go_num, Aside0.mk ⟨HM.out, KC.out, HD.out⟩⟩
      case measure => simp [intOf]; omega
    · obtain rfl : j = n := by omega
      go_upto_region 14 with (fail)
      clear q4 r4
      refine wp_region_last_drew (S := fun w' => w'.cell? ⟨g5, 4, none⟩ = some (.slice (some ⟨g1, 0, none⟩) 2 c1)) (ds := [4]) (by kernel_rfl) ?hS0 (fun hHeld => ?_)
      case hS0 => exact blk_cell (show wr.drew.heap[g5]? = _ from KC.out) 4
      have HM := Aside0.mk (show Below w11.heap.size w11 wr.drew from HM.out.drew)
      have KC := Aside0.mk (show wr.drew.heap[g5]? = some (.cells #[.int .i64 4, .int .i64 0, .float .f64 0, .string ⟨#[]⟩, .slice (some ⟨g1, 0, none⟩) 2 c1] 25 (0, 0)) from KC.out)
      have HD := Aside0.mk (show Cloned wr.drew w11.heap.size j g1 c1 g2 A2 c2 from HD.out.step (Below.refl _ _).drew)
      generalize wr.drew = wd at hHeld HM KC HD ⊢
      refine wpAnyLast_take (i := 0) (oi := { dst := some 54, op := Go.Op.fieldAddr 25 (Go.Operand.tmp 5) 4, type := 0, pos := "more.go:50", after := #[], guard := none }) (v := ?_) rfl (by kernel_rfl) (by kernel_rfl) (by kernel_rfl) (by kernel_rfl) (by kernel_rfl) (fun _ _ _ h => h) (Or.inl ⟨by rfl, ?_⟩) hHeld ?_
      rotate_left
      · first | (intro w hSw; (try dsimp only at hSw); (try go_split_ands); go_simp; done) | (intro w hSw; (try dsimp only at hSw); (try go_split_ands); go_simp; with_reducible rfl)
      try simp only [Act.put, List.setIfInBounds_toArray, List.set_cons_zero, List.set_cons_succ]
      refine wpAnyLast_take (i := 1) (oi := { dst := some 55, op := Go.Op.load 23 (Go.Operand.tmp 54), type := 23, pos := "more.go:50", after := #[{ on := 0, ground := Go.Ground.data }], guard := none }) (v := ?_) rfl (by kernel_rfl) (by kernel_rfl) (by kernel_rfl) (by kernel_rfl) (by kernel_rfl) (fun _ _ _ h => h) (Or.inl ⟨by rfl, ?_⟩) hHeld ?_
      rotate_left
      · first | (intro w hSw; (try dsimp only at hSw); (try go_split_ands); go_simp; done) | (intro w hSw; (try dsimp only at hSw); (try go_split_ands); go_simp; with_reducible rfl)
      try simp only [Act.put, List.setIfInBounds_toArray, List.set_cons_zero, List.set_cons_succ]
      refine wpAnyLast_ready (rs := [2]) (by kernel_rfl) (by simp) ?_
      refine AllReadyL.cons (o := { dst := some 56, op := Go.Op.call { callee := Go.Callee.value (Go.Operand.func 15), args := #[Go.Operand.const (Go.Value.string { data := #[121] })], argTypes := #[9] }, type := 25, pos := "more.go:50", after := #[], guard := none }) rfl (by decide) (fun K hK => ?_) AllReadyL.nil
      go_simp
      (with_reducible refine (text32 ⟨#[121]⟩ _).mono ?_)
      rintro e w103 ⟨rfl, hb⟩
      have HM := Aside0.mk (below_step HM.out hb)
      have KC := Aside0.mk (blk_below KC.out hb)
      have HD := Aside0.mk (HD.out.step hb)
      clear hb
      refine hK.out _ _ (blk_cell KC.out 4) (fun hHeld => ?_)
      clear hK K
      try simp only [Act.put, List.setIfInBounds_toArray, List.set_cons_zero, List.set_cons_succ]
      refine wpAnyLast_take (i := 3) (oi := { dst := some 57, op := Go.Op.indexAddr 23 (Go.Operand.tmp 55) (Go.Operand.const (Go.Value.int Go.IntKind.i64 1)), type := 0, pos := "more.go:50", after := #[{ on := 1, ground := Go.Ground.data }, { on := 0, ground := Go.Ground.phase }, { on := 1, ground := Go.Ground.phase }, { on := 2, ground := Go.Ground.phase }], guard := none }) (v := ?_) rfl (by kernel_rfl) (by kernel_rfl) (by kernel_rfl) (by kernel_rfl) (by kernel_rfl) (fun _ _ _ h => h) (Or.inl ⟨by rfl, ?_⟩) hHeld ?_
      rotate_left
      · first | (intro w hSw; (try dsimp only at hSw); (try go_split_ands); go_simp; done) | (intro w hSw; (try dsimp only at hSw); (try go_split_ands); go_simp; with_reducible rfl)
      try simp only [Act.put, List.setIfInBounds_toArray, List.set_cons_zero, List.set_cons_succ]
      refine wpAnyLast_ready (rs := [4]) (by kernel_rfl) (by simp) ?_
      refine AllReadyL.cons_last (o := { dst := none, op := Go.Op.store 25 (Go.Operand.tmp 57) (Go.Operand.tmp 56), type := 0, pos := "more.go:50", after := #[{ on := 3, ground := Go.Ground.data }, { on := 2, ground := Go.Ground.data }, { on := 2, ground := Go.Ground.chain }, { on := 0, ground := Go.Ground.phase }, { on := 1, ground := Go.Ground.phase }, { on := 2, ground := Go.Ground.phase }], guard := none }) rfl (by decide) (fun K hK => ?_) AllReadyL.nil
      obtain ⟨cur1, hcur1, hsz1, hc1_, _⟩ := HD.out.b1
      have HC1 := Aside0.mk (And.intro hcur1 (And.intro hsz1 hc1_))
      clear hcur1 hsz1 hc1_
      refine stepH_at (by rfl) (t := 25) (p := 57) (v := .tmp 56) rfl rfl (g := g1) (off := 5) (u := .agg #[.int .i64 3, .int .i64 0, .float .f64 0, .string ⟨#[121]⟩, .slice none 0 0]) (cs := #[.int .i64 3, .int .i64 0, .float .f64 0, .string ⟨#[121]⟩, .slice none 0 0]) (by first | rfl | (go_simp; done) | (go_simp; rfl)) rfl HC1.out.1 (by have := HC1.out; simp; omega) (by kernel_rfl) (by simp [Value.oneCell']) (by simp [Value.cells]) ?_
      intro w105 cur' hk hz _ _ hs
      have HM := Aside0.mk (below_put HM.out HD.out.h1 hs)
      clear hk hz hs
      refine hK.out _ _ ?_
      clear hK K
      try simp only [Act.put, List.setIfInBounds_toArray, List.set_cons_zero, List.set_cons_succ]
      refine wpAnyLast_done (by kernel_rfl) ?_ _
      go_upto_region 15 with (fail)
      have HVz := Aside0.mk (HV11.out.kept HM.out)
      have HWz := Aside0.mk (HW11.out.kept HM.out)
      have KV := Aside0.mk (blk_below K311.out HM.out)
      have KW := Aside0.mk (blk_below K411.out HM.out)
      refine wp_region_last_drew (S := fun w' => w'.cell? ⟨g3, 0, none⟩ = some (.int .i64 4) ∧ w'.cell? ⟨g3, 1, none⟩ = some (.int .i64 0) ∧ w'.cell? ⟨g3, 2, none⟩ = some (.float .f64 0) ∧ w'.cell? ⟨g3, 3, none⟩ = some (.string ⟨#[]⟩) ∧ w'.cell? ⟨g3, 4, none⟩ = some (.slice (some ⟨gl, 0, none⟩) 2 2) ∧ w'.cell? ⟨g4, 0, none⟩ = some (.int .i64 w0) ∧ w'.cell? ⟨g4, 1, none⟩ = some (.int .i64 w1') ∧ w'.cell? ⟨g4, 2, none⟩ = some (.float .f64 w2') ∧ w'.cell? ⟨g4, 3, none⟩ = some (.string w3') ∧ w'.cell? ⟨g4, 4, none⟩ = some (.slice w4' w5' w6')) (ds := []) (by kernel_rfl) ?hS0 (fun hHeld => ?_)
      case hS0 => exact ⟨blk_cell (show w105.drew.heap[g3]? = _ from KV.out) 0, blk_cell (show w105.drew.heap[g3]? = _ from KV.out) 1, blk_cell (show w105.drew.heap[g3]? = _ from KV.out) 2, blk_cell (show w105.drew.heap[g3]? = _ from KV.out) 3, blk_cell (show w105.drew.heap[g3]? = _ from KV.out) 4, blk_cell (show w105.drew.heap[g4]? = _ from KW.out) 0, blk_cell (show w105.drew.heap[g4]? = _ from KW.out) 1, blk_cell (show w105.drew.heap[g4]? = _ from KW.out) 2, blk_cell (show w105.drew.heap[g4]? = _ from KW.out) 3, blk_cell (show w105.drew.heap[g4]? = _ from KW.out) 4⟩
      have HM := Aside0.mk (show Below w11.heap.size w11 w105.drew from HM.out.drew)
      have HVz := Aside0.mk (show RV w105.drew (fun _ => True) (twoV l) #[.int .i64 4, .int .i64 0, .float .f64 0, .string ⟨#[]⟩, .slice (some ⟨gl, 0, none⟩) 2 2] from HVz.out.kept (Below.refl _ _).drew)
      have HWz := Aside0.mk (show RV w105.drew (fun _ => True) (clean (twoV l)) #[.int .i64 w0, .int .i64 w1', .float .f64 w2', .string w3', .slice w4' w5' w6'] from HWz.out.kept (Below.refl _ _).drew)
      have KV := Aside0.mk (show w105.drew.heap[g3]? = some (.cells #[.int .i64 4, .int .i64 0, .float .f64 0, .string ⟨#[]⟩, .slice (some ⟨gl, 0, none⟩) 2 2] 25 (0, 0)) from KV.out)
      have KW := Aside0.mk (show w105.drew.heap[g4]? = some (.cells #[.int .i64 w0, .int .i64 w1', .float .f64 w2', .string w3', .slice w4' w5' w6'] 25 (0, 0)) from KW.out)
      generalize w105.drew = we at hHeld HM HVz HWz KV KW ⊢
      refine wpAnyLast_take (i := 0) (oi := { dst := some 58, op := Go.Op.load 25 (Go.Operand.tmp 3), type := 25, pos := "more.go:51", after := #[], guard := none }) (v := ?_) rfl (by kernel_rfl) (by kernel_rfl) (by kernel_rfl) (by kernel_rfl) (by kernel_rfl) (fun _ _ _ h => h) (Or.inl ⟨by rfl, ?_⟩) hHeld ?_
      rotate_left
      · first | (intro w hSw; (try dsimp only at hSw); (try go_split_ands); go_simp; done) | (intro w hSw; (try dsimp only at hSw); (try go_split_ands); go_simp; with_reducible rfl)
      try simp only [Act.put, List.setIfInBounds_toArray, List.set_cons_zero, List.set_cons_succ]
      refine wpAnyLast_take (i := 2) (oi := { dst := some 60, op := Go.Op.load 25 (Go.Operand.tmp 4), type := 25, pos := "more.go:51", after := #[], guard := none }) (v := ?_) rfl (by kernel_rfl) (by kernel_rfl) (by kernel_rfl) (by kernel_rfl) (by kernel_rfl) (fun _ _ _ h => h) (Or.inl ⟨by rfl, ?_⟩) hHeld ?_
      rotate_left
      · first | (intro w hSw; (try dsimp only at hSw); (try go_split_ands); go_simp; done) | (intro w hSw; (try dsimp only at hSw); (try go_split_ands); go_simp; with_reducible rfl)
      try simp only [Act.put, List.setIfInBounds_toArray, List.set_cons_zero, List.set_cons_succ]
      refine wpAnyLast_ready (rs := [1]) (by kernel_rfl) (by simp) ?_
      refine AllReadyL.cons (o := { dst := some 59, op := Go.Op.call { callee := Go.Callee.value (Go.Operand.func 25), args := #[Go.Operand.tmp 58], argTypes := #[25] }, type := 25, pos := "more.go:51", after := #[{ on := 0, ground := Go.Ground.data }], guard := none }) rfl (by decide) (fun K hK => ?_) AllReadyL.nil
      go_simp
      (with_reducible refine (HRC.out _ _ _ HVz.out).mono ?_)
      rintro e w103 ⟨cz, rfl, hcz, hb⟩
      have HZ := Aside0.mk hcz
      have HM := Aside0.mk (below_step HM.out hb)
      have KV := Aside0.mk (blk_below KV.out hb)
      have KW := Aside0.mk (blk_below KW.out hb)
      have HWz := Aside0.mk (HWz.out.kept hb)
      clear hcz hb
      refine hK.out _ _ (⟨blk_cell KV.out 0, blk_cell KV.out 1, blk_cell KV.out 2, blk_cell KV.out 3, blk_cell KV.out 4, blk_cell KW.out 0, blk_cell KW.out 1, blk_cell KW.out 2, blk_cell KW.out 3, blk_cell KW.out 4⟩) (fun hHeld => ?_)
      clear hK K
      try simp only [Act.put, List.setIfInBounds_toArray, List.set_cons_zero, List.set_cons_succ]
      refine wpAnyLast_ready (rs := [3]) (by kernel_rfl) (by simp) ?_
      refine AllReadyL.cons (o := { dst := some 61, op := Go.Op.call { callee := Go.Callee.value (Go.Operand.func 27), args := #[Go.Operand.tmp 59, Go.Operand.tmp 60], argTypes := #[25, 25] }, type := 4, pos := "more.go:51", after := #[{ on := 1, ground := Go.Ground.data }, { on := 2, ground := Go.Ground.data }, { on := 1, ground := Go.Ground.chain }], guard := none }) rfl (by decide) (fun K hK => ?_) AllReadyL.nil
      go_simp
      (with_reducible refine (same17 _ _ _ _ HZ.out _ _ HWz.out).mono ?_)
      rintro e w104 ⟨rfl, hb⟩
      have HM := Aside0.mk (below_step HM.out hb)
      have KV := Aside0.mk (blk_below KV.out hb)
      have KW := Aside0.mk (blk_below KW.out hb)
      clear hb
      refine hK.out _ _ (⟨blk_cell KV.out 0, blk_cell KV.out 1, blk_cell KV.out 2, blk_cell KV.out 3, blk_cell KV.out 4, blk_cell KW.out 0, blk_cell KW.out 1, blk_cell KW.out 2, blk_cell KW.out 3, blk_cell KW.out 4⟩) (fun hHeld => ?_)
      clear hK K
      try simp only [Act.put, List.setIfInBounds_toArray, List.set_cons_zero, List.set_cons_succ]
      refine wpAnyLast_take (i := 4) (oi := { dst := some 2, op := Go.Op.assign (Go.Operand.tmp 61), type := 4, pos := "more.go:51", after := #[{ on := 3, ground := Go.Ground.data }, { on := 3, ground := Go.Ground.chain }, { on := 0, ground := Go.Ground.phase }, { on := 1, ground := Go.Ground.phase }, { on := 2, ground := Go.Ground.phase }, { on := 3, ground := Go.Ground.phase }], guard := none }) (v := ?_) rfl (by kernel_rfl) (by kernel_rfl) (by kernel_rfl) (by kernel_rfl) (by kernel_rfl) (fun _ _ _ h => h) (Or.inl ⟨by rfl, ?_⟩) hHeld ?_
      rotate_left
      · first | (intro w hSw; (try dsimp only at hSw); (try go_split_ands); go_simp; done) | (intro w hSw; (try dsimp only at hSw); (try go_split_ands); go_simp; with_reducible rfl)
      try simp only [Act.put, List.setIfInBounds_toArray, List.set_cons_zero, List.set_cons_succ]
      refine wpAnyLast_done (by kernel_rfl) ?_ _
      go_wp2
      go_ret
      exact ⟨rfl, below_step HB11.out HM.out⟩
end Go.Proofs.YtejfmghjmhiodaaGreatDoor.Vz
namespace Go.Proofs.YtejfmghjmhiodaaGreatDoor.VzClonesW
open Go.RowKit
set_option linter.unusedVariables false
theorem walk (l : List Vz.Val) (A : Option Addr) (c : Nat) {w : World} (hl : Vz.RV w (fun _ => True) (.mk 4 0 0 ⟨#[]⟩ l) #[.int .i64 4, .int .i64 0, .float .f64 0, .string ⟨#[]⟩, .slice A l.length c]) (W : World) (T : Vz.Tabs3 W) (hW : W = w := by rfl) :
    Calls Tryz.prog 8 #[.slice A l.length c] W fun e W' => e = .returned (.bool true) ∧ Below W.heap.size W W' := by
  subst hW
  exact Vz.clones8 (fun a b w => Tryz.strings_Compare a b w) W T l A l.length c rfl hl
end Go.Proofs.YtejfmghjmhiodaaGreatDoor.VzClonesW
/- The statement ValueClones, for every input, without a condition: the law returns true and leaves its arguments as they were. (A clone is new memory: what is done to it doesn't touch what it was made of) -/
namespace Go.Proofs.YtejfmghjmhiodaaGreatDoor.valueClones
open Go.ChangeShapes Go.WideShapes Go.ChangeAt Go.RowKit
open Go.ChangeMaps (open_string shut_string)
set_option linter.unusedVariables false
theorem own : ownKnob Tryz.prog.godebug = none := by kernel_rfl
theorem laidOut : laidOutB Tryz.prog = true := by kernel_rfl
set_option maxRecDepth 100000 in
theorem lifted (os : Os) (started : os.Started) (H : Type) (enc : TypeId × Value → H) :
    ReturnsInHanded {} Tryz.checked os 8 .any (fun w args => (Rows.valueClonesSpec.pre enc Tryz.prog Tryz.f8 [] false w args ∧ laidMetH Tryz.prog VzRow.laid5 w) ∧ sizedMet enc Tryz.prog Tryz.f8 (OpenSpec.ofChange Rows.valueClonesSpec) false w args) (Rows.valueClonesSpec.post enc Tryz.prog Tryz.f8 false true false false) := by
  refine VzRow.returns_and_shaped (C := Tryz.checked) (X := fun w _ => laidMetH Tryz.prog VzRow.laid5 w) (fun _ _ _ hh h => h.of_heap hh) own started (by kernel_rfl) Tryz.func8
    (ChangeSpec.witness_shaped (enc := enc) (C := Tryz.checked) (os := os) (X := fun w _ => laidMetH Tryz.prog VzRow.laid5 w) false (World.laidAll Tryz.prog os VzRow.laid5) #[.slice none 0 0] 8 (World.laidAll_os _ _ _) (World.shaped_of_ZipB (by kernel_rfl) (by kernel_rfl)) (by kernel_rfl) (by kernel_rfl) (by kernel_rfl) (VzRow.door_met os _)) ?_
  intro W base args ds gs before hval0 hW hL hsh hwt
  have hval : ∀ (j : Nat) t v, Tryz.f8.params[j]? = some t → args[j]? = some v → Value.okWide Tryz.prog W .any base t v := hval0
  have hW' := hW
  obtain ⟨p, q, hA0, hV, rfl, hfz, hnd⟩ := hW
  have hA : DataW.TrodAll enc Tryz.prog W 0 (fun _ => true) true Tryz.f8.params.toList args.toList ds p := hA0
  rw [Tryz.params8] at hA hval
  obtain ⟨v0, vs0, d0, ds0, p0, q0, hargs, rfl, rfl, h0, r0⟩ := trodAll_cons hA
  obtain ⟨rfl, rfl, rfl⟩ := trodAll_nil r0
  obtain rfl : args = #[v0] := by cases args; simp_all
  obtain ⟨rfl, rfl⟩ := trodVars_none hV
  obtain ⟨a0, len0, cap0, rfl⟩ := okWide_slice Tryz.underlying23 (hval 0 23 v0 rfl rfl)
  have k0 := h0
  have lt0 : ∀ x ∈ p0, x.block < W.heap.size := by obtain ⟨m, hm⟩ := k0; exact DataW.trod_lt m _ _ _ hm
  obtain ⟨fu0, hf0⟩ := h0
  obtain ⟨x0, A0, c0, e0, hx0⟩ := Vz.open_vals W 0 _ _ fu0 (.slice a0 len0 cap0) _ (by simpa [Value.cells] using hf0) (fun n hn => by have := List.all_eq_true.1 hwt n (Vz.mem_weightsEach hn 0 _ _ (by rw [Tryz.params8]; rfl) rfl); simpa using this)
  simp only [Value.slice.injEq] at e0
  obtain ⟨rfl, rfl, rfl⟩ := e0
  clear hA0 hval0
  refine (VzClonesW.walk x0 a0 cap0 hx0 W (VzRow.ok_of_laid hL hsh)).mono fun e W' ⟨he, bel⟩ => ?_
  subst he
  exact ⟨_, rfl, _, _, _, [], _, [], hW', trodAll_mk1 (shut_bool Tryz.underlying4 _), (trodAll_cons_mk (Below.trod laidOut (by kernel_rfl) (of_decide_eq_true (by kernel_rfl)) k0 bel lt0) trodAll_mk0), rfl, bel.frame _, fun h => by cases h⟩
theorem over : Rows.valueClonesRow.holds Tryz.pinned (OpenSpec.ofChange Rows.valueClonesSpec) :=
  OpenClaim.holds_of_wide 8 Tryz.f8 rfl rfl rfl rfl rfl rfl rfl ⟨rfl, rfl, rfl, rfl, rfl⟩ rfl rfl rfl rfl rfl (by kernel_rfl) Tryz.func8 (by kernel_rfl)
    (of_decide_eq_true (by kernel_rfl)) (by unfold Func.isWrapper; first | (rw [if_pos (by decide +kernel)]; kernel_rfl) | (rw [if_neg (by decide +kernel)]; exact ⟨rfl, rfl⟩))
    (fun os started H enc _ => lifted os started H enc)
theorem proved : Rows.ValueClonesSaid := over
#print axioms proved
end Go.Proofs.YtejfmghjmhiodaaGreatDoor.valueClones
namespace Go.Proofs.YtejfmghjmhiodaaGreatDoor
/-- The row, under a short name, for the claim. -/
theorem valueClones_holds : Rows.ValueClonesSaid := valueClones.proved
end Go.Proofs.YtejfmghjmhiodaaGreatDoor
