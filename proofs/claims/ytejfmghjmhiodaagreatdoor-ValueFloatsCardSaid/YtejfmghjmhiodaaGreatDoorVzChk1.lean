import Derived.Deep.RegionHeld3
import Derived.Test.YtejfmghjmhiodaaGreatDoorVzSize
namespace Go.Proofs.YtejfmghjmhiodaaGreatDoor.Vz
open Go.RowKit Go.Proofs.YtejfmghjmhiodaaGreatDoorW.PrintWords
set_option linter.unusedVariables false
set_option linter.unusedSimpArgs false
attribute [local go_sem] store_float

mutual
def strangeV : Val → Bool
  | .mk k _ _ _ l => if kindV k = k then (if k = 4 then stranges l else false) else true
def stranges : List Val → Bool
  | [] => false
  | x :: r => if strangeV x = true then true else stranges r
end
theorem stranges_nil : stranges [] = false := by rw [stranges]
theorem stranges_cons (x : Val) (r : List Val) : stranges (x :: r) = if strangeV x = true then true else stranges r := by rw [stranges]
def StrangeC (v : Val) : Prop := ∀ (W : World) (ok : Nat → Prop) (cs : Array Value), RV W ok v cs → Calls Tryz.prog 39 #[.agg cs] W fun e w' => e = .returned (.bool (strangeV v)) ∧ Below W.heap.size W w'
theorem enters39 (args : Array Value) (W : World) : (callFunc 39 args).run Tryz.prog W = .ok (.enter 39 args) W := by kernel_rfl
theorem enters58 (args : Array Value) (W : World) : (callFunc 58 args).run Tryz.prog W = .ok (.enter 58 args) W := by kernel_rfl

set_option maxHeartbeats 8000000 in
set_option maxRecDepth 100000 in
theorem index71s (k i : Int) (f : Nat) (s : ByteArray) (l : List Val) (hE : ∀ (j : Nat) (hj : j < l.length), StrangeC l[j]) (W : World) (ok : Nat → Prop) (x0 x1 x2 x3 : Value) (A : Option Addr) (c : Nat)
    (hR : RV W ok (.mk k i f s l) #[x0, x1, x2, x3, .slice A l.length c]) :
    Calls Tryz.prog 71 #[.slice A l.length c, .func (.func 39) #[] #[]] W fun e w' => ∃ r : Int, e = .returned (.int .i64 r) ∧ decide (0 ≤ r) = stranges l ∧ Below W.heap.size W w' := by
  obtain ⟨A0, c0, e0, wk, wi, wf, ws, wc, wb⟩ := hR.len
  have HI := Aside0.mk hE
  have HR := Aside0.mk hR
  have HWB := Aside0.mk (show (l.length : Int) * 64 ≤ 140737488351232 by omega)
  have hnn : (0 : Int) ≤ (l.length : Int) := by omega
  have hent := enters39
  clear hE hR wk wi wf ws wc wb e0
  obtain ⟨n, hn⟩ : ∃ n, l.length = n := ⟨_, rfl⟩
  have HNL := Aside0.mk hn
  rw [hn] at HR HWB hnn ⊢
  clear hn
  obtain ⟨O, hO⟩ : ∃ O, stranges l = O := ⟨_, rfl⟩
  rw [hO]
  have HO := Aside0.mk hO
  clear hO
  go_enter Tryz.func71, Tryz.ntmps71
  go_wp2
  go_loopw [8] (fun ix wr => ∃ j : Nat, j ≤ n ∧ ix = .int .i64 (j : Int) ∧ Aside0 (Below W.heap.size W wr) ∧ Aside0 (stranges (l.drop j) = O)) (fun ix _ => n - (intOf ix).toNat)
  case atStart => exact ⟨0, by omega, rfl, Aside0.mk (Below.refl _ _), HO⟩
  case round =>
    obtain ⟨j, hj, rfl, HB', HOj⟩ := hrel
    by_cases hlt : j < n
    · have hji : (j : Int) < (n : Int) := by omega
      have hj0 : (0 : Int) ≤ (j : Int) := by omega
      have hjl : j < l.length := by rw [HNL.out]; exact hlt
      obtain ⟨g, off, k', i', f', s', A', n', c', rfl, hg1, hg2, hsub, p0, p1, p2, p3, p4⟩ := (HR.out.kept HB'.out).elem j hjl
      have hih := HI.out j hjl
      have HOj2 := Aside0.mk HOj.out
      rw [dropAt l j hjl, stranges_cons] at HOj2
      generalize l[j] = x at hsub hih HOj2
      have HSub := Aside0.mk hsub
      have HIx := Aside0.mk hih
      obtain ⟨o, ho⟩ : ∃ o, strangeV x = o := ⟨_, rfl⟩
      have HOo := Aside0.mk ho
      have hwk : IntKind.i64.wrap ((j : Int) + 1) = ((j + 1 : Nat) : Int) := by have := HWB.out; rw [IntKind.wrap_i64]; omega
      clear hsub hih hjl hg1 hg2 ho
      rw [HOo.out] at HOj2
      cases o
      · have HN := Aside0.mk (show stranges (l.drop (j + 1)) = O by have := HOj2.out; rwa [if_neg (by decide)] at this)
        go_wp2_with (first
          | (go_at_call 39; refine (HIx.out _ _ _ HSub.out).mono ?_; rw [HOo.out]; rintro e w4 ⟨rfl, hb⟩; have HB2 := Aside0.mk (below_step HB'.out hb); clear hb))
        go_roundw
        case rel => exact ⟨j + 1, by omega, by go_num, HB2, HN⟩
        case measure => simp [intOf]; omega
      · have HN := Aside0.mk (show true = O by have := HOj2.out; rwa [if_pos rfl] at this)
        go_wp2_with (first
          | (go_at_call 39; refine (HIx.out _ _ _ HSub.out).mono ?_; rw [HOo.out]; rintro e w4 ⟨rfl, hb⟩; have HB2 := Aside0.mk (below_step HB'.out hb); clear hb))
        go_ret
        exact ⟨j, rfl, by rw [← HN.out]; simp, HB2.out⟩
    · obtain rfl : j = n := by omega
      have HOj2 := Aside0.mk HOj.out
      rw [show l.drop j = [] from List.drop_eq_nil_of_le (by rw [HNL.out]; omega), stranges_nil] at HOj2
      go_wp2
      go_ret
      exact ⟨-1, rfl, by rw [← HOj2.out]; rfl, HB'.out⟩


set_option maxHeartbeats 8000000 in
set_option maxRecDepth 100000 in
theorem contains57s (k i : Int) (f : Nat) (s : ByteArray) (l : List Val) (hE : ∀ (j : Nat) (hj : j < l.length), StrangeC l[j]) (W : World) (ok : Nat → Prop) (x0 x1 x2 x3 : Value) (A : Option Addr) (c : Nat)
    (hR : RV W ok (.mk k i f s l) #[x0, x1, x2, x3, .slice A l.length c]) :
    Calls Tryz.prog 57 #[.slice A l.length c, .func (.func 39) #[] #[]] W fun e w' => e = .returned (.bool (stranges l)) ∧ Below W.heap.size W w' := by
  have H := Aside0.mk (index71s k i f s l hE W ok x0 x1 x2 x3 A c hR)
  clear hE hR
  go_enter Tryz.func57, Tryz.ntmps57
  go_wp2_with (go_at_call 71; refine H.out.mono ?_; rintro e w1 ⟨r, rfl, hr, hb⟩; have HR := Aside0.mk hr; have HB := Aside0.mk hb; clear hr hb)
  go_ret
  exact ⟨by rw [← HR.out]; rfl, HB.out⟩

theorem fiveS {W w : World} {gb : Nat} {k i : Int} {f : Nat} {s : ByteArray} {l : List Val} {A : Option Addr} {c : Nat} (KB : W.heap[gb]? = some (.cells #[.int .i64 k, .int .i64 i, .float .f64 f, .string s, .slice A l.length c] 25 (0, 0))) (h : Below W.heap.size W w) : w.cell? ⟨gb, 0, none⟩ = some (.int .i64 k) ∧ w.cell? ⟨gb, 1, none⟩ = some (.int .i64 i) ∧ w.cell? ⟨gb, 2, none⟩ = some (.float .f64 f) ∧ w.cell? ⟨gb, 3, none⟩ = some (.string s) ∧ w.cell? ⟨gb, 4, none⟩ = some (.slice A l.length c) :=
  ⟨blk_cell (blk_below KB h) 0, blk_cell (blk_below KB h) 1, blk_cell (blk_below KB h) 2, blk_cell (blk_below KB h) 3, blk_cell (blk_below KB h) 4⟩

set_option maxHeartbeats 8000000 in
set_option maxRecDepth 100000 in
theorem strange_ne (k i : Int) (f : Nat) (s : ByteArray) (l : List Val) (A : Option Addr) (c : Nat) (hk : kindV k ≠ k) (W : World) (ok : Nat → Prop) (hR : RV W ok (.mk k i f s l) #[.int .i64 k, .int .i64 i, .float .f64 f, .string s, .slice A l.length c]) :
    Calls Tryz.prog 39 #[.agg #[.int .i64 k, .int .i64 i, .float .f64 f, .string s, .slice A l.length c]] W fun e w' => e = .returned (.bool true) ∧ Below W.heap.size W w' := by
  have e1 : (k != kindV k) = true := bne_iff_ne.2 fun x => hk x.symm
  clear hk
  have HR := Aside0.mk hR
  have h31 := fun W => kind31 k i f s A l.length c W
  have H31 := Aside0.mk h31
  clear hR h31
  go_enter Tryz.func39, Tryz.ntmps39
  go_upto_region 1 with (first
    | ((with_reducible refine gate_dst (N := 1) rfl ?_); refine box_event ?hg (N := 1) ?hd (cs := #[.int .i64 k, .int .i64 i, .float .f64 f, .string s, .slice A l.length c]) (t := 25) ?hr ?_; (case hd => rfl); (case hg => rfl); (case hr => first | (go_simp; done) | (go_simp; rfl)); intro gb hg w1 hbox hb; have HB := Aside0.mk hb; have KB := Aside0.mk hbox; clear hg hbox hb))
  have b0 : w1.cell? ⟨gb, 0, none⟩ = some (.int .i64 k) := blk_cell KB.out 0
  have b1 : w1.cell? ⟨gb, 1, none⟩ = some (.int .i64 i) := blk_cell KB.out 1
  have b2 : w1.cell? ⟨gb, 2, none⟩ = some (.float .f64 f) := blk_cell KB.out 2
  have b3 : w1.cell? ⟨gb, 3, none⟩ = some (.string s) := blk_cell KB.out 3
  have b4 : w1.cell? ⟨gb, 4, none⟩ = some (.slice A l.length c) := blk_cell KB.out 4
  refine wp_region_held_drew (S := fun w' => w'.cell? ⟨gb, 0, none⟩ = some (.int .i64 k) ∧ w'.cell? ⟨gb, 1, none⟩ = some (.int .i64 i) ∧ w'.cell? ⟨gb, 2, none⟩ = some (.float .f64 f) ∧ w'.cell? ⟨gb, 3, none⟩ = some (.string s) ∧ w'.cell? ⟨gb, 4, none⟩ = some (.slice A l.length c)) (by kernel_rfl) ?_ (fun hHeld => ?_)
  · exact ⟨b0, b1, b2, b3, b4⟩
  refine wpAnyH_take (i := 0) (oi := { dst := some 3, op := Go.Op.fieldAddr 25 (Go.Operand.tmp 1) 0, type := 0, pos := "value.go:47", after := #[], guard := none }) (v := ?_) rfl (by kernel_rfl) (by kernel_rfl) (by kernel_rfl) (fun _ _ _ h => h) (Or.inl ⟨by rfl, ?_⟩) (by assumption) ?_
  rotate_left
  · first | (intro w hSw; (try dsimp only at hSw); go_simp; done) | (intro w hSw; (try dsimp only at hSw); go_simp; with_reducible rfl)
  try simp only [Act.put, List.setIfInBounds_toArray, List.set_cons_zero, List.set_cons_succ]
  refine wpAnyH_take (i := 1) (oi := { dst := some 4, op := Go.Op.load 3 (Go.Operand.tmp 3), type := 3, pos := "value.go:47", after := #[{ on := 0, ground := Go.Ground.data }], guard := none }) (v := ?_) rfl (by kernel_rfl) (by kernel_rfl) (by kernel_rfl) (fun _ _ _ h => h) (Or.inl ⟨by rfl, ?_⟩) (by assumption) ?_
  rotate_left
  · first | (intro w hSw; (try dsimp only at hSw); go_simp; done) | (intro w hSw; (try dsimp only at hSw); go_simp; with_reducible rfl)
  try simp only [Act.put, List.setIfInBounds_toArray, List.set_cons_zero, List.set_cons_succ]
  refine wpAnyH_take (i := 2) (oi := { dst := some 5, op := Go.Op.load 25 (Go.Operand.tmp 1), type := 25, pos := "value.go:47", after := #[], guard := none }) (v := ?_) rfl (by kernel_rfl) (by kernel_rfl) (by kernel_rfl) (fun _ _ _ h => h) (Or.inl ⟨by rfl, ?_⟩) (by assumption) ?_
  rotate_left
  · first | (intro w hSw; (try dsimp only at hSw); go_simp; done) | (intro w hSw; (try dsimp only at hSw); go_simp; with_reducible rfl)
  try simp only [Act.put, List.setIfInBounds_toArray, List.set_cons_zero, List.set_cons_succ]
  refine wpAnyH_ready (rs := [3]) (by kernel_rfl) (by simp) ?_
  refine AllReadyH.cons (o := { dst := some 6, op := Go.Op.call { callee := Go.Callee.value (Go.Operand.func 31), args := #[Go.Operand.tmp 5], argTypes := #[25] }, type := 3, pos := "value.go:47", after := #[{ on := 2, ground := Go.Ground.data }], guard := none }) rfl (fun K hK => ?_) AllReadyH.nil
  go_simp
  refine (H31.out _).mono ?_
  rintro e w2 ⟨rfl, hb⟩
  refine hK.out _ _ ?_ (fun hHeld => ?_)
  · exact fiveS (W := w1.drew) KB.out hb
  clear hK K
  try simp only [Act.put, List.setIfInBounds_toArray, List.set_cons_zero, List.set_cons_succ]
  refine wpAnyH_take (i := 4) (oi := { dst := some 7, op := Go.Op.binOp Go.BinOp.neq 3 (Go.Operand.tmp 4) (Go.Operand.tmp 6) 3, type := 4, pos := "value.go:47", after := #[{ on := 1, ground := Go.Ground.data }, { on := 3, ground := Go.Ground.data }], guard := none }) (v := ?_) rfl (by kernel_rfl) (by kernel_rfl) (by kernel_rfl) (fun _ _ _ h => h) (Or.inl ⟨by rfl, ?_⟩) (by assumption) ?_
  rotate_left
  · first | (intro w hSw; (try dsimp only at hSw); go_simp; done) | (intro w hSw; (try dsimp only at hSw); go_simp; with_reducible rfl)
  try simp only [Act.put, List.setIfInBounds_toArray, List.set_cons_zero, List.set_cons_succ]
  refine wpAnyH_take (i := 5) (oi := { dst := some 8, op := Go.Op.move (Go.Operand.tmp 7), type := 4, pos := "value.go:47", after := #[{ on := 4, ground := Go.Ground.data }, { on := 3, ground := Go.Ground.chain }], guard := none }) (v := ?_) rfl (by kernel_rfl) (by kernel_rfl) (by kernel_rfl) (fun _ _ _ h => h) (Or.inl ⟨by rfl, ?_⟩) (by assumption) ?_
  rotate_left
  · first | (intro w hSw; (try dsimp only at hSw); go_simp; done) | (intro w hSw; (try dsimp only at hSw); go_simp; with_reducible rfl)
  try simp only [Act.put, List.setIfInBounds_toArray, List.set_cons_zero, List.set_cons_succ]
  refine wpAnyH_take (i := 6) (oi := { dst := some 9, op := Go.Op.fieldAddr 25 (Go.Operand.tmp 1) 0, type := 0, pos := "value.go:47", after := #[{ on := 5, ground := Go.Ground.guard }], guard := some (5, false) }) (v := undef) rfl (by kernel_rfl) (by kernel_rfl) (by kernel_rfl) (fun _ _ _ h => h) (Or.inr ⟨by rfl, rfl⟩) (by assumption) ?_
  try simp only [Act.put, List.setIfInBounds_toArray, List.set_cons_zero, List.set_cons_succ]
  refine wpAnyH_take (i := 7) (oi := { dst := some 10, op := Go.Op.load 3 (Go.Operand.tmp 9), type := 3, pos := "value.go:47", after := #[{ on := 6, ground := Go.Ground.data }, { on := 5, ground := Go.Ground.guard }], guard := some (5, false) }) (v := undef) rfl (by kernel_rfl) (by kernel_rfl) (by kernel_rfl) (fun _ _ _ h => h) (Or.inr ⟨by rfl, rfl⟩) (by assumption) ?_
  try simp only [Act.put, List.setIfInBounds_toArray, List.set_cons_zero, List.set_cons_succ]
  refine wpAnyH_take (i := 8) (oi := { dst := some 11, op := Go.Op.binOp Go.BinOp.eql 3 (Go.Operand.tmp 10) (Go.Operand.const (Go.Value.int Go.IntKind.i64 4)) 3, type := 4, pos := "value.go:47", after := #[{ on := 7, ground := Go.Ground.data }, { on := 5, ground := Go.Ground.guard }], guard := some (5, false) }) (v := undef) rfl (by kernel_rfl) (by kernel_rfl) (by kernel_rfl) (fun _ _ _ h => h) (Or.inr ⟨by rfl, rfl⟩) (by assumption) ?_
  try simp only [Act.put, List.setIfInBounds_toArray, List.set_cons_zero, List.set_cons_succ]
  refine wpAnyH_take (i := 9) (oi := { dst := some 12, op := Go.Op.move (Go.Operand.tmp 11), type := 4, pos := "value.go:47", after := #[{ on := 8, ground := Go.Ground.data }, { on := 5, ground := Go.Ground.chain }, { on := 5, ground := Go.Ground.guard }], guard := some (5, false) }) (v := undef) rfl (by kernel_rfl) (by kernel_rfl) (by kernel_rfl) (fun _ _ _ h => h) (Or.inr ⟨by rfl, rfl⟩) (by assumption) ?_
  try simp only [Act.put, List.setIfInBounds_toArray, List.set_cons_zero, List.set_cons_succ]
  refine wpAnyH_take (i := 10) (oi := { dst := some 13, op := Go.Op.fieldAddr 25 (Go.Operand.tmp 1) 4, type := 0, pos := "value.go:47", after := #[{ on := 9, ground := Go.Ground.guard }], guard := some (9, true) }) (v := undef) rfl (by kernel_rfl) (by kernel_rfl) (by kernel_rfl) (fun _ _ _ h => h) (Or.inr ⟨by rfl, rfl⟩) (by assumption) ?_
  try simp only [Act.put, List.setIfInBounds_toArray, List.set_cons_zero, List.set_cons_succ]
  refine wpAnyH_take (i := 11) (oi := { dst := some 14, op := Go.Op.load 23 (Go.Operand.tmp 13), type := 23, pos := "value.go:47", after := #[{ on := 10, ground := Go.Ground.data }, { on := 9, ground := Go.Ground.guard }], guard := some (9, true) }) (v := undef) rfl (by kernel_rfl) (by kernel_rfl) (by kernel_rfl) (fun _ _ _ h => h) (Or.inr ⟨by rfl, rfl⟩) (by assumption) ?_
  try simp only [Act.put, List.setIfInBounds_toArray, List.set_cons_zero, List.set_cons_succ]
  refine wpAnyH_take (i := 12) (oi := { dst := some 15, op := Go.Op.call { callee := Go.Callee.value (Go.Operand.func 57), args := #[Go.Operand.tmp 14, Go.Operand.func 39], argTypes := #[23, 27] }, type := 4, pos := "value.go:47", after := #[{ on := 11, ground := Go.Ground.data }, { on := 9, ground := Go.Ground.chain }, { on := 9, ground := Go.Ground.guard }], guard := some (9, true) }) (v := undef) rfl (by kernel_rfl) (by kernel_rfl) (by kernel_rfl) (fun _ _ _ h => h) (Or.inr ⟨by rfl, rfl⟩) (by assumption) ?_
  try simp only [Act.put, List.setIfInBounds_toArray, List.set_cons_zero, List.set_cons_succ]
  refine wpAnyH_take (i := 13) (oi := { dst := some 16, op := Go.Op.pick (Go.Operand.tmp 12) (Go.Operand.tmp 15) (Go.Operand.const (Go.Value.bool false)), type := 4, pos := "value.go:47", after := #[{ on := 9, ground := Go.Ground.data }, { on := 12, ground := Go.Ground.data }, { on := 5, ground := Go.Ground.guard }], guard := some (5, false) }) (v := undef) rfl (by kernel_rfl) (by kernel_rfl) (by kernel_rfl) (fun _ _ _ h => h) (Or.inr ⟨by rfl, rfl⟩) (by assumption) ?_
  try simp only [Act.put, List.setIfInBounds_toArray, List.set_cons_zero, List.set_cons_succ]
  refine wpAnyH_take (i := 14) (oi := { dst := some 17, op := Go.Op.pick (Go.Operand.tmp 8) (Go.Operand.const (Go.Value.bool true)) (Go.Operand.tmp 16), type := 4, pos := "value.go:47", after := #[{ on := 5, ground := Go.Ground.data }, { on := 13, ground := Go.Ground.data }], guard := none }) (v := ?_) rfl (by kernel_rfl) (by kernel_rfl) (by kernel_rfl) (fun _ _ _ h => h) (Or.inl ⟨by rfl, ?_⟩) (by assumption) ?_
  rotate_left
  · first | (intro w hSw; (try dsimp only at hSw); go_simp; done) | (intro w hSw; (try dsimp only at hSw); go_simp; with_reducible rfl)
  try simp only [Act.put, List.setIfInBounds_toArray, List.set_cons_zero, List.set_cons_succ]
  refine wpAnyH_take (i := 15) (oi := { dst := some 2, op := Go.Op.assign (Go.Operand.tmp 17), type := 4, pos := "value.go:47", after := #[{ on := 14, ground := Go.Ground.data }, { on := 12, ground := Go.Ground.chain }, { on := 0, ground := Go.Ground.phase }, { on := 1, ground := Go.Ground.phase }, { on := 2, ground := Go.Ground.phase }, { on := 3, ground := Go.Ground.phase }, { on := 4, ground := Go.Ground.phase }, { on := 5, ground := Go.Ground.phase }, { on := 6, ground := Go.Ground.phase }, { on := 7, ground := Go.Ground.phase }, { on := 8, ground := Go.Ground.phase }, { on := 9, ground := Go.Ground.phase }, { on := 10, ground := Go.Ground.phase }, { on := 11, ground := Go.Ground.phase }, { on := 12, ground := Go.Ground.phase }, { on := 13, ground := Go.Ground.phase }, { on := 14, ground := Go.Ground.phase }], guard := none }) (v := ?_) rfl (by kernel_rfl) (by kernel_rfl) (by kernel_rfl) (fun _ _ _ h => h) (Or.inl ⟨by rfl, ?_⟩) (by assumption) ?_
  rotate_left
  · first | (intro w hSw; (try dsimp only at hSw); go_simp; done) | (intro w hSw; (try dsimp only at hSw); go_simp; with_reducible rfl)
  try simp only [Act.put, List.setIfInBounds_toArray, List.set_cons_zero, List.set_cons_succ]
  refine wpAnyH_done (by kernel_rfl) ?_ _
  have HB3 := Aside0.mk (below_step HB.out.drew hb)
  clear hb b0 b1 b2 b3 b4
  go_wp2
  go_ret
  exact ⟨rfl, HB3.out⟩

set_option maxHeartbeats 8000000 in
set_option maxRecDepth 100000 in
theorem strange_no (k i : Int) (f : Nat) (s : ByteArray) (l : List Val) (A : Option Addr) (c : Nat) (hk : kindV k = k) (h4 : k ≠ 4) (W : World) (ok : Nat → Prop) (hR : RV W ok (.mk k i f s l) #[.int .i64 k, .int .i64 i, .float .f64 f, .string s, .slice A l.length c]) :
    Calls Tryz.prog 39 #[.agg #[.int .i64 k, .int .i64 i, .float .f64 f, .string s, .slice A l.length c]] W fun e w' => e = .returned (.bool false) ∧ Below W.heap.size W w' := by
  have e1 : (k != kindV k) = false := by rw [hk]; simp
  have e4 : (k == 4) = false := beq_eq_false_iff_ne.2 h4
  clear hk h4
  have HR := Aside0.mk hR
  have h31 := fun W => kind31 k i f s A l.length c W
  have H31 := Aside0.mk h31
  clear hR h31
  go_enter Tryz.func39, Tryz.ntmps39
  go_upto_region 1 with (first
    | ((with_reducible refine gate_dst (N := 1) rfl ?_); refine box_event ?hg (N := 1) ?hd (cs := #[.int .i64 k, .int .i64 i, .float .f64 f, .string s, .slice A l.length c]) (t := 25) ?hr ?_; (case hd => rfl); (case hg => rfl); (case hr => first | (go_simp; done) | (go_simp; rfl)); intro gb hg w1 hbox hb; have HB := Aside0.mk hb; have KB := Aside0.mk hbox; clear hg hbox hb))
  have b0 : w1.cell? ⟨gb, 0, none⟩ = some (.int .i64 k) := blk_cell KB.out 0
  have b1 : w1.cell? ⟨gb, 1, none⟩ = some (.int .i64 i) := blk_cell KB.out 1
  have b2 : w1.cell? ⟨gb, 2, none⟩ = some (.float .f64 f) := blk_cell KB.out 2
  have b3 : w1.cell? ⟨gb, 3, none⟩ = some (.string s) := blk_cell KB.out 3
  have b4 : w1.cell? ⟨gb, 4, none⟩ = some (.slice A l.length c) := blk_cell KB.out 4
  refine wp_region_held_drew (S := fun w' => w'.cell? ⟨gb, 0, none⟩ = some (.int .i64 k) ∧ w'.cell? ⟨gb, 1, none⟩ = some (.int .i64 i) ∧ w'.cell? ⟨gb, 2, none⟩ = some (.float .f64 f) ∧ w'.cell? ⟨gb, 3, none⟩ = some (.string s) ∧ w'.cell? ⟨gb, 4, none⟩ = some (.slice A l.length c)) (by kernel_rfl) ?_ (fun hHeld => ?_)
  · exact ⟨b0, b1, b2, b3, b4⟩
  refine wpAnyH_take (i := 0) (oi := { dst := some 3, op := Go.Op.fieldAddr 25 (Go.Operand.tmp 1) 0, type := 0, pos := "value.go:47", after := #[], guard := none }) (v := ?_) rfl (by kernel_rfl) (by kernel_rfl) (by kernel_rfl) (fun _ _ _ h => h) (Or.inl ⟨by rfl, ?_⟩) (by assumption) ?_
  rotate_left
  · first | (intro w hSw; (try dsimp only at hSw); go_simp; done) | (intro w hSw; (try dsimp only at hSw); go_simp; with_reducible rfl)
  try simp only [Act.put, List.setIfInBounds_toArray, List.set_cons_zero, List.set_cons_succ]
  refine wpAnyH_take (i := 1) (oi := { dst := some 4, op := Go.Op.load 3 (Go.Operand.tmp 3), type := 3, pos := "value.go:47", after := #[{ on := 0, ground := Go.Ground.data }], guard := none }) (v := ?_) rfl (by kernel_rfl) (by kernel_rfl) (by kernel_rfl) (fun _ _ _ h => h) (Or.inl ⟨by rfl, ?_⟩) (by assumption) ?_
  rotate_left
  · first | (intro w hSw; (try dsimp only at hSw); go_simp; done) | (intro w hSw; (try dsimp only at hSw); go_simp; with_reducible rfl)
  try simp only [Act.put, List.setIfInBounds_toArray, List.set_cons_zero, List.set_cons_succ]
  refine wpAnyH_take (i := 2) (oi := { dst := some 5, op := Go.Op.load 25 (Go.Operand.tmp 1), type := 25, pos := "value.go:47", after := #[], guard := none }) (v := ?_) rfl (by kernel_rfl) (by kernel_rfl) (by kernel_rfl) (fun _ _ _ h => h) (Or.inl ⟨by rfl, ?_⟩) (by assumption) ?_
  rotate_left
  · first | (intro w hSw; (try dsimp only at hSw); go_simp; done) | (intro w hSw; (try dsimp only at hSw); go_simp; with_reducible rfl)
  try simp only [Act.put, List.setIfInBounds_toArray, List.set_cons_zero, List.set_cons_succ]
  refine wpAnyH_ready (rs := [3]) (by kernel_rfl) (by simp) ?_
  refine AllReadyH.cons (o := { dst := some 6, op := Go.Op.call { callee := Go.Callee.value (Go.Operand.func 31), args := #[Go.Operand.tmp 5], argTypes := #[25] }, type := 3, pos := "value.go:47", after := #[{ on := 2, ground := Go.Ground.data }], guard := none }) rfl (fun K hK => ?_) AllReadyH.nil
  go_simp
  refine (H31.out _).mono ?_
  rintro e w2 ⟨rfl, hb⟩
  refine hK.out _ _ ?_ (fun hHeld => ?_)
  · exact fiveS (W := w1.drew) KB.out hb
  clear hK K
  try simp only [Act.put, List.setIfInBounds_toArray, List.set_cons_zero, List.set_cons_succ]
  refine wpAnyH_take (i := 4) (oi := { dst := some 7, op := Go.Op.binOp Go.BinOp.neq 3 (Go.Operand.tmp 4) (Go.Operand.tmp 6) 3, type := 4, pos := "value.go:47", after := #[{ on := 1, ground := Go.Ground.data }, { on := 3, ground := Go.Ground.data }], guard := none }) (v := ?_) rfl (by kernel_rfl) (by kernel_rfl) (by kernel_rfl) (fun _ _ _ h => h) (Or.inl ⟨by rfl, ?_⟩) (by assumption) ?_
  rotate_left
  · first | (intro w hSw; (try dsimp only at hSw); go_simp; done) | (intro w hSw; (try dsimp only at hSw); go_simp; with_reducible rfl)
  try simp only [Act.put, List.setIfInBounds_toArray, List.set_cons_zero, List.set_cons_succ]
  refine wpAnyH_take (i := 5) (oi := { dst := some 8, op := Go.Op.move (Go.Operand.tmp 7), type := 4, pos := "value.go:47", after := #[{ on := 4, ground := Go.Ground.data }, { on := 3, ground := Go.Ground.chain }], guard := none }) (v := ?_) rfl (by kernel_rfl) (by kernel_rfl) (by kernel_rfl) (fun _ _ _ h => h) (Or.inl ⟨by rfl, ?_⟩) (by assumption) ?_
  rotate_left
  · first | (intro w hSw; (try dsimp only at hSw); go_simp; done) | (intro w hSw; (try dsimp only at hSw); go_simp; with_reducible rfl)
  try simp only [Act.put, List.setIfInBounds_toArray, List.set_cons_zero, List.set_cons_succ]
  refine wpAnyH_take (i := 6) (oi := { dst := some 9, op := Go.Op.fieldAddr 25 (Go.Operand.tmp 1) 0, type := 0, pos := "value.go:47", after := #[{ on := 5, ground := Go.Ground.guard }], guard := some (5, false) }) (v := ?_) rfl (by kernel_rfl) (by kernel_rfl) (by kernel_rfl) (fun _ _ _ h => h) (Or.inl ⟨by rfl, ?_⟩) (by assumption) ?_
  rotate_left
  · first | (intro w hSw; (try dsimp only at hSw); go_simp; done) | (intro w hSw; (try dsimp only at hSw); go_simp; with_reducible rfl)
  try simp only [Act.put, List.setIfInBounds_toArray, List.set_cons_zero, List.set_cons_succ]
  refine wpAnyH_take (i := 7) (oi := { dst := some 10, op := Go.Op.load 3 (Go.Operand.tmp 9), type := 3, pos := "value.go:47", after := #[{ on := 6, ground := Go.Ground.data }, { on := 5, ground := Go.Ground.guard }], guard := some (5, false) }) (v := ?_) rfl (by kernel_rfl) (by kernel_rfl) (by kernel_rfl) (fun _ _ _ h => h) (Or.inl ⟨by rfl, ?_⟩) (by assumption) ?_
  rotate_left
  · first | (intro w hSw; (try dsimp only at hSw); go_simp; done) | (intro w hSw; (try dsimp only at hSw); go_simp; with_reducible rfl)
  try simp only [Act.put, List.setIfInBounds_toArray, List.set_cons_zero, List.set_cons_succ]
  refine wpAnyH_take (i := 8) (oi := { dst := some 11, op := Go.Op.binOp Go.BinOp.eql 3 (Go.Operand.tmp 10) (Go.Operand.const (Go.Value.int Go.IntKind.i64 4)) 3, type := 4, pos := "value.go:47", after := #[{ on := 7, ground := Go.Ground.data }, { on := 5, ground := Go.Ground.guard }], guard := some (5, false) }) (v := ?_) rfl (by kernel_rfl) (by kernel_rfl) (by kernel_rfl) (fun _ _ _ h => h) (Or.inl ⟨by rfl, ?_⟩) (by assumption) ?_
  rotate_left
  · first | (intro w hSw; (try dsimp only at hSw); go_simp; done) | (intro w hSw; (try dsimp only at hSw); go_simp; with_reducible rfl)
  try simp only [Act.put, List.setIfInBounds_toArray, List.set_cons_zero, List.set_cons_succ]
  refine wpAnyH_take (i := 9) (oi := { dst := some 12, op := Go.Op.move (Go.Operand.tmp 11), type := 4, pos := "value.go:47", after := #[{ on := 8, ground := Go.Ground.data }, { on := 5, ground := Go.Ground.chain }, { on := 5, ground := Go.Ground.guard }], guard := some (5, false) }) (v := ?_) rfl (by kernel_rfl) (by kernel_rfl) (by kernel_rfl) (fun _ _ _ h => h) (Or.inl ⟨by rfl, ?_⟩) (by assumption) ?_
  rotate_left
  · first | (intro w hSw; (try dsimp only at hSw); go_simp; done) | (intro w hSw; (try dsimp only at hSw); go_simp; with_reducible rfl)
  try simp only [Act.put, List.setIfInBounds_toArray, List.set_cons_zero, List.set_cons_succ]
  refine wpAnyH_take (i := 10) (oi := { dst := some 13, op := Go.Op.fieldAddr 25 (Go.Operand.tmp 1) 4, type := 0, pos := "value.go:47", after := #[{ on := 9, ground := Go.Ground.guard }], guard := some (9, true) }) (v := undef) rfl (by kernel_rfl) (by kernel_rfl) (by kernel_rfl) (fun _ _ _ h => h) (Or.inr ⟨by rfl, rfl⟩) (by assumption) ?_
  try simp only [Act.put, List.setIfInBounds_toArray, List.set_cons_zero, List.set_cons_succ]
  refine wpAnyH_take (i := 11) (oi := { dst := some 14, op := Go.Op.load 23 (Go.Operand.tmp 13), type := 23, pos := "value.go:47", after := #[{ on := 10, ground := Go.Ground.data }, { on := 9, ground := Go.Ground.guard }], guard := some (9, true) }) (v := undef) rfl (by kernel_rfl) (by kernel_rfl) (by kernel_rfl) (fun _ _ _ h => h) (Or.inr ⟨by rfl, rfl⟩) (by assumption) ?_
  try simp only [Act.put, List.setIfInBounds_toArray, List.set_cons_zero, List.set_cons_succ]
  refine wpAnyH_take (i := 12) (oi := { dst := some 15, op := Go.Op.call { callee := Go.Callee.value (Go.Operand.func 57), args := #[Go.Operand.tmp 14, Go.Operand.func 39], argTypes := #[23, 27] }, type := 4, pos := "value.go:47", after := #[{ on := 11, ground := Go.Ground.data }, { on := 9, ground := Go.Ground.chain }, { on := 9, ground := Go.Ground.guard }], guard := some (9, true) }) (v := undef) rfl (by kernel_rfl) (by kernel_rfl) (by kernel_rfl) (fun _ _ _ h => h) (Or.inr ⟨by rfl, rfl⟩) (by assumption) ?_
  try simp only [Act.put, List.setIfInBounds_toArray, List.set_cons_zero, List.set_cons_succ]
  refine wpAnyH_take (i := 13) (oi := { dst := some 16, op := Go.Op.pick (Go.Operand.tmp 12) (Go.Operand.tmp 15) (Go.Operand.const (Go.Value.bool false)), type := 4, pos := "value.go:47", after := #[{ on := 9, ground := Go.Ground.data }, { on := 12, ground := Go.Ground.data }, { on := 5, ground := Go.Ground.guard }], guard := some (5, false) }) (v := ?_) rfl (by kernel_rfl) (by kernel_rfl) (by kernel_rfl) (fun _ _ _ h => h) (Or.inl ⟨by rfl, ?_⟩) (by assumption) ?_
  rotate_left
  · first | (intro w hSw; (try dsimp only at hSw); go_simp; done) | (intro w hSw; (try dsimp only at hSw); go_simp; with_reducible rfl)
  try simp only [Act.put, List.setIfInBounds_toArray, List.set_cons_zero, List.set_cons_succ]
  refine wpAnyH_take (i := 14) (oi := { dst := some 17, op := Go.Op.pick (Go.Operand.tmp 8) (Go.Operand.const (Go.Value.bool true)) (Go.Operand.tmp 16), type := 4, pos := "value.go:47", after := #[{ on := 5, ground := Go.Ground.data }, { on := 13, ground := Go.Ground.data }], guard := none }) (v := ?_) rfl (by kernel_rfl) (by kernel_rfl) (by kernel_rfl) (fun _ _ _ h => h) (Or.inl ⟨by rfl, ?_⟩) (by assumption) ?_
  rotate_left
  · first | (intro w hSw; (try dsimp only at hSw); go_simp; done) | (intro w hSw; (try dsimp only at hSw); go_simp; with_reducible rfl)
  try simp only [Act.put, List.setIfInBounds_toArray, List.set_cons_zero, List.set_cons_succ]
  refine wpAnyH_take (i := 15) (oi := { dst := some 2, op := Go.Op.assign (Go.Operand.tmp 17), type := 4, pos := "value.go:47", after := #[{ on := 14, ground := Go.Ground.data }, { on := 12, ground := Go.Ground.chain }, { on := 0, ground := Go.Ground.phase }, { on := 1, ground := Go.Ground.phase }, { on := 2, ground := Go.Ground.phase }, { on := 3, ground := Go.Ground.phase }, { on := 4, ground := Go.Ground.phase }, { on := 5, ground := Go.Ground.phase }, { on := 6, ground := Go.Ground.phase }, { on := 7, ground := Go.Ground.phase }, { on := 8, ground := Go.Ground.phase }, { on := 9, ground := Go.Ground.phase }, { on := 10, ground := Go.Ground.phase }, { on := 11, ground := Go.Ground.phase }, { on := 12, ground := Go.Ground.phase }, { on := 13, ground := Go.Ground.phase }, { on := 14, ground := Go.Ground.phase }], guard := none }) (v := ?_) rfl (by kernel_rfl) (by kernel_rfl) (by kernel_rfl) (fun _ _ _ h => h) (Or.inl ⟨by rfl, ?_⟩) (by assumption) ?_
  rotate_left
  · first | (intro w hSw; (try dsimp only at hSw); go_simp; done) | (intro w hSw; (try dsimp only at hSw); go_simp; with_reducible rfl)
  try simp only [Act.put, List.setIfInBounds_toArray, List.set_cons_zero, List.set_cons_succ]
  refine wpAnyH_done (by kernel_rfl) ?_ _
  have HB3 := Aside0.mk (below_step HB.out.drew hb)
  clear hb b0 b1 b2 b3 b4
  go_wp2
  go_ret
  exact ⟨rfl, HB3.out⟩

set_option maxHeartbeats 8000000 in
set_option maxRecDepth 100000 in
theorem strange_4 (k i : Int) (f : Nat) (s : ByteArray) (l : List Val) (A : Option Addr) (c : Nat) (hk : k = 4) (hE : ∀ (j : Nat) (hj : j < l.length), StrangeC l[j]) (W : World) (ok : Nat → Prop) (hR : RV W ok (.mk k i f s l) #[.int .i64 k, .int .i64 i, .float .f64 f, .string s, .slice A l.length c]) :
    Calls Tryz.prog 39 #[.agg #[.int .i64 k, .int .i64 i, .float .f64 f, .string s, .slice A l.length c]] W fun e w' => e = .returned (.bool (stranges l)) ∧ Below W.heap.size W w' := by
  have e1 : (k != kindV k) = false := by rw [hk]; decide
  have e4 : (k == 4) = true := by rw [hk]; decide
  clear hk
  have h57 := Aside0.mk (fun (W' : World) (hb : Below W.heap.size W W') => contains57s k i f s l hE W' ok _ _ _ _ A c (hR.kept hb))
  obtain ⟨F, hF⟩ : ∃ F, stranges l = F := ⟨_, rfl⟩
  rw [hF] at h57 ⊢
  clear hF hE
  have HR := Aside0.mk hR
  have h31 := fun W => kind31 k i f s A l.length c W
  have H31 := Aside0.mk h31
  clear hR h31
  go_enter Tryz.func39, Tryz.ntmps39
  go_upto_region 1 with (first
    | ((with_reducible refine gate_dst (N := 1) rfl ?_); refine box_event ?hg (N := 1) ?hd (cs := #[.int .i64 k, .int .i64 i, .float .f64 f, .string s, .slice A l.length c]) (t := 25) ?hr ?_; (case hd => rfl); (case hg => rfl); (case hr => first | (go_simp; done) | (go_simp; rfl)); intro gb hg w1 hbox hb; have HB := Aside0.mk hb; have KB := Aside0.mk hbox; clear hg hbox hb))
  have b0 : w1.cell? ⟨gb, 0, none⟩ = some (.int .i64 k) := blk_cell KB.out 0
  have b1 : w1.cell? ⟨gb, 1, none⟩ = some (.int .i64 i) := blk_cell KB.out 1
  have b2 : w1.cell? ⟨gb, 2, none⟩ = some (.float .f64 f) := blk_cell KB.out 2
  have b3 : w1.cell? ⟨gb, 3, none⟩ = some (.string s) := blk_cell KB.out 3
  have b4 : w1.cell? ⟨gb, 4, none⟩ = some (.slice A l.length c) := blk_cell KB.out 4
  go_region_held3 (fun w' => w'.cell? ⟨gb, 0, none⟩ = some (.int .i64 k) ∧ w'.cell? ⟨gb, 1, none⟩ = some (.int .i64 i) ∧ w'.cell? ⟨gb, 2, none⟩ = some (.float .f64 f) ∧ w'.cell? ⟨gb, 3, none⟩ = some (.string s) ∧ w'.cell? ⟨gb, 4, none⟩ = some (.slice A l.length c)) (first | exact fiveS (W := w1.drew) KB.out (below_step hb1 hb2) | exact fiveS (W := w1.drew) KB.out hb1 | exact ⟨b0, b1, b2, b3, b4⟩)
    (first
      | (go_at_call 57; refine (h57.out _ (below_step HB.out.drew hb1)).mono ?_; rintro e w3 ⟨rfl, hb2⟩)
      | (go_at_call 31; refine (H31.out _).mono ?_; rintro e w2 ⟨rfl, hb1⟩))
  have HB3 := Aside0.mk (below_step (below_step HB.out.drew hb1) hb2)
  (try clear hHeld)
  clear hb1 hb2 b0 b1 b2 b3 b4
  go_wp2
  go_ret
  exact ⟨rfl, HB3.out⟩

theorem strange39 (v : Val) : StrangeC v := by
  induction v using Val.ind with
  | h k i f s l ih =>
    intro W ok cs hR
    obtain ⟨A, c, rfl, _⟩ := hR.len
    unfold strangeV
    by_cases hk : kindV k = k
    · rw [if_pos hk]
      by_cases h4 : k = 4
      · rw [if_pos h4]; exact strange_4 k i f s l A c h4 ih W ok hR
      · rw [if_neg h4]; exact strange_no k i f s l A c hk h4 W ok hR
    · rw [if_neg hk]; exact strange_ne k i f s l A c hk W ok hR
end Go.Proofs.YtejfmghjmhiodaaGreatDoor.Vz
