import Derived.Test.YtejfmghjmhiodaaGreatDoorVzChk1
namespace Go.Proofs.YtejfmghjmhiodaaGreatDoor.Vz
open Go.RowKit Go.Proofs.YtejfmghjmhiodaaGreatDoorW.PrintWords
set_option linter.unusedVariables false
set_option linter.unusedSimpArgs false
attribute [local go_sem] store_float

mutual
def greatV : Val → Int → Bool
  | .mk k _ _ s l, m => if k = 3 then decide ((256 : Int) < (s.size : Int)) else if k = 4 then (if 64 < l.length then true else if m < 1 then true else greats l (wrap64 (m - 1))) else false
def greats : List Val → Int → Bool
  | [], _ => false
  | x :: r, m => if greatV x m = true then true else greats r m
end
theorem greats_nil (m : Int) : greats [] m = false := by rw [greats]
theorem greats_cons (x : Val) (r : List Val) (m : Int) : greats (x :: r) m = if greatV x m = true then true else greats r m := by rw [greats]
def GreatC (v : Val) : Prop := ∀ (W : World) (ok : Nat → Prop) (cs : Array Value), RV W ok v cs → ∀ m : Int, Calls Tryz.prog 40 #[.agg cs, .int .i64 m] W fun e w' => e = .returned (.bool (greatV v m)) ∧ Below W.heap.size W w'

set_option maxHeartbeats 8000000 in
set_option maxRecDepth 100000 in
theorem clos58 (v : Val) (hG : GreatC v) (W : World) (ok : Nat → Prop) (cs : Array Value) (hR : RV W ok v cs) (m : Int) (gm : Nat) (hm : W.cell? ⟨gm, 0, none⟩ = some (.int .i64 m)) :
    Calls Tryz.prog 58 #[.agg cs, .pointer (some ⟨gm, 0, none⟩)] W fun e w' => e = .returned (.bool (greatV v (wrap64 (m - 1)))) ∧ Below W.heap.size W w' := by
  obtain ⟨k, i, f, s, A, n, c, rfl⟩ := hR.form
  have HR := Aside0.mk hR
  have HG := Aside0.mk hG
  have HM := Aside0.mk hm
  clear hR hG hm
  go_enter Tryz.func58, Tryz.ntmps58
  go_wp2_with (first
    | ((with_reducible refine gate_dst (N := 2) rfl ?_); refine box_event ?hg (N := 2) ?hd (cs := #[.int .i64 k, .int .i64 i, .float .f64 f, .string s, .slice A n c]) (t := 25) ?hr ?_; (case hd => rfl); (case hg => rfl); (case hr => first | (go_simp; done) | (go_simp; rfl)); intro gb hg w1 hbox hb; have HB := Aside0.mk hb; have HR := Aside0.mk (HR.out.kept hb); have m0 : w1.cell? ⟨gm, 0, none⟩ = some (.int .i64 m) := (hb.cell (cell_in HM.out)).trans HM.out; have b0 : w1.cell? ⟨gb, 0, none⟩ = some (.int .i64 k) := blk_cell hbox 0; have b1 : w1.cell? ⟨gb, 1, none⟩ = some (.int .i64 i) := blk_cell hbox 1; have b2 : w1.cell? ⟨gb, 2, none⟩ = some (.float .f64 f) := blk_cell hbox 2; have b3 : w1.cell? ⟨gb, 3, none⟩ = some (.string s) := blk_cell hbox 3; have b4 : w1.cell? ⟨gb, 4, none⟩ = some (.slice A n c) := blk_cell hbox 4; clear hg hbox hb)
    | (go_at_call 40; refine (HG.out _ _ _ HR.out _).mono ?_; rintro e w2 ⟨rfl, hb⟩; have HB2 := Aside0.mk (below_step HB.out hb); clear hb))
  go_ret
  exact ⟨rfl, HB2.out⟩

set_option maxHeartbeats 8000000 in
set_option maxRecDepth 100000 in
theorem index71g (k i : Int) (f : Nat) (s : ByteArray) (l : List Val) (hE : ∀ (j : Nat) (hj : j < l.length), GreatC l[j]) (W : World) (ok : Nat → Prop) (x0 x1 x2 x3 : Value) (A : Option Addr) (c : Nat) (m : Int) (gm : Nat) (hm : W.cell? ⟨gm, 0, none⟩ = some (.int .i64 m))
    (hR : RV W ok (.mk k i f s l) #[x0, x1, x2, x3, .slice A l.length c]) :
    Calls Tryz.prog 71 #[.slice A l.length c, .func (.func 58) #[] #[.pointer (some ⟨gm, 0, none⟩)]] W fun e w' => ∃ r : Int, e = .returned (.int .i64 r) ∧ decide (0 ≤ r) = greats l (wrap64 (m - 1)) ∧ Below W.heap.size W w' := by
  obtain ⟨A0, c0, e0, wk, wi, wf, ws, wc, wb⟩ := hR.len
  have HI := Aside0.mk hE
  have HM := Aside0.mk hm
  have HR := Aside0.mk hR
  have HWB := Aside0.mk (show (l.length : Int) * 64 ≤ 140737488351232 by omega)
  have hnn : (0 : Int) ≤ (l.length : Int) := by omega
  have hent := enters58
  clear hE hm hR wk wi wf ws wc wb e0
  obtain ⟨n, hn⟩ : ∃ n, l.length = n := ⟨_, rfl⟩
  have HNL := Aside0.mk hn
  rw [hn] at HR HWB hnn ⊢
  clear hn
  obtain ⟨O, hO⟩ : ∃ O, greats l (wrap64 (m - 1)) = O := ⟨_, rfl⟩
  rw [hO]
  have HO := Aside0.mk hO
  clear hO
  go_enter Tryz.func71, Tryz.ntmps71
  go_wp2
  go_loopw [8] (fun ix wr => ∃ j : Nat, j ≤ n ∧ ix = .int .i64 (j : Int) ∧ Aside0 (Below W.heap.size W wr) ∧ Aside0 (greats (l.drop j) (wrap64 (m - 1)) = O)) (fun ix _ => n - (intOf ix).toNat)
  case atStart => exact ⟨0, by omega, rfl, Aside0.mk (Below.refl _ _), HO⟩
  case round =>
    obtain ⟨j, hj, rfl, HB', HOj⟩ := hrel
    by_cases hlt : j < n
    · have hji : (j : Int) < (n : Int) := by omega
      have hj0 : (0 : Int) ≤ (j : Int) := by omega
      have hjl : j < l.length := by rw [HNL.out]; exact hlt
      obtain ⟨g, off, k', i', f', s', A', n', c', rfl, hg1, hg2, hsub, p0, p1, p2, p3, p4⟩ := (HR.out.kept HB'.out).elem j hjl
      have hih := HI.out j hjl
      have HOj2 := Aside0.mk HOj.out
      rw [dropAt l j hjl, greats_cons] at HOj2
      generalize l[j] = x at hsub hih HOj2
      have HSub := Aside0.mk hsub
      have HIx := Aside0.mk hih
      obtain ⟨o, ho⟩ : ∃ o, greatV x (wrap64 (m - 1)) = o := ⟨_, rfl⟩
      have HOo := Aside0.mk ho
      have hwk : IntKind.i64.wrap ((j : Int) + 1) = ((j + 1 : Nat) : Int) := by have := HWB.out; rw [IntKind.wrap_i64]; omega
      clear hsub hih hjl hg1 hg2 ho
      rw [HOo.out] at HOj2
      cases o
      · have HN := Aside0.mk (show greats (l.drop (j + 1)) (wrap64 (m - 1)) = O by have := HOj2.out; rwa [if_neg (by decide)] at this)
        go_wp2_with (first
          | (go_at_call 58; refine (clos58 _ HIx.out _ _ _ HSub.out m gm ((HB'.out.cell (cell_in HM.out)).trans HM.out)).mono ?_; rw [HOo.out]; rintro e w4 ⟨rfl, hb⟩; have HB2 := Aside0.mk (below_step HB'.out hb); clear hb))
        go_roundw
        case rel => exact ⟨j + 1, by omega, by go_num, HB2, HN⟩
        case measure => simp [intOf]; omega
      · have HN := Aside0.mk (show true = O by have := HOj2.out; rwa [if_pos rfl] at this)
        go_wp2_with (first
          | (go_at_call 58; refine (clos58 _ HIx.out _ _ _ HSub.out m gm ((HB'.out.cell (cell_in HM.out)).trans HM.out)).mono ?_; rw [HOo.out]; rintro e w4 ⟨rfl, hb⟩; have HB2 := Aside0.mk (below_step HB'.out hb); clear hb))
        go_ret
        exact ⟨j, rfl, by rw [← HN.out]; simp, HB2.out⟩
    · obtain rfl : j = n := by omega
      have HOj2 := Aside0.mk HOj.out
      rw [show l.drop j = [] from List.drop_eq_nil_of_le (by rw [HNL.out]; omega), greats_nil] at HOj2
      go_wp2
      go_ret
      exact ⟨-1, rfl, by rw [← HOj2.out]; rfl, HB'.out⟩


set_option maxHeartbeats 8000000 in
set_option maxRecDepth 100000 in
theorem contains57g (k i : Int) (f : Nat) (s : ByteArray) (l : List Val) (hE : ∀ (j : Nat) (hj : j < l.length), GreatC l[j]) (W : World) (ok : Nat → Prop) (x0 x1 x2 x3 : Value) (A : Option Addr) (c : Nat) (m : Int) (gm : Nat) (hm : W.cell? ⟨gm, 0, none⟩ = some (.int .i64 m))
    (hR : RV W ok (.mk k i f s l) #[x0, x1, x2, x3, .slice A l.length c]) :
    Calls Tryz.prog 57 #[.slice A l.length c, .func (.func 58) #[] #[.pointer (some ⟨gm, 0, none⟩)]] W fun e w' => e = .returned (.bool (greats l (wrap64 (m - 1)))) ∧ Below W.heap.size W w' := by
  have H := Aside0.mk (index71g k i f s l hE W ok x0 x1 x2 x3 A c m gm hm hR)
  clear hE hR hm
  go_enter Tryz.func57, Tryz.ntmps57
  go_wp2_with (go_at_call 71; refine H.out.mono ?_; rintro e w1 ⟨r, rfl, hr, hb⟩; have HR := Aside0.mk hr; have HB := Aside0.mk hb; clear hr hb)
  go_ret
  exact ⟨by rw [← HR.out]; rfl, HB.out⟩

set_option maxHeartbeats 8000000 in
set_option maxRecDepth 100000 in
theorem great_3 (i : Int) (f : Nat) (s : ByteArray) (l : List Val) (A : Option Addr) (c : Nat) (m : Int)  (W : World) (ok : Nat → Prop) (hR : RV W ok (.mk 3 i f s l) #[.int .i64 3, .int .i64 i, .float .f64 f, .string s, .slice A l.length c]) :
    Calls Tryz.prog 40 #[.agg #[.int .i64 3, .int .i64 i, .float .f64 f, .string s, .slice A l.length c], .int .i64 m] W fun e w' => e = .returned (.bool (decide ((256 : Int) < (s.size : Int)))) ∧ Below W.heap.size W w' := by
  have HR := Aside0.mk hR
  clear hR
  go_enter Tryz.func40, Tryz.ntmps40
  go_wp2_with (first
    | ((with_reducible refine gate_dst (N := 2) rfl ?_); refine box_event ?hg (N := 2) ?hd (cs := #[.int .i64 3, .int .i64 i, .float .f64 f, .string s, .slice A l.length c]) (t := 25) ?hr ?_; (case hd => rfl); (case hg => rfl); (case hr => first | (go_simp; done) | (go_simp; rfl)); intro gb hg w1 hbox hb; have HB := Aside0.mk hb; have b0 : w1.cell? ⟨gb, 0, none⟩ = some (.int .i64 3) := blk_cell hbox 0; have b3 : w1.cell? ⟨gb, 3, none⟩ = some (.string s) := blk_cell hbox 3; have b4 : w1.cell? ⟨gb, 4, none⟩ = some (.slice A l.length c) := blk_cell hbox 4; have K := Aside0.mk hbox; clear hg hbox hb)
    | ((with_reducible refine gate_dst (N := 3) rfl ?_); refine box_event ?hg (N := 3) ?hd (cs := #[.int .i64 m]) (t := 3) ?hr ?_; (case hd => rfl); (case hg => rfl); (case hr => first | (go_simp; done) | (go_simp; rfl)); intro gm hg w2 hbox hb; have m0 : w2.cell? ⟨gm, 0, none⟩ = some (.int .i64 m) := blk_cell hbox 0; clear b0 b3 b4; have KB2 := Aside0.mk (blk_below K.out hb); have HB := Aside0.mk (below_step HB.out hb); have b0 : w2.cell? ⟨gb, 0, none⟩ = some (.int .i64 3) := blk_cell KB2.out 0; have b3 : w2.cell? ⟨gb, 3, none⟩ = some (.string s) := blk_cell KB2.out 3; have b4 : w2.cell? ⟨gb, 4, none⟩ = some (.slice A l.length c) := blk_cell KB2.out 4; clear hg hbox hb))
  go_ret
  exact ⟨rfl, HB.out⟩

set_option maxHeartbeats 8000000 in
set_option maxRecDepth 100000 in
theorem great_4a (i : Int) (f : Nat) (s : ByteArray) (l : List Val) (A : Option Addr) (c : Nat) (m : Int) (h : 64 < l.length) (W : World) (ok : Nat → Prop) (hR : RV W ok (.mk 4 i f s l) #[.int .i64 4, .int .i64 i, .float .f64 f, .string s, .slice A l.length c]) :
    Calls Tryz.prog 40 #[.agg #[.int .i64 4, .int .i64 i, .float .f64 f, .string s, .slice A l.length c], .int .i64 m] W fun e w' => e = .returned (.bool true) ∧ Below W.heap.size W w' := by
  have HR := Aside0.mk hR
  have h' : (64 : Int) < (l.length : Int) := by omega
  clear h
  clear hR
  go_enter Tryz.func40, Tryz.ntmps40
  go_wp2_with (first
    | ((with_reducible refine gate_dst (N := 2) rfl ?_); refine box_event ?hg (N := 2) ?hd (cs := #[.int .i64 4, .int .i64 i, .float .f64 f, .string s, .slice A l.length c]) (t := 25) ?hr ?_; (case hd => rfl); (case hg => rfl); (case hr => first | (go_simp; done) | (go_simp; rfl)); intro gb hg w1 hbox hb; have HB := Aside0.mk hb; have b0 : w1.cell? ⟨gb, 0, none⟩ = some (.int .i64 4) := blk_cell hbox 0; have b3 : w1.cell? ⟨gb, 3, none⟩ = some (.string s) := blk_cell hbox 3; have b4 : w1.cell? ⟨gb, 4, none⟩ = some (.slice A l.length c) := blk_cell hbox 4; have K := Aside0.mk hbox; clear hg hbox hb)
    | ((with_reducible refine gate_dst (N := 3) rfl ?_); refine box_event ?hg (N := 3) ?hd (cs := #[.int .i64 m]) (t := 3) ?hr ?_; (case hd => rfl); (case hg => rfl); (case hr => first | (go_simp; done) | (go_simp; rfl)); intro gm hg w2 hbox hb; have m0 : w2.cell? ⟨gm, 0, none⟩ = some (.int .i64 m) := blk_cell hbox 0; clear b0 b3 b4; have KB2 := Aside0.mk (blk_below K.out hb); have HB := Aside0.mk (below_step HB.out hb); have b0 : w2.cell? ⟨gb, 0, none⟩ = some (.int .i64 4) := blk_cell KB2.out 0; have b3 : w2.cell? ⟨gb, 3, none⟩ = some (.string s) := blk_cell KB2.out 3; have b4 : w2.cell? ⟨gb, 4, none⟩ = some (.slice A l.length c) := blk_cell KB2.out 4; clear hg hbox hb))
  go_ret
  exact ⟨rfl, HB.out⟩

set_option maxHeartbeats 8000000 in
set_option maxRecDepth 100000 in
theorem great_4b (i : Int) (f : Nat) (s : ByteArray) (l : List Val) (A : Option Addr) (c : Nat) (m : Int) (h : ¬ 64 < l.length) (hm : m < 1) (W : World) (ok : Nat → Prop) (hR : RV W ok (.mk 4 i f s l) #[.int .i64 4, .int .i64 i, .float .f64 f, .string s, .slice A l.length c]) :
    Calls Tryz.prog 40 #[.agg #[.int .i64 4, .int .i64 i, .float .f64 f, .string s, .slice A l.length c], .int .i64 m] W fun e w' => e = .returned (.bool true) ∧ Below W.heap.size W w' := by
  have HR := Aside0.mk hR
  have h' : ¬ (64 : Int) < (l.length : Int) := by omega
  clear h
  clear hR
  go_enter Tryz.func40, Tryz.ntmps40
  go_wp2_with (first
    | ((with_reducible refine gate_dst (N := 2) rfl ?_); refine box_event ?hg (N := 2) ?hd (cs := #[.int .i64 4, .int .i64 i, .float .f64 f, .string s, .slice A l.length c]) (t := 25) ?hr ?_; (case hd => rfl); (case hg => rfl); (case hr => first | (go_simp; done) | (go_simp; rfl)); intro gb hg w1 hbox hb; have HB := Aside0.mk hb; have b0 : w1.cell? ⟨gb, 0, none⟩ = some (.int .i64 4) := blk_cell hbox 0; have b3 : w1.cell? ⟨gb, 3, none⟩ = some (.string s) := blk_cell hbox 3; have b4 : w1.cell? ⟨gb, 4, none⟩ = some (.slice A l.length c) := blk_cell hbox 4; have K := Aside0.mk hbox; clear hg hbox hb)
    | ((with_reducible refine gate_dst (N := 3) rfl ?_); refine box_event ?hg (N := 3) ?hd (cs := #[.int .i64 m]) (t := 3) ?hr ?_; (case hd => rfl); (case hg => rfl); (case hr => first | (go_simp; done) | (go_simp; rfl)); intro gm hg w2 hbox hb; have m0 : w2.cell? ⟨gm, 0, none⟩ = some (.int .i64 m) := blk_cell hbox 0; clear b0 b3 b4; have KB2 := Aside0.mk (blk_below K.out hb); have HB := Aside0.mk (below_step HB.out hb); have b0 : w2.cell? ⟨gb, 0, none⟩ = some (.int .i64 4) := blk_cell KB2.out 0; have b3 : w2.cell? ⟨gb, 3, none⟩ = some (.string s) := blk_cell KB2.out 3; have b4 : w2.cell? ⟨gb, 4, none⟩ = some (.slice A l.length c) := blk_cell KB2.out 4; clear hg hbox hb))
  go_ret
  exact ⟨rfl, HB.out⟩

set_option maxHeartbeats 8000000 in
set_option maxRecDepth 100000 in
theorem great_4c (i : Int) (f : Nat) (s : ByteArray) (l : List Val) (A : Option Addr) (c : Nat) (m : Int) (h : ¬ 64 < l.length) (hm : ¬ m < 1) (hE : ∀ (j : Nat) (hj : j < l.length), GreatC l[j]) (W : World) (ok : Nat → Prop) (hR : RV W ok (.mk 4 i f s l) #[.int .i64 4, .int .i64 i, .float .f64 f, .string s, .slice A l.length c]) :
    Calls Tryz.prog 40 #[.agg #[.int .i64 4, .int .i64 i, .float .f64 f, .string s, .slice A l.length c], .int .i64 m] W fun e w' => e = .returned (.bool (greats l (wrap64 (m - 1)))) ∧ Below W.heap.size W w' := by
  have HR := Aside0.mk hR
  have h' : ¬ (64 : Int) < (l.length : Int) := by omega
  clear h
  have hmf : ∀ (fn : Fn) (first cap : Array Value) (w : World), (Instr.makeFunc fn first cap).run Tryz.prog w = .ok (.func fn first cap) w := fun _ _ _ _ => rfl
  have h57 := Aside0.mk (fun (W' : World) (hb : Below W.heap.size W W') (gm : Nat) (hm : W'.cell? ⟨gm, 0, none⟩ = some (.int .i64 m)) => contains57g 4 i f s l hE W' ok _ _ _ _ A c m gm hm (hR.kept hb))
  clear hE
  clear hR
  go_enter Tryz.func40, Tryz.ntmps40
  go_wp2_with (first
    | ((with_reducible refine gate_dst (N := 2) rfl ?_); refine box_event ?hg (N := 2) ?hd (cs := #[.int .i64 4, .int .i64 i, .float .f64 f, .string s, .slice A l.length c]) (t := 25) ?hr ?_; (case hd => rfl); (case hg => rfl); (case hr => first | (go_simp; done) | (go_simp; rfl)); intro gb hg w1 hbox hb; have HB := Aside0.mk hb; have b0 : w1.cell? ⟨gb, 0, none⟩ = some (.int .i64 4) := blk_cell hbox 0; have b3 : w1.cell? ⟨gb, 3, none⟩ = some (.string s) := blk_cell hbox 3; have b4 : w1.cell? ⟨gb, 4, none⟩ = some (.slice A l.length c) := blk_cell hbox 4; have K := Aside0.mk hbox; clear hg hbox hb)
    | ((with_reducible refine gate_dst (N := 3) rfl ?_); refine box_event ?hg (N := 3) ?hd (cs := #[.int .i64 m]) (t := 3) ?hr ?_; (case hd => rfl); (case hg => rfl); (case hr => first | (go_simp; done) | (go_simp; rfl)); intro gm hg w2 hbox hb; have m0 : w2.cell? ⟨gm, 0, none⟩ = some (.int .i64 m) := blk_cell hbox 0; clear b0 b3 b4; have KB2 := Aside0.mk (blk_below K.out hb); have HB := Aside0.mk (below_step HB.out hb); have b0 : w2.cell? ⟨gb, 0, none⟩ = some (.int .i64 4) := blk_cell KB2.out 0; have b3 : w2.cell? ⟨gb, 3, none⟩ = some (.string s) := blk_cell KB2.out 3; have b4 : w2.cell? ⟨gb, 4, none⟩ = some (.slice A l.length c) := blk_cell KB2.out 4; clear hg hbox hb)
    | (go_at_call 57; refine (h57.out _ HB.out _ m0).mono ?_; rintro e w3 ⟨rfl, hb⟩; have HB := Aside0.mk (below_step HB.out hb); clear hb))
  go_ret
  exact ⟨rfl, HB.out⟩

set_option maxHeartbeats 8000000 in
set_option maxRecDepth 100000 in
theorem great_no (k i : Int) (f : Nat) (s : ByteArray) (l : List Val) (A : Option Addr) (c : Nat) (m : Int) (h3 : k ≠ 3) (h4 : k ≠ 4) (W : World) (ok : Nat → Prop) (hR : RV W ok (.mk k i f s l) #[.int .i64 k, .int .i64 i, .float .f64 f, .string s, .slice A l.length c]) :
    Calls Tryz.prog 40 #[.agg #[.int .i64 k, .int .i64 i, .float .f64 f, .string s, .slice A l.length c], .int .i64 m] W fun e w' => e = .returned (.bool false) ∧ Below W.heap.size W w' := by
  have HR := Aside0.mk hR
  have e3 : (k == 3) = false := beq_eq_false_iff_ne.2 h3
  have e4 : (k == 4) = false := beq_eq_false_iff_ne.2 h4
  clear h3 h4
  clear hR
  go_enter Tryz.func40, Tryz.ntmps40
  go_wp2_with (first
    | ((with_reducible refine gate_dst (N := 2) rfl ?_); refine box_event ?hg (N := 2) ?hd (cs := #[.int .i64 k, .int .i64 i, .float .f64 f, .string s, .slice A l.length c]) (t := 25) ?hr ?_; (case hd => rfl); (case hg => rfl); (case hr => first | (go_simp; done) | (go_simp; rfl)); intro gb hg w1 hbox hb; have HB := Aside0.mk hb; have b0 : w1.cell? ⟨gb, 0, none⟩ = some (.int .i64 k) := blk_cell hbox 0; have b3 : w1.cell? ⟨gb, 3, none⟩ = some (.string s) := blk_cell hbox 3; have b4 : w1.cell? ⟨gb, 4, none⟩ = some (.slice A l.length c) := blk_cell hbox 4; have K := Aside0.mk hbox; clear hg hbox hb)
    | ((with_reducible refine gate_dst (N := 3) rfl ?_); refine box_event ?hg (N := 3) ?hd (cs := #[.int .i64 m]) (t := 3) ?hr ?_; (case hd => rfl); (case hg => rfl); (case hr => first | (go_simp; done) | (go_simp; rfl)); intro gm hg w2 hbox hb; have m0 : w2.cell? ⟨gm, 0, none⟩ = some (.int .i64 m) := blk_cell hbox 0; clear b0 b3 b4; have KB2 := Aside0.mk (blk_below K.out hb); have HB := Aside0.mk (below_step HB.out hb); have b0 : w2.cell? ⟨gb, 0, none⟩ = some (.int .i64 k) := blk_cell KB2.out 0; have b3 : w2.cell? ⟨gb, 3, none⟩ = some (.string s) := blk_cell KB2.out 3; have b4 : w2.cell? ⟨gb, 4, none⟩ = some (.slice A l.length c) := blk_cell KB2.out 4; clear hg hbox hb))
  go_ret
  exact ⟨rfl, HB.out⟩

theorem great40 (v : Val) : GreatC v := by
  induction v using Val.ind with
  | h k i f s l ih =>
    intro W ok cs hR m
    obtain ⟨A, c, rfl, _⟩ := hR.len
    unfold greatV
    by_cases h3 : k = 3
    · subst h3; rw [if_pos rfl]; exact great_3 i f s l A c m W ok hR
    · rw [if_neg h3]
      by_cases h4 : k = 4
      · subst h4; rw [if_pos rfl]
        by_cases h : 64 < l.length
        · rw [if_pos h]; exact great_4a i f s l A c m h W ok hR
        · rw [if_neg h]
          by_cases hm : m < 1
          · rw [if_pos hm]; exact great_4b i f s l A c m h hm W ok hR
          · rw [if_neg hm]; exact great_4c i f s l A c m h hm ih W ok hR
      · rw [if_neg h4]; exact great_no k i f s l A c m h3 h4 W ok hR
end Go.Proofs.YtejfmghjmhiodaaGreatDoor.Vz
