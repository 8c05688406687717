import Derived.Deep.RegionHeld3
import Derived.Test.YtejfmghjmhiodaaGreatDoorVzOrd3
namespace Go.Proofs.YtejfmghjmhiodaaGreatDoor.Vz
open Go.RowKit Go.Proofs.YtejfmghjmhiodaaGreatDoorW.PrintWords
set_option linter.unusedVariables false
set_option linter.unusedSimpArgs false
attribute [local go_sem] store_float

def eqF (f f2 : Nat) : Bool := if feq f f2 = true then true else if isNan f = true then isNan f2 else false
mutual
def equalV : Val → Val → Bool
  | .mk k i f s l, .mk k2 i2 f2 s2 l2 => if kindV k = kindV k2 then (if kindV k = 1 then decide (i = i2) else if kindV k = 2 then eqF f f2 else if kindV k = 3 then (s == s2) else if kindV k = 4 then equals l l2 else true) else false
def equals : List Val → List Val → Bool
  | [], [] => true
  | [], _ :: _ => false
  | _ :: _, [] => false
  | x :: r, y :: t => if equalV x y = true then equals r t else false
end
theorem equals_cons (x y : Val) (r t : List Val) : equals (x :: r) (y :: t) = if equalV x y = true then equals r t else false := rfl
theorem equals_len : ∀ (l l2 : List Val), l.length ≠ l2.length → equals l l2 = false
  | [], [], h => absurd rfl h
  | [], _ :: _, _ => rfl
  | _ :: _, [], _ => rfl
  | x :: r, y :: t, h => by
    rw [equals_cons, equals_len r t (fun e => h (by simp [e]))]
    split <;> rfl
def EqC (v : Val) : Prop := ∀ (W : World) (ok : Nat → Prop) (cs : Array Value), RV W ok v cs → ∀ (v2 : Val) (ok2 : Nat → Prop) (cs2 : Array Value), RV W ok2 v2 cs2 → Calls Tryz.prog 13 #[.agg cs, .agg cs2] W fun e w' => e = .returned (.bool (equalV v v2)) ∧ Below W.heap.size W w'
theorem enters13 (args : Array Value) (W : World) : (callFunc 13 args).run Tryz.prog W = .ok (.enter 13 args) W := by kernel_rfl

set_option maxHeartbeats 8000000 in
set_option maxRecDepth 100000 in
theorem equal37 (k i : Int) (f : Nat) (s : ByteArray) (l : List Val) (kb ib : Int) (fb : Nat) (sb : ByteArray) (l2 : List Val) (hE : ∀ (j : Nat) (hj : j < l.length), EqC l[j]) (W : World) (ok ok2 : Nat → Prop) (x0 x1 x2 x3 y0 y1 y2 y3 : Value) (A A2 : Option Addr) (c c2 : Nat)
    (hR : RV W ok (.mk k i f s l) #[x0, x1, x2, x3, .slice A l.length c]) (hR2 : RV W ok2 (.mk kb ib fb sb l2) #[y0, y1, y2, y3, .slice A2 l2.length c2]) :
    Calls Tryz.prog 37 #[.slice A l.length c, .slice A2 l2.length c2, .func (.func 13) #[] #[]] W fun e w' => e = .returned (.bool (equals l l2)) ∧ Below W.heap.size W w' := by
  obtain ⟨A0, c0, e0, wk, wi, wf, ws, wc, wb⟩ := hR.len
  by_cases hlen : l.length = l2.length
  rotate_left
  · rw [equals_len l l2 hlen]
    have h1 : ((l.length : Int) != (l2.length : Int)) = true := bne_iff_ne.2 (by omega)
    clear hE hR hR2 wk wi wf ws wc wb e0
    generalize l.length = n at *
    generalize l2.length = m at *
    go_enter Tryz.func37, Tryz.ntmps37
    go_wp2
    go_ret
    exact ⟨rfl, Below.refl _ _⟩
  have HI := Aside0.mk hE
  have HR := Aside0.mk hR
  have HR2 := Aside0.mk hR2
  have HWB := Aside0.mk (show (l.length : Int) * 64 ≤ 140737488351232 by omega)
  have hnn : (0 : Int) ≤ (l.length : Int) := by omega
  have hent := enters13
  clear hE hR hR2 wk wi wf ws wc wb e0
  obtain ⟨n, hn⟩ : ∃ n, l.length = n := ⟨_, rfl⟩
  have hm : l2.length = n := by rw [← hlen, hn]
  have HNL := Aside0.mk hn
  have HML := Aside0.mk hm
  rw [hn] at HR HWB hnn ⊢
  rw [hm] at HR2 ⊢
  clear hn hm hlen
  obtain ⟨O, hO⟩ : ∃ O, equals l l2 = O := ⟨_, rfl⟩
  rw [hO]
  have HO := Aside0.mk hO
  clear hO
  go_enter Tryz.func37, Tryz.ntmps37
  go_wp2
  go_loopw [17] (fun ix wr => ∃ j : Nat, j ≤ n ∧ ix = .int .i64 (j : Int) ∧ Aside0 (Below W.heap.size W wr) ∧ Aside0 (equals (l.drop j) (l2.drop j) = O)) (fun ix _ => n - (intOf ix).toNat)
  case atStart => exact ⟨0, by omega, rfl, Aside0.mk (Below.refl _ _), HO⟩
  case round =>
    obtain ⟨j, hj, rfl, HB', HOj⟩ := hrel
    by_cases hlt : j < n
    · have hji : (j : Int) < (n : Int) := by omega
      have hj0 : (0 : Int) ≤ (j : Int) := by omega
      have hjl : j < l.length := by rw [HNL.out]; exact hlt
      obtain ⟨g, off, k', i', f', s', A', n', c', rfl, hg1, hg2, hsub, p0, p1, p2, p3, p4⟩ := (HR.out.kept HB'.out).elem j hjl
      have hih := HI.out j hjl
      have hd := drop_at l j hjl
      obtain ⟨x, hx⟩ : ∃ x, l[j] = x := ⟨_, rfl⟩
      rw [hx] at hsub hih hd
      have HSub := Aside0.mk hsub
      have HIx := Aside0.mk hih
      have HD := Aside0.mk hd
      have hwk : IntKind.i64.wrap ((j : Int) + 1) = ((j + 1 : Nat) : Int) := by have := HWB.out; rw [IntKind.wrap_i64]; omega
      clear hsub hih hd hx hjl hg1 hg2
      have hjl2 : j < l2.length := by rw [HML.out]; exact hlt
      obtain ⟨g2, off2, k2, i2, f2, s2, A2', n2', c2', rfl, _, _, hsub2, r0, r1, r2, r3, r4⟩ := (HR2.out.kept HB'.out).elem j hjl2
      have hd2 := drop_at l2 j hjl2
      obtain ⟨y, hy⟩ : ∃ y, l2[j] = y := ⟨_, rfl⟩
      rw [hy] at hsub2 hd2
      have HSub2 := Aside0.mk hsub2
      have HD2 := Aside0.mk hd2
      clear hsub2 hd2 hy hjl2
      obtain ⟨o, ho⟩ : ∃ o, equalV x y = o := ⟨_, rfl⟩
      have HOo := Aside0.mk ho
      clear ho
      have HOj2 := Aside0.mk HOj.out
      rw [HD.out, HD2.out, equals_cons, HOo.out] at HOj2
      go_upto_region 6 with (first
        | ((with_reducible refine gate_dst (N := 8) rfl ?_); refine box_event ?hg (N := 8) ?hd (cs := #[.int .i64 0, .int .i64 0, .float .f64 0, .string ⟨#[]⟩, .slice none 0 0]) (t := 25) ?hr ?_; (case hd => rfl); (case hg => rfl); (case hr => first | (go_simp; done) | (go_simp; rfl)); intro g8 hg w2 hbox hb; have H2 := Aside0.mk hb; have K8 := Aside0.mk hbox; have P := Aside0.mk (cell5_below ⟨p0, p1, p2, p3, p4⟩ hb); have R2 := Aside0.mk (cell5_below ⟨r0, r1, r2, r3, r4⟩ hb); have HG8 := Aside0.mk (show wr.heap.size ≤ g8 by omega); clear hg hbox hb)
        | ((with_reducible refine gate_store (t := 25) (p := 8) rfl ?_); refine put_eventU ?hg (t := 25) (p := 8) (v := .tmp 21) ?ho ?hN (g := g8) (u := .agg #[.int .i64 k', .int .i64 i', .float .f64 f', .string s', .slice A' n' c']) (cs := #[.int .i64 k', .int .i64 i', .float .f64 f', .string s', .slice A' n' c']) ?hp ?hv K8.out ?hs ?hi ?h1 ?hc ?_; (case hs => rfl); (case hi => kernel_rfl); (case h1 => simp [Value.oneCell']); (case hc => simp [Value.cells]); (case hg => rfl); (case ho => rfl); (case hN => rfl); (case hp => rfl); (case hv => rfl); intro w3 hk hs; have H3 := Aside0.mk (below_keep H2.out HG8.out hs); have K8 := Aside0.mk hk; have R3 := Aside0.mk (cell5_below ⟨r0, r1, r2, r3, r4⟩ H3.out); clear hk hs))
      clear p0 p1 p2 p3 p4 r0 r1 r2 r3 r4
      have r0 := R3.out.1
      have r1 := R3.out.2.1
      have r2 := R3.out.2.2.1
      have r3 := R3.out.2.2.2.1
      have r4 := R3.out.2.2.2.2
      go_upto_region 7 with (first
        | ((with_reducible refine gate_dst (N := 9) rfl ?_); refine box_event ?hg (N := 9) ?hd (cs := #[.int .i64 0, .int .i64 0, .float .f64 0, .string ⟨#[]⟩, .slice none 0 0]) (t := 25) ?hr ?_; (case hd => rfl); (case hg => rfl); (case hr => first | (go_simp; done) | (go_simp; rfl)); intro g9 hg w4 hbox hb; have HG9 := Aside0.mk (show wr.heap.size ≤ g9 ∧ g8 ≠ g9 by (have h1_ := H3.out.size; have h2_ := blk_lt K8.out; omega)); have R4 := Aside0.mk (cell5_below R3.out hb); have H4 := Aside0.mk (below_step H3.out hb); have K8 := Aside0.mk (blk_below K8.out hb); have K9 := Aside0.mk hbox; clear r0 r1 r2 r3 r4; have r0 := R4.out.1; have r1 := R4.out.2.1; have r2 := R4.out.2.2.1; have r3 := R4.out.2.2.2.1; have r4 := R4.out.2.2.2.2; clear hg hbox hb)
        | ((with_reducible refine gate_store (t := 25) (p := 9) rfl ?_); refine put_eventU ?hg (t := 25) (p := 9) (v := .tmp 25) ?ho ?hN (g := g9) (u := .agg #[.int .i64 k2, .int .i64 i2, .float .f64 f2, .string s2, .slice A2' n2' c2']) (cs := #[.int .i64 k2, .int .i64 i2, .float .f64 f2, .string s2, .slice A2' n2' c2']) ?hp ?hv K9.out ?hs ?hi ?h1 ?hc ?_; (case hs => rfl); (case hi => kernel_rfl); (case h1 => simp [Value.oneCell']); (case hc => simp [Value.cells]); (case hg => rfl); (case ho => rfl); (case hN => rfl); (case hp => rfl); (case hv => rfl); intro w5 hk hs; have H5 := Aside0.mk (below_keep H4.out HG9.out.1 hs); have K8 := Aside0.mk (hs.blk K8.out HG9.out.2); have K9 := Aside0.mk hk; clear hk hs))
      clear r0 r1 r2 r3 r4
      have a0 : w5.cell? ⟨g8, 0, none⟩ = some (.int .i64 k') := blk_cell K8.out 0
      have a1 : w5.cell? ⟨g8, 1, none⟩ = some (.int .i64 i') := blk_cell K8.out 1
      have a2 : w5.cell? ⟨g8, 2, none⟩ = some (.float .f64 f') := blk_cell K8.out 2
      have a3 : w5.cell? ⟨g8, 3, none⟩ = some (.string s') := blk_cell K8.out 3
      have a4 : w5.cell? ⟨g8, 4, none⟩ = some (.slice A' n' c') := blk_cell K8.out 4
      have b0 : w5.cell? ⟨g9, 0, none⟩ = some (.int .i64 k2) := blk_cell K9.out 0
      have b1 : w5.cell? ⟨g9, 1, none⟩ = some (.int .i64 i2) := blk_cell K9.out 1
      have b2 : w5.cell? ⟨g9, 2, none⟩ = some (.float .f64 f2) := blk_cell K9.out 2
      have b3 : w5.cell? ⟨g9, 3, none⟩ = some (.string s2) := blk_cell K9.out 3
      have b4 : w5.cell? ⟨g9, 4, none⟩ = some (.slice A2' n2' c2') := blk_cell K9.out 4
      have HS1 := Aside0.mk (HSub.out.kept H5.out)
      have HS2 := Aside0.mk (HSub2.out.kept H5.out)
      cases o
      · have HN := Aside0.mk (show false = O by have := HOj2.out; rwa [if_neg (by decide)] at this)
        go_wp2_with (first
          | (go_at_call 13; refine (HIx.out _ _ _ HS1.out _ _ _ HS2.out).mono ?_; rw [HOo.out]; rintro e w6 ⟨rfl, hb⟩; have H6 := Aside0.mk (below_step HB'.out (below_step H5.out hb)); clear hb))
        go_ret
        exact ⟨by rw [← HN.out]; rfl, H6.out⟩
      · have HN := Aside0.mk (show equals (l.drop (j + 1)) (l2.drop (j + 1)) = O by have := HOj2.out; rwa [if_pos rfl] at this)
        go_wp2_with (first
          | (go_at_call 13; refine (HIx.out _ _ _ HS1.out _ _ _ HS2.out).mono ?_; rw [HOo.out]; rintro e w6 ⟨rfl, hb⟩; have H6 := Aside0.mk (below_step HB'.out (below_step H5.out hb)); clear hb))
        go_roundw
        case rel => exact ⟨j + 1, by omega, by go_num, H6, HN⟩
        case measure => simp [intOf]; omega
    · obtain rfl : j = n := by omega
      have HOj2 := Aside0.mk HOj.out
      rw [show l.drop j = [] from List.drop_eq_nil_of_le (by rw [HNL.out]; omega), show l2.drop j = [] from List.drop_eq_nil_of_le (by rw [HML.out]; omega)] at HOj2
      go_wp2
      go_ret
      exact ⟨by rw [← HOj2.out]; rfl, HB'.out⟩
end Go.Proofs.YtejfmghjmhiodaaGreatDoor.Vz
