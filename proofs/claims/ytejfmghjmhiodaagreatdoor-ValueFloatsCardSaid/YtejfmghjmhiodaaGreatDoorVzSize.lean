import Derived.Test.YtejfmghjmhiodaaGreatDoorVzOrd1
namespace Go.Proofs.YtejfmghjmhiodaaGreatDoor.Vz
open Go.RowKit Go.Proofs.YtejfmghjmhiodaaGreatDoorW.PrintWords
set_option linter.unusedVariables false
set_option linter.unusedSimpArgs false
attribute [local go_sem] store_float

mutual
def sizeV : Val → Int
  | .mk k _ _ s l => if k = 1 then 9 else if k = 2 then 9 else if k = 3 then 3 + s.size else if k = 4 then sizes 2 l else 1
def sizes : Int → List Val → Int
  | z, [] => z
  | z, x :: r => sizes (wrap64 (z + sizeV x)) r
end
theorem sizes_nil (z : Int) : sizes z [] = z := by rw [sizes]
theorem sizes_cons (z : Int) (x : Val) (r : List Val) : sizes z (x :: r) = sizes (wrap64 (z + sizeV x)) r := by rw [sizes]
theorem dropAt (l : List Val) (j : Nat) (h : j < l.length) : l.drop j = l[j] :: l.drop (j + 1) := (List.getElem_cons_drop (h := h)).symm
def SizeC (v : Val) : Prop := ∀ (W : World) (ok : Nat → Prop) (cs : Array Value), RV W ok v cs → Calls Tryz.prog 18 #[.agg cs] W fun e w' => e = .returned (.int .i64 (sizeV v)) ∧ Below W.heap.size W w'

set_option maxHeartbeats 8000000 in
set_option maxRecDepth 100000 in
theorem size18 (v : Val) : SizeC v := by
  induction v using Val.ind with
  | h k i f s l ih =>
    intro W ok cs hR
    obtain ⟨A, c, rfl, wk, wi, wf, ws, wc, wb⟩ := hR.len
    have HI := Aside0.mk ih
    have HR := Aside0.mk hR
    have HWB := Aside0.mk (show (l.length : Int) * 64 ≤ 140737488351232 ∧ l.length ≤ c by omega)
    have hnn : (0 : Int) ≤ (l.length : Int) := by omega
    have hs1 : wrap64 (2 + (s.size : Int)) = 2 + (s.size : Int) := by unfold wrap64; omega
    have hs2 : wrap64 (1 + (2 + (s.size : Int))) = 3 + (s.size : Int) := by unfold wrap64; omega
    clear ih hR wk wi wf ws wc wb
    unfold sizeV
    obtain ⟨n, hn⟩ : ∃ n, l.length = n := ⟨_, rfl⟩
    have HNL := Aside0.mk hn
    rw [hn] at HR HWB hnn ⊢
    clear hn
    by_cases h1 : k = 1
    · subst h1
      rw [if_pos rfl]
      go_enter Tryz.func18, Tryz.ntmps18
      go_wp2_with (first
        | ((with_reducible refine gate_dst (N := 1) rfl ?_); refine box_event ?hg (N := 1) ?hd (cs := #[.int .i64 1, .int .i64 i, .float .f64 f, .string s, .slice A n c]) (t := 25) ?hr ?_; (case hd => rfl); (case hg => rfl); (case hr => first | (go_simp; done) | (go_simp; rfl)); intro gb hg w1 hbox hb; have HB := Aside0.mk hb; have KB := Aside0.mk hbox; have b0 : w1.cell? ⟨gb, 0, none⟩ = some (.int .i64 1) := blk_cell hbox 0; clear hg hbox hb))
      go_ret
      exact ⟨rfl, HB.out⟩
    · rw [if_neg h1]
      have e1 : (k == 1) = false := beq_eq_false_iff_ne.2 h1
      clear h1
      by_cases h2 : k = 2
      · subst h2
        rw [if_pos rfl]
        go_enter Tryz.func18, Tryz.ntmps18
        go_wp2_with (first
          | ((with_reducible refine gate_dst (N := 1) rfl ?_); refine box_event ?hg (N := 1) ?hd (cs := #[.int .i64 2, .int .i64 i, .float .f64 f, .string s, .slice A n c]) (t := 25) ?hr ?_; (case hd => rfl); (case hg => rfl); (case hr => first | (go_simp; done) | (go_simp; rfl)); intro gb hg w1 hbox hb; have HB := Aside0.mk hb; have KB := Aside0.mk hbox; have b0 : w1.cell? ⟨gb, 0, none⟩ = some (.int .i64 2) := blk_cell hbox 0; clear hg hbox hb))
        go_ret
        exact ⟨rfl, HB.out⟩
      · rw [if_neg h2]
        have e2 : (k == 2) = false := beq_eq_false_iff_ne.2 h2
        clear h2
        by_cases h3 : k = 3
        · subst h3
          rw [if_pos rfl]
          go_enter Tryz.func18, Tryz.ntmps18
          go_wp2_with (first
            | ((with_reducible refine gate_dst (N := 1) rfl ?_); refine box_event ?hg (N := 1) ?hd (cs := #[.int .i64 3, .int .i64 i, .float .f64 f, .string s, .slice A n c]) (t := 25) ?hr ?_; (case hd => rfl); (case hg => rfl); (case hr => first | (go_simp; done) | (go_simp; rfl)); intro gb hg w1 hbox hb; have HB := Aside0.mk hb; have KB := Aside0.mk hbox; have b0 : w1.cell? ⟨gb, 0, none⟩ = some (.int .i64 3) := blk_cell hbox 0; have b3 : w1.cell? ⟨gb, 3, none⟩ = some (.string s) := blk_cell hbox 3; clear hg hbox hb))
          go_ret
          exact ⟨by show Ending.returned (.int .i64 (wrap64 (1 + (2 + (s.size : Int))))) = _; rw [hs2], HB.out⟩
        · rw [if_neg h3]
          have e3 : (k == 3) = false := beq_eq_false_iff_ne.2 h3
          clear h3
          by_cases h4 : k = 4
          · subst h4
            rw [if_pos rfl]
            obtain ⟨O, hO⟩ : ∃ O, sizes 2 l = O := ⟨_, rfl⟩
            rw [hO]
            have HO := Aside0.mk hO
            clear hO hs1 hs2
            go_enter Tryz.func18, Tryz.ntmps18
            go_upto_region 10 with (first
              | ((with_reducible refine gate_dst (N := 1) rfl ?_); refine box_event ?hg (N := 1) ?hd (cs := #[.int .i64 4, .int .i64 i, .float .f64 f, .string s, .slice A n c]) (t := 25) ?hr ?_; (case hd => rfl); (case hg => rfl); (case hr => first | (go_simp; done) | (go_simp; rfl)); intro gb hg w1 hbox hb; have HB := Aside0.mk hb; have KB := Aside0.mk hbox; have b0 : w1.cell? ⟨gb, 0, none⟩ = some (.int .i64 4) := blk_cell hbox 0; clear hg hbox hb))
            clear b0
            have b4 : w1.cell? ⟨gb, 4, none⟩ = some (.slice A n c) := blk_cell KB.out 4
            go_wp2
            clear b4
            go_loopw [3, 28] (fun sx ix wr => ∃ (j : Nat) (z : Int), j ≤ n ∧ sx = .int .i64 z ∧ ix = .int .i64 (j : Int) ∧ Aside0 (Below W.heap.size W wr) ∧ Aside0 (sizes z (l.drop j) = O)) (fun _ ix _ => n - (intOf ix).toNat)
            case atStart => exact ⟨0, _, by omega, rfl, rfl, HB, HO⟩
            case round =>
              obtain ⟨j, z, hj, rfl, rfl, HB', HOj⟩ := hrel
              by_cases hlt : j < n
              · have hji : (j : Int) < (n : Int) := by omega
                have hj0 : (0 : Int) ≤ (j : Int) := by omega
                have hjl : j < l.length := by rw [HNL.out]; exact hlt
                obtain ⟨g, off, k', i', f', s', A', n', c', rfl, hg1, hg2, hsub, p0, p1, p2, p3, p4⟩ := (HR.out.kept HB'.out).elem j hjl
                have hih := HI.out j hjl
                have HOj2 := Aside0.mk HOj.out
                rw [dropAt l j hjl, sizes_cons] at HOj2
                generalize l[j] = x at hsub hih HOj2
                have HSub := Aside0.mk hsub
                have HIx := Aside0.mk hih
                have hwk : IntKind.i64.wrap ((j : Int) + 1) = ((j + 1 : Nat) : Int) := by have := HWB.out; rw [IntKind.wrap_i64]; omega
                clear hsub hih hjl hg1 hg2
                go_wp2_with (first
                  | ((with_reducible refine gate_dst (N := 5) rfl ?_); refine box_event ?hg (N := 5) ?hd (cs := #[.int .i64 0, .int .i64 0, .float .f64 0, .string ⟨#[]⟩, .slice none 0 0]) (t := 25) ?hr ?_; (case hd => rfl); (case hg => rfl); (case hr => first | (go_simp; done) | (go_simp; rfl)); intro g5 hg w2 hbox hb; have H2 := Aside0.mk hb; have K5 := Aside0.mk hbox; have HG5 := Aside0.mk (show wr.heap.size ≤ g5 by omega); clear hg hbox hb)
                  | ((with_reducible refine gate_store (t := 25) (p := 5) rfl ?_); refine put_eventU ?hg (t := 25) (p := 5) (v := .tmp 31) ?ho ?hN (g := g5) (u := .agg #[.int .i64 k', .int .i64 i', .float .f64 f', .string s', .slice A' n' c']) (cs := #[.int .i64 k', .int .i64 i', .float .f64 f', .string s', .slice A' n' c']) ?hp ?hv K5.out ?hs ?hi ?h1 ?hc ?_; (case hs => rfl); (case hi => kernel_rfl); (case h1 => simp [Value.oneCell']); (case hc => simp [Value.cells]); (case hg => rfl); (case ho => rfl); (case hN => rfl); (case hp => rfl); (case hv => rfl); intro w3 hk hs; have H3 := Aside0.mk (below_keep H2.out HG5.out hs); have HS := Aside0.mk (HSub.out.kept H3.out); have a0 : w3.cell? ⟨g5, 0, none⟩ = some (.int .i64 k') := blk_cell hk 0; have a1 : w3.cell? ⟨g5, 1, none⟩ = some (.int .i64 i') := blk_cell hk 1; have a2 : w3.cell? ⟨g5, 2, none⟩ = some (.float .f64 f') := blk_cell hk 2; have a3 : w3.cell? ⟨g5, 3, none⟩ = some (.string s') := blk_cell hk 3; have a4 : w3.cell? ⟨g5, 4, none⟩ = some (.slice A' n' c') := blk_cell hk 4; clear hk hs)
                  | (go_at_call 18; refine (HIx.out _ _ _ HS.out).mono ?_; rintro e w4 ⟨rfl, hb⟩; have HB2 := Aside0.mk (below_step HB'.out (below_step H3.out hb)); clear hb))
                go_roundw
                case rel => exact ⟨j + 1, _, by omega, rfl, by go_num, HB2, HOj2⟩
                case measure => simp [intOf]; omega
              · obtain rfl : j = n := by omega
                have HOj2 := Aside0.mk HOj.out
                rw [show l.drop j = [] from List.drop_eq_nil_of_le (by rw [HNL.out]; omega), sizes_nil] at HOj2
                go_wp2
                go_ret
                exact ⟨by rw [← HOj2.out]; rfl, HB'.out⟩
          · rw [if_neg h4]
            have e4 : (k == 4) = false := beq_eq_false_iff_ne.2 h4
            clear h4
            go_enter Tryz.func18, Tryz.ntmps18
            go_wp2_with (first
              | ((with_reducible refine gate_dst (N := 1) rfl ?_); refine box_event ?hg (N := 1) ?hd (cs := #[.int .i64 k, .int .i64 i, .float .f64 f, .string s, .slice A n c]) (t := 25) ?hr ?_; (case hd => rfl); (case hg => rfl); (case hr => first | (go_simp; done) | (go_simp; rfl)); intro gb hg w1 hbox hb; have HB := Aside0.mk hb; have KB := Aside0.mk hbox; have b0 : w1.cell? ⟨gb, 0, none⟩ = some (.int .i64 k) := blk_cell hbox 0; clear hg hbox hb))
            go_ret
            exact ⟨rfl, HB.out⟩
end Go.Proofs.YtejfmghjmhiodaaGreatDoor.Vz
