import Derived.Test.YtpalofbphmjijaaDoorGdEach2
namespace Go.Proofs.YtpalofbphmjijaaDoor.Gd
open Go.RowKit Go.Proofs.YtpalofbphmjijaaDoorW.PrintWords
set_option linter.unusedVariables false
set_option linter.unusedSimpArgs false
attribute [local go_sem] store_float

theorem Save.grown {S : Nat → Prop} {w a b : World} {row : Option Nat} (h : Save S w a) (hg : a.grownBy b row) (hr : ∀ k, row = some k → w.heap.size ≤ k) : Save S w b :=
  ⟨hg.os.trans h.os, hg.tape.trans h.tape, hg.output.trans h.output, Nat.le_trans h.size hg.size, fun k hk hs => (hg.block k (Nat.lt_of_lt_of_le hk h.size) (fun e => by have := hr k e.symm; omega)).trans (h.block k hk hs)⟩
theorem own_save {w w' : World} {base e size : Nat} {v : Value} {n : Nat} {xs : List Value} {S : Nat → Prop} (h : w.ownsRow base e size v n xs) (hs : Save S w w') (hS : ∀ k, v.ownBlock = some k → ¬ S k) : w'.ownsRow base e size v n xs := by
  obtain ⟨h1, h2⟩ := h
  refine ⟨h1, ?_⟩
  rcases h2 with h2 | ⟨g, cap, cur, hv, hg, hh, r⟩
  · exact .inl h2
  · exact .inr ⟨g, cap, cur, hv, hg, hs.blk hh (hS g (by rw [hv]; rfl)), r⟩
theorem own_under {w : World} {base e size : Nat} {v : Value} {n : Nat} {xs : List Value} (h : w.ownsRow base e size v n xs) : ∀ k, v.ownBlock = some k → base ≤ k ∧ k < w.heap.size := by
  intro k hk
  rcases h.2 with ⟨hv, _⟩ | ⟨g, cap, cur, hv, hg, hh, _⟩
  · rw [hv] at hk; cases hk
  · rw [hv] at hk
    obtain rfl : g = k := by simpa [Value.ownBlock] using hk
    exact ⟨hg, blk_lt hh⟩
/-- The slice of functions. -/
def Fs (A : Option Addr) (cur : Array Value) (gr : Nat) (W : World) : Prop := ∀ g, A = some ⟨g, 0, none⟩ → W.heap[g]? = some (.cells cur 35 (0, 0)) ∧ g ≠ gr
/-- The loop of guard.Each, at its head. -/
structure Head (w : World) (gr : Nat) (l : List Int) (j : Nat) (v : Value) (W : World) : Prop where
  s : Save (fun k => k = gr) w W
  r : Ran gr (j : Int) W
  o : W.ownsRow w.heap.size 31 5 v j (irows j)
  h : ∀ (i : Nat) (hi : i < l.length), i < j → l[i] < 220
theorem bad_at {l : List Int} {j : Nat} (h : ∀ (i : Nat) (hi : i < l.length), i < j → l[i] < 220) (hj : j < l.length) (hk : 220 ≤ l[j]) : cnt l = j + 1 ∧ tell l = code l[j] := by
  have e : l = l.take j ++ l[j] :: l.drop (j + 1) := by rw [List.getElem_cons_drop]; exact (List.take_append_drop j l).symm
  have hl : (l.take j).length = j := by simp; omega
  have h2 := cnt_at (l := l.take j) (r := l.drop (j + 1)) (k := l[j]) (fun x hx => by
    obtain ⟨i, hi, rfl⟩ := List.getElem_of_mem hx
    rw [List.getElem_take]
    exact h i (by rw [hl] at hi; omega) (by rw [hl] at hi; omega)) hk
  rw [hl, ← e] at h2
  exact h2
theorem good_all {l : List Int} (h : ∀ (i : Nat) (hi : i < l.length), i < l.length → l[i] < 220) : cnt l = l.length ∧ tell l = 0 :=
  cnt_all (fun k hk => by obtain ⟨i, hi, rfl⟩ := List.getElem_of_mem hk; exact h i hi hi)
theorem info31 : (Tryd.prog.info? 31).map (fun i => (i.zero, i.size, i.bytes)) = some (some (.agg #[.int .i64 0, .int .i64 0, .float .f64 0, .string ⟨#[]⟩, .slice none 0 0]), 5, 64) := by kernel_rfl

set_option maxHeartbeats 8000000 in
set_option maxRecDepth 100000 in
/-- guard.Each over such functions. -/
theorem each20 (gr : Nat) (l : List Int) (ts : List Tri) (A : Option Addr) (cap : Nat) (cur : Array Value) (w : World) (hlen : l.length ≤ 30) (hl : ∀ k ∈ l, 0 ≤ k ∧ k ≤ 255)
    (hA : 0 < l.length → ∃ g, A = some ⟨g, 0, none⟩) (hF : Fs A cur gr w) (hcur : ∀ (j : Nat) (h : j < ts.length), cur[j]? = some (fcell ts[j])) (hC : Clos gr l ts w) (hr : Ran gr 0 w) :
    Calls Tryd.prog 20 #[.slice A l.length cap] w fun e w' => (∃ v, e = .returned (.tuple #[v, .int .i64 (tell l)]) ∧ (tell l ≠ 0 → v = .slice none 0 0) ∧ (tell l = 0 → w'.ownsRow w.heap.size 31 5 v l.length (irows l.length))) ∧ Save (fun k => k = gr) w w' ∧ Ran gr (cnt l : Int) w' := by
  have HL := Aside0.mk hl
  have HA0 := Aside0.mk hA
  have HF := Aside0.mk hF
  have HCu := Aside0.mk hcur
  have HC := Aside0.mk hC
  have HR0 := Aside0.mk hr
  have HN := Aside0.mk (show l.length ≤ 30 by omega)
  have HG := Aside0.mk (show gr < w.heap.size from blk_lt hr)
  have hnn : (0 : Int) ≤ (l.length : Int) := by omega
  clear hl hA hF hcur hC hr hlen
  generalize hnl : l.length = n at *
  have HNL := Aside0.mk hnl
  clear hnl
  go_enter Tryd.func20, Tryd.ntmps20
  go_wp2
  go_loopw [4, 11] (fun v i wr => ∃ j : Nat, j ≤ n ∧ i = .int .i64 (j : Int) ∧ Aside0 (Head w gr l j v wr)) (fun _ i _ => n - (intOf i).toNat)
  case atStart => exact ⟨0, by omega, rfl, Aside0.mk ⟨Save.of (Below.refl _ _), HR0.out, ⟨rfl, .inl ⟨rfl, rfl⟩⟩, fun i _ h => by omega⟩⟩
  case round =>
    obtain ⟨j, hj, rfl, HH⟩ := hrel
    by_cases hlt : j < n
    · have hji : (j : Int) < (n : Int) := by omega
      have hj0 : (0 : Int) ≤ (j : Int) := by omega
      obtain ⟨gs, rfl⟩ := HA0.out (by omega)
      have hjl : j < l.length := by rw [HNL.out]; exact hlt
      have hjt : j < ts.length := by rw [HC.out.1]; exact hjl
      have hat := (HC.out.2 j hjl hjt).save HH.out.s
      obtain ⟨ta, tb, tc, htt⟩ : ∃ a b c, ts[j] = ⟨a, b, c⟩ := ⟨_, _, _, rfl⟩
      obtain ⟨k, hk⟩ : ∃ k, l[j] = k := ⟨_, rfl⟩
      rw [htt, hk] at hat
      have HA := Aside0.mk hat
      have HK := Aside0.mk (show 0 ≤ k ∧ k ≤ 255 by rw [← hk]; exact HL.out _ (List.getElem_mem hjl))
      have hf := (HF.out gs rfl)
      have hcell : wr.cell? ⟨gs, j, none⟩ = some (.func (.func 34) #[] #[.pointer (some ⟨ta, 0, none⟩), .pointer (some ⟨tb, 0, none⟩), .pointer (some ⟨tc, 0, none⟩)]) := by
        rw [blk_cell (HH.out.s.blk hf.1 hf.2) j, HCu.out j hjt, htt]; rfl
      have HK2 := Aside0.mk hk
      clear hat htt hk hjt hf
      by_cases hb : 220 ≤ k
      · have HV := Aside0.mk (show valOf k (j : Int) = #[.int .i64 0, .int .i64 0, .float .f64 0, .string ⟨#[]⟩, .slice none 0 0] ∧ code k = code k from ⟨by rw [valOf, if_pos hb], rfl⟩)
        have HBad := Aside0.mk (bad_at HH.out.h hjl (by rw [HK2.out]; exact hb))
        rw [HK2.out] at HBad
        have hcode : (code k != 0) = true := by rw [bne_iff_ne]; exact code_ne hb
        clear hb HK2 hjl
        go_upto_region 6 with (first
          | (go_at_call 11; refine (run_one k (j : Int) (j : Int) gr ta tb tc _ HK.out (by have := HN.out; omega) HA.out.a HA.out.b HA.out.c HH.out.r HA.out.n.2.2).mono ?_; rw [HV.out.1, HV.out.2]; rintro e w1 ⟨rfl, hs, hr⟩; have HS := Aside0.mk (HH.out.s.then hs); have HR := Aside0.mk hr; have HO := Aside0.mk (own_save HH.out.o hs (fun q hq he => by have := (own_under HH.out.o q hq).1; have h2_ := HG.out; have h3_ : q = gr := he; omega)); clear hs hr)
          | ((with_reducible refine gate_dst (N := 7) rfl ?_); refine box_event ?hg (N := 7) ?hd (cs := #[.int .i64 0, .int .i64 0, .float .f64 0, .string ⟨#[]⟩, .slice none 0 0]) (t := 31) ?hr ?_; (case hd => rfl); (case hg => rfl); (case hr => first | (go_simp; done) | (go_simp; rfl)); intro g7 hg w2 hbox hb; have HG7 := Aside0.mk (show w.heap.size ≤ g7 ∧ ∀ q, u4.ownBlock = some q → q < g7 from ⟨by (have h1_ := HS.out.size; omega), fun q hq => by (have h2_ := (own_under HO.out q hq).2; omega)⟩); have HS := Aside0.mk (HS.out.belowed hb); have HO := Aside0.mk (own_save HO.out (Save.of (S := fun _ => False) hb) (fun _ _ x => x.elim)); have HR := Aside0.mk ((blk_below HR.out hb : Ran gr _ w2)); have K7 := Aside0.mk hbox; clear hg hbox hb)
          | ((with_reducible refine gate_store (t := 31) (p := 7) rfl ?_); refine put_eventU ?hg (t := 31) (p := 7) (v := .tmp 18) ?ho ?hN (g := g7) (u := .agg #[.int .i64 0, .int .i64 0, .float .f64 0, .string ⟨#[]⟩, .slice none 0 0]) (cs := #[.int .i64 0, .int .i64 0, .float .f64 0, .string ⟨#[]⟩, .slice none 0 0]) ?hp ?hv K7.out ?hs ?hi ?h1 ?hc ?_; (case hs => rfl); (case hi => kernel_rfl); (case h1 => simp [Value.oneCell']); (case hc => simp [Value.cells]); (case hg => rfl); (case ho => rfl); (case hN => rfl); (case hp => rfl); (case hv => rfl); intro w3 hk hs; have HS := Aside0.mk (HS.out.newer hs HG7.out.1); have HR := Aside0.mk ((hs.blk HR.out (by have h1_ := HG7.out.1; have h2_ := HG.out; omega) : Ran gr _ w3)); have HO := Aside0.mk (own_save HO.out hs (fun q hq he => by have h1_ := HG7.out.2 q hq; have h3_ : q = g7 := he; omega)); have K7 := Aside0.mk hk; clear hk hs))

        go_wp2
        go_ret2
        exact ⟨⟨_, by rw [HBad.out.2]; rfl, fun _ => rfl, fun h => absurd h (by rw [HBad.out.2]; exact bne_iff_ne.1 hcode)⟩, HS.out, by rw [HBad.out.1]; exact HR.out⟩
      · have HV := Aside0.mk (show valOf k (j : Int) = #[.int .i64 1, .int .i64 (j : Int), .float .f64 0, .string ⟨#[]⟩, .slice none 0 0] ∧ code k = 0 from ⟨by rw [valOf, if_neg hb], by rw [code, if_neg (by omega), if_neg hb]⟩)
        have HGood := Aside0.mk (show l[j] < 220 by rw [HK2.out]; omega)
        have hwk : IntKind.i64.wrap ((j : Int) + 1) = ((j + 1 : Nat) : Int) := by have := HN.out; rw [IntKind.wrap_i64]; omega
        clear hb
        go_upto_region 6 with (first
          | (go_at_call 11; refine (run_one k (j : Int) (j : Int) gr ta tb tc _ HK.out (by have := HN.out; omega) HA.out.a HA.out.b HA.out.c HH.out.r HA.out.n.2.2).mono ?_; rw [HV.out.1, HV.out.2]; rintro e w1 ⟨rfl, hs, hr⟩; have HS := Aside0.mk (HH.out.s.then hs); have HR := Aside0.mk hr; have HO := Aside0.mk (own_save HH.out.o hs (fun q hq he => by have := (own_under HH.out.o q hq).1; have h2_ := HG.out; have h3_ : q = gr := he; omega)); clear hs hr)
          | ((with_reducible refine gate_dst (N := 7) rfl ?_); refine box_event ?hg (N := 7) ?hd (cs := #[.int .i64 0, .int .i64 0, .float .f64 0, .string ⟨#[]⟩, .slice none 0 0]) (t := 31) ?hr ?_; (case hd => rfl); (case hg => rfl); (case hr => first | (go_simp; done) | (go_simp; rfl)); intro g7 hg w2 hbox hb; have HG7 := Aside0.mk (show w.heap.size ≤ g7 ∧ ∀ q, u4.ownBlock = some q → q < g7 from ⟨by (have h1_ := HS.out.size; omega), fun q hq => by (have h2_ := (own_under HO.out q hq).2; omega)⟩); have HS := Aside0.mk (HS.out.belowed hb); have HO := Aside0.mk (own_save HO.out (Save.of (S := fun _ => False) hb) (fun _ _ x => x.elim)); have HR := Aside0.mk ((blk_below HR.out hb : Ran gr _ w2)); have K7 := Aside0.mk hbox; clear hg hbox hb)
          | ((with_reducible refine gate_store (t := 31) (p := 7) rfl ?_); refine put_eventU ?hg (t := 31) (p := 7) (v := .tmp 18) ?ho ?hN (g := g7) (u := .agg #[.int .i64 1, .int .i64 (j : Int), .float .f64 0, .string ⟨#[]⟩, .slice none 0 0]) (cs := #[.int .i64 1, .int .i64 (j : Int), .float .f64 0, .string ⟨#[]⟩, .slice none 0 0]) ?hp ?hv K7.out ?hs ?hi ?h1 ?hc ?_; (case hs => rfl); (case hi => kernel_rfl); (case h1 => simp [Value.oneCell']); (case hc => simp [Value.cells]); (case hg => rfl); (case ho => rfl); (case hN => rfl); (case hp => rfl); (case hv => rfl); intro w3 hk hs; have HS := Aside0.mk (HS.out.newer hs HG7.out.1); have HR := Aside0.mk ((hs.blk HR.out (by have h1_ := HG7.out.1; have h2_ := HG.out; omega) : Ran gr _ w3)); have HO := Aside0.mk (own_save HO.out hs (fun q hq he => by have h1_ := HG7.out.2 q hq; have h3_ : q = g7 := he; omega)); have K7 := Aside0.mk hk; clear hk hs))

        have c0 : w3.cell? ⟨g7, 0, none⟩ = some (.int .i64 1) := blk_cell K7.out 0
        have c1 : w3.cell? ⟨g7, 1, none⟩ = some (.int .i64 (j : Int)) := blk_cell K7.out 1
        have c2 : w3.cell? ⟨g7, 2, none⟩ = some (.float .f64 0) := blk_cell K7.out 2
        have c3 : w3.cell? ⟨g7, 3, none⟩ = some (.string ⟨#[]⟩) := blk_cell K7.out 3
        have c4 : w3.cell? ⟨g7, 4, none⟩ = some (.slice none 0 0) := blk_cell K7.out 4
        go_wp2_with (at_builtin; refine print_append_cells (w0 := w3) w.heap.size rfl (.tmp 23) (.tmp 25) 29 31 (.agg #[.int .i64 0, .int .i64 0, .float .f64 0, .string ⟨#[]⟩, .slice none 0 0]) 5 64 rfl Tryd.underlying29 info31 rfl (by decide) (by decide) u4 j (irows j) [.int .i64 1, .int .i64 (j : Int), .float .f64 0, .string ⟨#[]⟩, .slice none 0 0] rfl rfl rfl ?a1 ?aO ?aB ?aS ?aL ?_; (case a1 => simp [Value.oneCell']); (case aO => exact HO.out); (case aB => exact Below.refl _ _); (case aS => exact HS.out.size); (case aL => (have := HN.out; omega)); intro v1 w4 hown hb hg hat; have HS := Aside0.mk (HS.out.grown hg (fun q hq => (own_under HO.out q hq).1)); have HR := Aside0.mk (show Ran gr _ w4 from (hg.block gr (blk_lt HR.out) (fun e => by have h1_ := (own_under HO.out gr e.symm).1; have h2_ := HG.out; omega)).trans HR.out); have HO := Aside0.mk (show w4.ownsRow w.heap.size 31 5 v1 (j + 1) (irows (j + 1)) from hown); clear hown hb hg hat)
        go_roundw
        case rel =>
          have R : j + 1 ≤ n ∧ Value.int .i64 ((j + 1 : Nat) : Int) = .int .i64 ((j + 1 : Nat) : Int) ∧ Aside0 (Head w gr l (j + 1) v1 w4) :=
            ⟨by omega, rfl, Aside0.mk ⟨HS.out, HR.out, HO.out, fun i hi hlt => by
              by_cases e : i = j
              · subst e; exact HGood.out
              · exact HH.out.h i hi (by omega)⟩⟩
          first
            | exact ⟨j + 1, R⟩
            | exact ⟨j + 1, R.1, by go_num, R.2.2⟩
            | ((repeat apply Exists.intro); exact ⟨⟨j + 1, R⟩, rfl⟩)
        case measure => simp [intOf]; omega
    · obtain rfl : j = n := by omega
      have HAll := Aside0.mk (good_all (fun i hi _ => HH.out.h i hi (by rw [← HNL.out]; exact hi)))
      go_wp2
      go_ret2
      exact ⟨⟨_, by rw [HAll.out.2]; rfl, fun h => absurd HAll.out.2 h, fun _ => HH.out.o⟩, HH.out.s, by rw [HAll.out.1, HNL.out]; exact HH.out.r⟩
end Go.Proofs.YtpalofbphmjijaaDoor.Gd
