import Derived.Test.YtpalofbphmjijaaDoorGdEach3
namespace Go.Proofs.YtpalofbphmjijaaDoor.Gd
open Go.RowKit Go.Proofs.YtpalofbphmjijaaDoorW.PrintWords
set_option linter.unusedVariables false
set_option linter.unusedSimpArgs false
attribute [local go_sem] store_float

theorem info35 : (Tryd.prog.info? 35).map (fun i => (i.zero, i.size, i.bytes)) = some (some .nilFunc, 1, 8) := by kernel_rfl
/-- The first loop of GuardEach, at its head. -/
structure Fill (w : World) (gr : Nat) (l : List Int) (j : Nat) (f : Value) (W : World) : Prop where
  b : Below w.heap.size w W
  r : Ran gr 0 W
  o : ∃ ts, W.ownsRow w.heap.size 35 1 f j (ts.map fcell) ∧ Clos gr (l.take j) ts W ∧ f.ownBlock ≠ some gr
theorem take_snoc (l : List Int) (j : Nat) (h : j < l.length) : l.take (j + 1) = l.take j ++ [l[j]] := by
  rw [List.take_succ_eq_append_getElem h]
theorem own_next {w : World} {e : TypeId} {size base n : Nat} {v : Value} {xs : List Value} (h : w.ownsRow base e size v n xs) (hn : 0 < n) : ∃ g cap, v = .slice (some ⟨g, 0, none⟩) n cap := by
  rcases h.2 with ⟨_, h0⟩ | ⟨g, cap, _, hv, _⟩
  · omega
  · exact ⟨g, cap, hv⟩
theorem own_shape {w : World} {base n : Nat} {v : Value} {ts : List Tri} {gr : Nat} (h : w.ownsRow base 35 1 v n (ts.map fcell)) (hn : v.ownBlock ≠ some gr) :
    ∃ A cap cur, v = .slice A n cap ∧ (0 < n → ∃ g, A = some ⟨g, 0, none⟩) ∧ Fs A cur gr w ∧ (∀ (j : Nat) (h : j < ts.length), cur[j]? = some (fcell ts[j])) := by
  have hl : ts.length = n := by have := h.1; simpa using this
  rcases h.2 with ⟨rfl, h0⟩ | ⟨g, cap, cur, rfl, _, hh, hc, _, hcs, htk⟩
  · exact ⟨none, 0, #[], by rw [h0], fun hp => by omega, (fun g hg => by cases hg), fun j hj => by omega⟩
  · refine ⟨_, cap, cur, rfl, fun _ => ⟨g, rfl⟩, fun g' hg' => ?_, fun j hj => ?_⟩
    · injection hg' with hg'; injection hg' with hg'
      subst hg'
      exact ⟨hh, fun e => hn (by rw [← e]; rfl)⟩
    · have h1 : (cur.toList.take (n * 1))[j]? = (ts.map fcell)[j]? := by rw [htk]
      rw [List.getElem?_take, if_pos (by omega), Array.getElem?_toList, List.getElem?_map, List.getElem?_eq_getElem hj] at h1
      exact h1
theorem own_vals {w : World} {base n : Nat} {v : Value} (h : w.ownsRow base 31 5 v n (irows n)) :
    ∃ A cap, v = .slice A n cap ∧ ∀ (j : Nat), j < n → ∃ g, A = some ⟨g, 0, none⟩ ∧ w.cell? ⟨g, j * 5 + 1, none⟩ = some (.int .i64 (j : Int)) := by
  rcases h.2 with ⟨rfl, h0⟩ | ⟨g, cap, cur, rfl, _, hh, hc, _, hcs, htk⟩
  · exact ⟨none, 0, by rw [h0], fun j hj => by omega⟩
  · exact ⟨_, cap, rfl, fun j hj => ⟨g, rfl, by rw [World.ownsRow.cellAt h _ (by omega)]; exact irows_get hj⟩⟩
theorem Fill.snoc {w v1 v2 : World} {gr j : Nat} {l : List Int} {u f1 : Value} {ts : List Tri} {t : Tri} {k : Int} (hb : Below w.heap.size w v1) (hr : Ran gr 0 v1) (ho : v1.ownsRow w.heap.size 35 1 u j (ts.map fcell)) (hc : Clos gr (l.take j) ts v1) (hn : u.ownBlock ≠ some gr)
    (ha : At gr k (j : Int) t v1) (ht : l.take (j + 1) = l.take j ++ [k]) (htl : (l.take j).length = j) (hown : v2.ownsRow w.heap.size 35 1 f1 (j + 1) (ts.map fcell ++ [fcell t])) (hg : v1.grownBy v2 u.ownBlock) (hat : f1.ownBlock = u.ownBlock ∨ ∃ b, f1.ownBlock = some b ∧ v1.heap.size ≤ b) : Fill w gr l (j + 1) f1 v2 := by
  have hs : Save (fun q => some q = u.ownBlock) v1 v2 := ⟨hg.os, hg.tape, hg.output, hg.size, fun q hq hn => hg.block q hq hn⟩
  have hf : ∀ (q t : Nat) (cs : Array Value), v1.heap[q]? = some (.cells cs t (0, 0)) → t ≠ 35 → v2.heap[q]? = some (.cells cs t (0, 0)) := fun q t cs hq ht => hs.blk hq (own_ne ho hq (fun e => ht e.symm))
  have hA : ∀ {k : Int} {i : Int} {t : Tri}, At gr k i t v1 → At gr k i t v2 := fun h => ⟨hf _ _ _ h.a (by decide), hf _ _ _ h.b (by decide), hf _ _ _ h.c (by decide), h.n⟩
  refine ⟨pw_below_grown hb u.ownBlock hb.size hg (fun q hq => (own_under ho q hq).1), hf _ _ _ hr (by decide), ts ++ [t], ?_, ?_, ?_⟩
  · rw [List.map_append]; exact hown
  · rw [ht]
    refine Clos.snoc ⟨hc.1, fun i h1 h2 => hA (hc.2 i h1 h2)⟩ ?_
    rw [htl]; exact hA ha
  · rcases hat with e | ⟨b, e, hb'⟩
    · rw [e]; exact hn
    · rw [e]; intro h; injection h with h
      have := blk_lt hr; omega

set_option maxHeartbeats 8000000 in
set_option maxRecDepth 100000 in
theorem each6_long (A : Option Addr) (n cap : Nat) (hn : 30 < (n : Int)) (w : World) : Calls Tryd.prog 6 #[.slice A n cap] w fun e w' => e = .returned (.bool true) ∧ Below w.heap.size w w' := by
  go_enter Tryd.func6, Tryd.ntmps6
  go_upto_region 3 with (first
    | (go_at_call 7; refine (known7 _).mono ?_; rintro e w1 ⟨rfl, hb⟩; have HB := Aside0.mk hb; clear hb))
  go_wp2
  go_ret
  exact ⟨rfl, HB.out⟩

set_option maxHeartbeats 8000000 in
set_option maxRecDepth 100000 in
theorem each6 (A : Option Addr) (n cap : Nat) (l : List Int) (hnl : l.length = n) (hlen : n ≤ 30) (hl : ∀ k ∈ l, 0 ≤ k ∧ k ≤ 255) (w : World)
    (hA : 0 < n → ∃ b off, A = some ⟨b, off, none⟩) (hc : ∀ b off, A = some ⟨b, off, none⟩ → 0 < n → b < w.heap.size ∧ ∀ (i : Nat) (hi : i < l.length), w.cell? ⟨b, off + i, none⟩ = some (.int .u8 l[i])) :
    Calls Tryd.prog 6 #[.slice A n cap] w fun e w' => e = .returned (.bool true) ∧ Below w.heap.size w w' := by
  have HL := Aside0.mk hl
  have HA0 := Aside0.mk hA
  have HC := Aside0.mk hc
  have HN := Aside0.mk hlen
  have hn30 : (n : Int) ≤ 30 := by omega
  have hnn : (0 : Int) ≤ (n : Int) := by omega
  clear hl hA hc hlen
  have HNL := Aside0.mk hnl
  clear hnl
  go_enter Tryd.func6, Tryd.ntmps6
  go_upto_region 3 with (first
    | (go_at_call 7; refine (known7 _).mono ?_; rintro e w1 ⟨rfl, hb⟩; have HB := Aside0.mk hb; clear hb))
  go_upto_region 5 with (fail)
  go_upto_region 6 with (first
    | ((with_reducible refine gate_dst (N := 3) rfl ?_); refine box_event ?hg (N := 3) ?hd (cs := #[.int .i64 0]) (t := 3) ?hr ?_; (case hd => rfl); (case hg => rfl); (case hr => first | (go_simp; done) | (go_simp; rfl)); intro gr hg w2 hbox hb; have HG := Aside0.mk (show w.heap.size ≤ gr from (by have := HB.out.size; omega)); have HB := Aside0.mk (below_step HB.out hb); have KR := Aside0.mk hbox; clear hg hbox hb)
    | ((with_reducible refine gate_store (t := 3) (p := 3) rfl ?_); refine put_eventU ?hg (t := 3) (p := 3) (v := .const (.int .i64 0)) ?ho ?hN (g := gr) (u := .int .i64 0) (cs := #[.int .i64 0]) ?hp ?hv KR.out ?hs ?hi ?h1 ?hc ?_; (case hs => rfl); (case hi => kernel_rfl); (case h1 => simp [Value.oneCell']); (case hc => simp [Value.cells]); (case hg => rfl); (case ho => rfl); (case hN => rfl); (case hp => rfl); (case hv => rfl); intro w3 hk hs; have HB := Aside0.mk (below_keep HB.out HG.out hs); have KR := Aside0.mk hk; clear hk hs))
  go_wp2
  go_loopw [4, 5, 6, 7] (fun f want count i wr => ∃ j : Nat, j ≤ n ∧ i = .int .i64 (j : Int) ∧ want = .int .i64 (tell (l.take j)) ∧ count = .int .i64 (cnt (l.take j) : Int) ∧ Aside0 (Fill w gr l j f wr)) (fun _ _ _ i _ => n - (intOf i).toNat)
  case atStart => exact ⟨0, by omega, rfl, rfl, rfl, Aside0.mk ⟨HB.out, KR.out, [], ⟨rfl, .inl ⟨rfl, rfl⟩⟩, Clos.nil _ _, by simp [Value.ownBlock]⟩⟩
  case round =>
    obtain ⟨j, hj, rfl, hw, hcn, HH⟩ := hrel
    obtain ⟨T, hT⟩ : ∃ T, tell (l.take j) = T := ⟨_, rfl⟩
    obtain ⟨C, hC⟩ : ∃ C, cnt (l.take j) = C := ⟨_, rfl⟩
    rw [hT] at hw
    rw [hC] at hcn
    subst hw hcn
    have HTT := Aside0.mk hT
    have HCC := Aside0.mk hC
    clear hT hC
    by_cases hlt : j < n
    · have hji : (j : Int) < (n : Int) := by omega
      have hj0 : (0 : Int) ≤ (j : Int) := by omega
      obtain ⟨b, off, rfl⟩ := HA0.out (by omega)
      have hjl : j < l.length := by rw [HNL.out]; exact hlt
      obtain ⟨k, hk⟩ : ∃ k, l[j] = k := ⟨_, rfl⟩
      have hcell : wr.cell? ⟨b, off + j, none⟩ = some (.int .u8 k) := by
        have h1 := HC.out b off rfl (by omega)
        rw [HH.out.b.cell (p := ⟨b, off + j, none⟩) h1.1, ← hk]
        exact h1.2 j hjl
      have HCe := Aside0.mk (show ∀ W, Below w.heap.size w W → W.cell? ⟨b, off + j, none⟩ = some (.int .u8 k) from fun W hb => by
        have h1 := HC.out b off rfl (by omega)
        rw [hb.cell (p := ⟨b, off + j, none⟩) h1.1, ← hk]
        exact h1.2 j hjl)
      have HK := Aside0.mk (show 0 ≤ k ∧ k ≤ 255 by rw [← hk]; exact HL.out _ (List.getElem_mem hjl))
      have HT := Aside0.mk (show l.take (j + 1) = l.take j ++ [k] by rw [← hk]; exact take_snoc l j hjl)
      have HTL := Aside0.mk (show (l.take j).length = j by simp; omega)
      have hwk : IntKind.i64.wrap ((j : Int) + 1) = ((j + 1 : Nat) : Int) := by have := HN.out; rw [IntKind.wrap_i64]; omega
      have hwq : IntKind.i64.wrap k = k := by have := HK.out; rw [IntKind.wrap_i64]; omega
      have hk0 : 0 ≤ k := HK.out.1
      have hk1 : k ≤ 255 := HK.out.2
      clear hk hjl
      obtain ⟨ts, ho, hcl, hno⟩ := HH.out.o
      have HO := Aside0.mk ho
      have HCl := Aside0.mk hcl
      have HNo := Aside0.mk hno
      have HFB := Aside0.mk HH.out.b
      have HFR := Aside0.mk HH.out.r
      clear ho hcl hno
      have hwb := tell_bd (l.take j) (fun q hq => HL.out q (List.mem_of_mem_take hq))
      have HWB := Aside0.mk hwb
      clear hwb
      have HWD := Aside0.mk (cnt_le (l.take j))
      go_upto_region 12 with (first
        | (go_at_call 19; refine (one19 gr k (j : Int) _).mono ?_; rintro e v1 ⟨hb, ta, tb, tc, rfl, hge, ka, kb, kc⟩; have HAt := Aside0.mk (show At gr k (j : Int) ⟨ta, tb, tc⟩ v1 from ⟨ka, kb, kc, by (have h1_ := blk_lt HFR.out; have hr_ := blk_below HFR.out hb; exact ⟨blk_ne ka hr_ (by decide), blk_ne kb hr_ (by decide), by (show tc ≠ gr; omega)⟩)⟩); have HO := Aside0.mk (own_save HO.out (Save.of (S := fun _ => False) hb) (fun _ _ x => x.elim)); have HCl := Aside0.mk (HCl.out.save (Save.of hb)); have HFB := Aside0.mk (below_step HFB.out hb); have HFR := Aside0.mk ((blk_below HFR.out hb : Ran gr 0 v1)); clear hb hge ka kb kc)
        | (at_builtin; refine print_append (w0 := v1) w.heap.size rfl (.tmp 22) (.tmp 29) 46 35 .nilFunc 8 rfl Tryd.underlying46 info35 rfl (by decide) u4 (ts.map fcell) (fcell ⟨ta, tb, tc⟩) rfl rfl rfl ?aO ?aB ?aS ?aL ?_; (case aO => (rw [List.length_map, HCl.out.1, HTL.out]; exact HO.out)); (case aB => exact Below.refl _ _); (case aS => exact HFB.out.size); (case aL => (rw [List.length_map, HCl.out.1, HTL.out]; have := HN.out; omega)); intro f1 v2 hown hb hg hat; have HF2 := Aside0.mk (Fill.snoc HFB.out HFR.out HO.out HCl.out HNo.out HAt.out HT.out HTL.out (by simpa [HCl.out.1, HTL.out] using hown) hg hat); clear hown hb hg hat))
      clear hcell
      have hcell := HCe.out v2 HF2.out.b
      by_cases hT0 : T = 0
      · subst hT0
        have HX := Aside0.mk (cnt_snoc (k := k) HTT.out)
        rw [← HT.out, HTL.out] at HX
        by_cases h240 : 240 ≤ k
        · have HY := Aside0.mk (show code k = 34 by rw [code, if_pos h240])
          go_wp2
          go_roundw
          case rel =>
            have R : j + 1 ≤ n ∧ Value.int .i64 ((j + 1 : Nat) : Int) = .int .i64 ((j + 1 : Nat) : Int) ∧ Value.int .i64 (34) = .int .i64 (tell (l.take (j + 1))) ∧ Value.int .i64 (((j + 1 : Nat) : Int)) = .int .i64 (cnt (l.take (j + 1)) : Int) ∧ Aside0 (Fill w gr l (j + 1) f1 v2) :=
              ⟨by omega, rfl, by rw [HX.out.2, HY.out], by rw [HX.out.1], HF2⟩
            first
              | exact ⟨j + 1, R⟩
              | exact ⟨j + 1, R.1, by go_num, R.2.2⟩
              | ((repeat apply Exists.intro); exact ⟨⟨j + 1, R⟩, rfl⟩)
          case measure => simp [intOf]; omega
        · by_cases h220 : 220 ≤ k
          · have HY := Aside0.mk (show code k = k by rw [code, if_neg h240, if_pos h220])
            go_wp2
            go_roundw
            case rel =>
              have R : j + 1 ≤ n ∧ Value.int .i64 ((j + 1 : Nat) : Int) = .int .i64 ((j + 1 : Nat) : Int) ∧ Value.int .i64 (k) = .int .i64 (tell (l.take (j + 1))) ∧ Value.int .i64 (((j + 1 : Nat) : Int)) = .int .i64 (cnt (l.take (j + 1)) : Int) ∧ Aside0 (Fill w gr l (j + 1) f1 v2) :=
                ⟨by omega, rfl, by rw [HX.out.2, HY.out], by rw [HX.out.1], HF2⟩
              first
                | exact ⟨j + 1, R⟩
                | exact ⟨j + 1, R.1, by go_num, R.2.2⟩
                | ((repeat apply Exists.intro); exact ⟨⟨j + 1, R⟩, rfl⟩)
            case measure => simp [intOf]; omega
          · have HY := Aside0.mk (show code k = 0 by rw [code, if_neg h240, if_neg h220])
            go_wp2
            go_roundw
            case rel =>
              have R : j + 1 ≤ n ∧ Value.int .i64 ((j + 1 : Nat) : Int) = .int .i64 ((j + 1 : Nat) : Int) ∧ Value.int .i64 (0) = .int .i64 (tell (l.take (j + 1))) ∧ Value.int .i64 (((j + 1 : Nat) : Int)) = .int .i64 (cnt (l.take (j + 1)) : Int) ∧ Aside0 (Fill w gr l (j + 1) f1 v2) :=
                ⟨by omega, rfl, by rw [HX.out.2, HY.out], by rw [HX.out.1], HF2⟩
              first
                | exact ⟨j + 1, R⟩
                | exact ⟨j + 1, R.1, by go_num, R.2.2⟩
                | ((repeat apply Exists.intro); exact ⟨⟨j + 1, R⟩, rfl⟩)
            case measure => simp [intOf]; omega
      · have hT1 : (T == 0) = false := by rw [beq_eq_false_iff_ne]; exact hT0
        have HX := Aside0.mk (cnt_snoc_bad (k := k) (l := l.take j) (by rw [HTT.out]; exact hT0))
        rw [← HT.out, HTT.out, HCC.out] at HX
        clear hT0
        go_wp2
        go_roundw
        case rel =>
          have R : j + 1 ≤ n ∧ Value.int .i64 ((j + 1 : Nat) : Int) = .int .i64 ((j + 1 : Nat) : Int) ∧ Value.int .i64 (T) = .int .i64 (tell (l.take (j + 1))) ∧ Value.int .i64 ((C : Int)) = .int .i64 (cnt (l.take (j + 1)) : Int) ∧ Aside0 (Fill w gr l (j + 1) f1 v2) :=
            ⟨by omega, rfl, by rw [HX.out.2], by rw [HX.out.1], HF2⟩
          first
            | exact ⟨j + 1, R⟩
            | exact ⟨j + 1, R.1, by go_num, R.2.2⟩
            | ((repeat apply Exists.intro); exact ⟨⟨j + 1, R⟩, rfl⟩)
        case measure => simp [intOf]; omega
    · obtain rfl : j = n := by omega
      have HTk := Aside0.mk (show l.take j = l by rw [← HNL.out]; simp)
      rw [HTk.out] at HTT HCC
      obtain ⟨ts, ho, hcl, hno⟩ := HH.out.o
      rw [HTk.out] at hcl
      obtain ⟨A', cap', cur, rfl, hA', hF', hcur⟩ := own_shape ho hno
      have hE := each20 gr l ts A' cap' cur wr (by rw [HNL.out]; exact HN.out) HL.out (by rw [HNL.out]; exact hA') hF' hcur hcl HH.out.r
      rw [HNL.out, HTT.out, HCC.out] at hE
      have HB' := Aside0.mk HH.out.b
      have HGr := Aside0.mk (blk_lt HH.out.r)
      clear ho hcl hno hA' hF' hcur HB KR
      by_cases hT0 : T = 0
      · subst hT0
        go_upto_region 19 with (first
          | (go_at_call 20; refine hE.mono ?_; rintro e v5 ⟨⟨v, rfl, hz1, hz2⟩, hs, hr⟩; have HB5 := Aside0.mk (below_keep HB'.out HG.out hs); have HR5 := Aside0.mk hr; obtain ⟨A'', cap'', rfl, hv⟩ := own_vals (hz2 rfl); have HV := Aside0.mk hv; clear hz1 hz2 hs hr hv))
        clear hE
        have c3 : v5.cell? ⟨gr, 0, none⟩ = some (.int .i64 (C : Int)) := blk_cell HR5.out 0
        go_wp2
        go_loop [10] (fun i => ∃ k : Nat, k ≤ j ∧ i = .int .i64 (k : Int)) (fun i => j - (intOf i).toNat)
        case atStart => exact ⟨0, by omega, rfl⟩
        case round =>
          obtain ⟨k, hk, rfl⟩ := hrel
          by_cases hkj : k < j
          · have hki : (k : Int) < (j : Int) := by omega
            have hk0 : (0 : Int) ≤ (k : Int) := by omega
            obtain ⟨g, rfl, hcl⟩ := HV.out k hkj
            have hwk : IntKind.i64.wrap ((k : Int) + 1) = ((k + 1 : Nat) : Int) := by have := HN.out; rw [IntKind.wrap_i64]; omega
            go_wp2
            go_round
            case rel => exact ⟨k + 1, by omega, by go_num⟩
            case measure => simp [intOf]; omega
          · obtain rfl : k = j := by omega
            go_wp2
            go_ret
            exact ⟨rfl, HB5.out⟩
      · have hT1 : (T != 0) = true := by rw [bne_iff_ne]; exact hT0
        have HT0 := Aside0.mk hT0
        clear hT0
        go_upto_region 19 with (first
          | (go_at_call 20; refine hE.mono ?_; rintro e v5 ⟨⟨v, rfl, hz1, hz2⟩, hs, hr⟩; have HB5 := Aside0.mk (below_keep HB'.out HG.out hs); have HR5 := Aside0.mk hr; obtain rfl := hz1 HT0.out; clear hz1 hz2 hs hr))
        clear hE
        have c3 : v5.cell? ⟨gr, 0, none⟩ = some (.int .i64 (C : Int)) := blk_cell HR5.out 0
        go_wp2
        go_ret
        exact ⟨rfl, HB5.out⟩
end Go.Proofs.YtpalofbphmjijaaDoor.Gd
