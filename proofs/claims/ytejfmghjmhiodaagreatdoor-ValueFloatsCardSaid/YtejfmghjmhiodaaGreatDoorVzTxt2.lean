import Derived.Test.YtejfmghjmhiodaaGreatDoorVzTxt1
namespace Go.Proofs.YtejfmghjmhiodaaGreatDoor.Vz
open Go.RowKit Go.Proofs.YtejfmghjmhiodaaGreatDoorW.PrintWords
set_option linter.unusedVariables false
set_option linter.unusedSimpArgs false
attribute [local go_sem] store_float

set_option maxHeartbeats 8000000 in
set_option maxRecDepth 100000 in
theorem txt_list (i : Int) (f : Nat) (s : ByteArray) (l : List Val) (ts : List ByteArray) (hl : ts.length = l.length) (h0 : 0 < l.length) (hn : l.length ≤ 1000) (hE : ∀ (j : Nat) (hj : j < l.length), TxtC l[j] (ts.getD j ⟨#[]⟩)) (J : ByteArray) (hJ : Lib.join (ts.map (·.data.toList)) [44, 32] = J.data.toList) (hJl : J.size ≤ 1000) :
    TxtC (.mk 4 i f s l) ((⟨#[91]⟩ ++ J) ++ ⟨#[93]⟩) := by
  intro W ok cs T hR
  obtain ⟨A, c, rfl, wk, wi, wf, ws, wc, wb⟩ := hR.len
  have HJ : ∀ (bk c : Nat) (w : World), bk < w.heap.size → ts.length ≤ c → (∀ (j : Nat) x, ts[j]? = some x → w.cell? ⟨bk, j, none⟩ = some (.string x)) → Calls Tryz.prog 47 #[.slice (some ⟨bk, 0, none⟩) ts.length c, .string ⟨#[44, 32]⟩] w fun e w' => e = .returned (.string J) ∧ Below w.heap.size w w' := by
    intro bk c w h1 h2 h3
    have hj2 : Lib.join (ts.map (·.data.toList)) (ByteArray.mk #[44, 32]).data.toList = J.data.toList := hJ
    have h := Tryz.strings_Join bk 0 c ts ⟨#[44, 32]⟩ w (fun j x hx => by rw [Nat.zero_add]; exact h3 j x hx) h1 (by omega) h2 (by rw [hj2]; simp; have : J.size = J.data.size := rfl; omega)
    rw [hj2] at h
    simpa using h
  have HI := Aside0.mk hE
  have HR := Aside0.mk hR
  have HT := Aside0.mk T
  have HJJ := Aside0.mk HJ
  have HLT := Aside0.mk hl
  have HL0 := Aside0.mk h0
  have HWB := Aside0.mk (show (l.length : Int) ≤ 1000 by omega)
  have hnn : (0 : Int) ≤ (l.length : Int) := by omega
  have ha1 : (ByteArray.mk #[91]).size + J.size ≤ 9223372036854775807 := by have : (ByteArray.mk #[91]).size = 1 := rfl; omega
  have ha2 : ((ByteArray.mk #[91]) ++ J).size + (ByteArray.mk #[93]).size ≤ 9223372036854775807 := by
    have : (ByteArray.mk #[91]).size = 1 := rfl
    have : (ByteArray.mk #[93]).size = 1 := rfl
    rw [ByteArray.size_append]
    omega
  have hp1 : ∀ w, (Op.stringOp .add (ByteArray.mk #[91]) J).run Tryz.prog w = .ok (.string (ByteArray.mk #[91] ++ J)) w := fun w => run_string_add_sum w _ _ ha1
  have hp2 : ∀ w, (Op.stringOp .add (ByteArray.mk #[91] ++ J) (ByteArray.mk #[93])).run Tryz.prog w = .ok (.string (ByteArray.mk #[91] ++ J ++ ByteArray.mk #[93])) w := fun w => run_string_add_sum w _ _ ha2
  clear hE hR T HJ hl h0 hn hJ hJl wk wi wf ws wc wb ha1 ha2
  obtain ⟨n, hn⟩ : ∃ n, l.length = n := ⟨_, rfl⟩
  have HNL := Aside0.mk hn
  rw [hn] at HR HWB hnn HLT HL0 ⊢
  clear hn
  go_enter Tryz.func22, Tryz.ntmps22
  go_upto_region 10 with (first
    | ((with_reducible refine gate_dst (N := 1) rfl ?_); refine box_event ?hg (N := 1) ?hd (cs := #[.int .i64 4, .int .i64 i, .float .f64 f, .string s, .slice A n c]) (t := 25) ?hr ?_; (case hd => rfl); (case hg => rfl); (case hr => first | (go_simp; done) | (go_simp; rfl)); intro gb hg w1 hbox hb; have HB := Aside0.mk hb; have KB := Aside0.mk hbox; have b0 : w1.cell? ⟨gb, 0, none⟩ = some (.int .i64 4) := blk_cell hbox 0; clear hg hbox hb))
  clear b0
  have b4 : w1.cell? ⟨gb, 4, none⟩ = some (.slice A n c) := blk_cell KB.out 4
  go_wp2
  clear b4
  go_loopw [3, 28] (fun vx ix wr => ∃ j : Nat, j ≤ n ∧ ix = .int .i64 (j : Int) ∧ Aside0 (Below W.heap.size W wr) ∧ Aside0 (wr.ownsRow W.heap.size 9 1 vx j ((ts.take j).map Value.string))) (fun _ ix _ => n - (intOf ix).toNat)
  case atStart => exact ⟨0, by omega, rfl, HB, Aside0.mk ⟨rfl, .inl ⟨rfl, rfl⟩⟩⟩
  case round =>
    obtain ⟨j, hj, rfl, HB', HO⟩ := hrel
    by_cases hlt : j < n
    · have hji : (j : Int) < (n : Int) := by omega
      have hj0 : (0 : Int) ≤ (j : Int) := by omega
      have hjl : j < l.length := by rw [HNL.out]; exact hlt
      obtain ⟨g, off, k', i', f', s', A', n', c', rfl, hg1, hg2, hsub, p0, p1, p2, p3, p4⟩ := (HR.out.kept HB'.out).elem j hjl
      have hih := HI.out j hjl
      generalize l[j] = x at hsub hih
      obtain ⟨t, ht⟩ : ∃ t, ts.getD j ⟨#[]⟩ = t := ⟨_, rfl⟩
      rw [ht] at hih
      have HTK := Aside0.mk (show (ts.take (j + 1)).map Value.string = (ts.take j).map Value.string ++ [.string t] by
        have hjt : j < ts.length := by rw [HLT.out]; exact hlt
        rw [List.take_add_one, List.getElem?_eq_getElem hjt, List.map_append, ← ht, List.getD_eq_getElem?_getD, List.getElem?_eq_getElem hjt]; rfl)
      have HLX := Aside0.mk (show ((ts.take j).map Value.string).length = j by simp; rw [HLT.out]; omega)
      have HLX2 := Aside0.mk (show ((ts.take (j + 1)).map Value.string).length = j + 1 by simp; rw [HLT.out]; omega)
      have HSub := Aside0.mk hsub
      have HIx := Aside0.mk hih
      have hwk : IntKind.i64.wrap ((j : Int) + 1) = ((j + 1 : Nat) : Int) := by have := HWB.out; rw [IntKind.wrap_i64]; omega
      clear hsub hih hjl hg1 hg2 ht
      go_wp2_with (first
        | ((with_reducible refine gate_dst (N := 5) rfl ?_); refine box_event ?hg (N := 5) ?hd (cs := #[.int .i64 0, .int .i64 0, .float .f64 0, .string ⟨#[]⟩, .slice none 0 0]) (t := 25) ?hr ?_; (case hd => rfl); (case hg => rfl); (case hr => first | (go_simp; done) | (go_simp; rfl)); intro g5 hg w2 hbox hb; have H2 := Aside0.mk hb; have K5 := Aside0.mk hbox; have HG5 := Aside0.mk (show wr.heap.size ≤ g5 by omega); clear hg hbox hb)
        | ((with_reducible refine gate_store (t := 25) (p := 5) rfl ?_); refine put_eventU ?hg (t := 25) (p := 5) (v := .tmp 31) ?ho ?hN (g := g5) (u := .agg #[.int .i64 k', .int .i64 i', .float .f64 f', .string s', .slice A' n' c']) (cs := #[.int .i64 k', .int .i64 i', .float .f64 f', .string s', .slice A' n' c']) ?hp ?hv K5.out ?hs ?hi ?h1 ?hc ?_; (case hs => rfl); (case hi => kernel_rfl); (case h1 => simp [Value.oneCell']); (case hc => simp [Value.cells]); (case hg => rfl); (case ho => rfl); (case hN => rfl); (case hp => rfl); (case hv => rfl); intro w3 hk hs; have H3 := Aside0.mk (below_keep H2.out HG5.out hs); have HS := Aside0.mk (HSub.out.kept H3.out); have a0 : w3.cell? ⟨g5, 0, none⟩ = some (.int .i64 k') := blk_cell hk 0; have a1 : w3.cell? ⟨g5, 1, none⟩ = some (.int .i64 i') := blk_cell hk 1; have a2 : w3.cell? ⟨g5, 2, none⟩ = some (.float .f64 f') := blk_cell hk 2; have a3 : w3.cell? ⟨g5, 3, none⟩ = some (.string s') := blk_cell hk 3; have a4 : w3.cell? ⟨g5, 4, none⟩ = some (.slice A' n' c') := blk_cell hk 4; clear hk hs)
        | (go_at_call 22; refine (HIx.out _ _ _ (HT.out.below (below_step HB'.out H3.out)) HS.out).mono ?_; rintro e w4 ⟨rfl, hb⟩; have HB2 := Aside0.mk (below_step HB'.out (below_step H3.out hb)); have HO2 := Aside0.mk (own_save HO.out (Save.of (S := fun _ => False) (below_step H3.out hb)) (fun _ _ x => x)); clear hb)
        | ((with_reducible refine gate_builtin (b := .append) (xs := #[.tmp 32, .tmp 35]) rfl ?_); at_builtin; refine print_append (w0 := W) W.heap.size rfl (.tmp 32) (.tmp 35) 61 9 (.string ⟨#[]⟩) 16 rfl Tryz.underlying61 info9 rfl (by decide) _ ((ts.take j).map Value.string) (.string t) rfl rfl rfl ?HO ?HB ?hbase ?hl ?_; (case HO => rw [HLX.out]; exact HO2.out); (case HB => exact HB2.out); (case hbase => exact HB2.out.size); (case hl => rw [HLX.out]; have := HWB.out; omega); intro v1 w5 ho hb hg hat; rw [← HTK.out, HLX2.out] at ho; have HO3 := Aside0.mk ho; have HB3 := Aside0.mk hb; clear ho hb hg hat))
      go_roundw
      case rel => exact ⟨j + 1, by omega, by go_num, HB3, HO3⟩
      case measure => simp [intOf]; omega
    · obtain rfl : j = n := by omega
      have ho := HO.out
      rw [← HLT.out, List.take_length] at ho
      obtain ⟨g, cap, rfl, hgb, hgl, hcap⟩ : ∃ (g cap : Nat), u3 = .slice (some ⟨g, 0, none⟩) j cap ∧ g < wr.heap.size ∧ (∀ (q : Nat) x, ts[q]? = some x → wr.cell? ⟨g, q, none⟩ = some (.string x)) ∧ ts.length ≤ cap := by
        obtain ⟨g, cap, hv, _, hlt2⟩ := ho.form (by rw [HLT.out]; exact HL0.out)
        refine ⟨g, cap, by rw [hv, HLT.out], hlt2, fun q x hx => ?_, ?_⟩
        · have hc := ho.cells (g := g) (by rw [hv]; rfl) q (.string x) (by rw [List.getElem?_map, hx]; rfl)
          rwa [add_plain] at hc
        · rcases ho.2 with ⟨h1, h2⟩ | ⟨g2, cap2, cur, h1, _, _, h3, _⟩
          · rw [hv] at h1; cases h1
          · rw [hv] at h1; injection h1 with h4 h5 h6; omega
      have hj47 := HJJ.out g cap _ hgb hcap hgl
      rw [HLT.out] at hj47
      go_wp2_with (go_at_call 47; refine hj47.mono ?_; rintro e w6 ⟨rfl, hb⟩; have HB6 := Aside0.mk (below_step HB'.out hb); clear hb)
      go_ret
      exact ⟨rfl, HB6.out⟩
end Go.Proofs.YtejfmghjmhiodaaGreatDoor.Vz
