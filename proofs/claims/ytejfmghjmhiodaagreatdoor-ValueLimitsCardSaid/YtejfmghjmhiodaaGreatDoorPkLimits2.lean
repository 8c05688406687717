/- Lemmas of the proof, part 2 of 3. -/
import Derived.Lib.PrintData
import Derived.Test.YtejfmghjmhiodaaGreatDoorRows
import Derived.ProofKit
import Derived.SizedLaws
import Derived.HandedShaped
import Derived.LaidLaws
import Derived.MakeChecks
import Derived.LaidMore
import Derived.Stop.LaidErr
import Derived.Lib.LaidTab
import Derived.Lib.LaidPrint
import Derived.Lay
import Derived.Lib.LaidU8T
import Derived.Deep.RegionHeld3
import Derived.Lib.Bytealg
import Derived.ArgAppend
import Derived.Test.YtejfmghjmhiodaaGreatDoorPkLimits1
namespace Go.Proofs.YtejfmghjmhiodaaGreatDoor.Vz
open Go.RowKit Go.Proofs.YtejfmghjmhiodaaGreatDoorW.PrintWords
set_option linter.unusedVariables false
set_option linter.unusedSimpArgs false
attribute [local go_sem] store_float

mutual
def sizeV : Val → Int
  | .mk k _ _ s l => if k = 1 then 9 else if k = 2 then 9 else if k = 3 then 3 + s.size else if k = 4 then sizes 2 l else 1
def sizes : Int → List Val → Int
  | z, [] => z
  | z, x :: r => sizes (wrap64 (z + sizeV x)) r
end
theorem sizes_nil (z : Int) : sizes z [] = z := by rw [sizes]
theorem sizes_cons (z : Int) (x : Val) (r : List Val) : sizes z (x :: r) = sizes (wrap64 (z + sizeV x)) r := by rw [sizes]
theorem dropAt (l : List Val) (j : Nat) (h : j < l.length) : l.drop j = l[j] :: l.drop (j + 1) := (List.getElem_cons_drop (h := h)).symm
def SizeC (v : Val) : Prop := ∀ (W : World) (ok : Nat → Prop) (cs : Array Value), RV W ok v cs → Calls Tryz.prog 18 #[.agg cs] W fun e w' => e = .returned (.int .i64 (sizeV v)) ∧ Below W.heap.size W w'

set_option maxHeartbeats 8000000 in
set_option maxRecDepth 100000 in
theorem size18 (v : Val) : SizeC v := by
  induction v using Val.ind with
  | h k i f s l ih =>
    intro W ok cs hR
    obtain ⟨A, c, rfl, wk, wi, wf, ws, wc, wb⟩ := hR.len
    have HI := Aside0.mk ih
    have HR := Aside0.mk hR
    have HWB := Aside0.mk (show (l.length : Int) * 64 ≤ 140737488351232 ∧ l.length ≤ c by omega)
    have hnn : (0 : Int) ≤ (l.length : Int) := by omega
    have hs1 : wrap64 (2 + (s.size : Int)) = 2 + (s.size : Int) := by unfold wrap64; omega
    have hs2 : wrap64 (1 + (2 + (s.size : Int))) = 3 + (s.size : Int) := by unfold wrap64; omega
    clear ih hR wk wi wf ws wc wb
    unfold sizeV
    obtain ⟨n, hn⟩ : ∃ n, l.length = n := ⟨_, rfl⟩
    have HNL := Aside0.mk hn
    rw [hn] at HR HWB hnn ⊢
    clear hn
    by_cases h1 : k = 1
    · subst h1
      rw [if_pos rfl]
      go_enter Tryz.func18, Tryz.ntmps18
      go_wp2_with (first
        | ((with_reducible refine gate_dst (N := 1) rfl ?_); refine box_event ?hg (N := 1) ?hd (cs := #[.int .i64 1, .int .i64 i, .float .f64 f, .string s, .slice A n c]) (t := 25) ?hr ?_; (case hd => rfl); (case hg => rfl); (case hr => first | (go_simp; done) | (go_simp; rfl)); intro gb hg w1 hbox hb; have HB := Aside0.mk hb; have KB := Aside0.mk hbox; have b0 : w1.cell? ⟨gb, 0, none⟩ = some (.int .i64 1) := blk_cell hbox 0; clear hg hbox hb))
      go_ret
      exact ⟨rfl, HB.out⟩
    · rw [if_neg h1]
      have e1 : (k == 1) = false := beq_eq_false_iff_ne.2 h1
      clear h1
      by_cases h2 : k = 2
      · subst h2
        rw [if_pos rfl]
        go_enter Tryz.func18, Tryz.ntmps18
        go_wp2_with (first
          | ((with_reducible refine gate_dst (N := 1) rfl ?_); refine box_event ?hg (N := 1) ?hd (cs := #[.int .i64 2, .int .i64 i, .float .f64 f, .string s, .slice A n c]) (t := 25) ?hr ?_; (case hd => rfl); (case hg => rfl); (case hr => first | (go_simp; done) | (go_simp; rfl)); intro gb hg w1 hbox hb; have HB := Aside0.mk hb; have KB := Aside0.mk hbox; have b0 : w1.cell? ⟨gb, 0, none⟩ = some (.int .i64 2) := blk_cell hbox 0; clear hg hbox hb))
        go_ret
        exact ⟨rfl, HB.out⟩
      · rw [if_neg h2]
        have e2 : (k == 2) = false := beq_eq_false_iff_ne.2 h2
        clear h2
        by_cases h3 : k = 3
        · subst h3
          rw [if_pos rfl]
          go_enter Tryz.func18, Tryz.ntmps18
          go_wp2_with (first
            | ((with_reducible refine gate_dst (N := 1) rfl ?_); refine box_event ?hg (N := 1) ?hd (cs := #[.int .i64 3, .int .i64 i, .float .f64 f, .string s, .slice A n c]) (t := 25) ?hr ?_; (case hd => rfl); (case hg => rfl); (case hr => first | (go_simp; done) | (go_simp; rfl)); intro gb hg w1 hbox hb; have HB := Aside0.mk hb; have KB := Aside0.mk hbox; have b0 : w1.cell? ⟨gb, 0, none⟩ = some (.int .i64 3) := blk_cell hbox 0; have b3 : w1.cell? ⟨gb, 3, none⟩ = some (.string s) := blk_cell hbox 3; clear hg hbox hb))
          go_ret
          exact ⟨by show Ending.returned (.int .i64 (wrap64 (1 + (2 + (s.size : Int))))) = _; rw [hs2], HB.out⟩
        · rw [if_neg h3]
          have e3 : (k == 3) = false := beq_eq_false_iff_ne.2 h3
          clear h3
          by_cases h4 : k = 4
          · subst h4
            rw [if_pos rfl]
            obtain ⟨O, hO⟩ : ∃ O, sizes 2 l = O := ⟨_, rfl⟩
            rw [hO]
            have HO := Aside0.mk hO
            clear hO hs1 hs2
            go_enter Tryz.func18, Tryz.ntmps18
            go_upto_region 10 with (first
              | ((with_reducible refine gate_dst (N := 1) rfl ?_); refine box_event ?hg (N := 1) ?hd (cs := #[.int .i64 4, .int .i64 i, .float .f64 f, .string s, .slice A n c]) (t := 25) ?hr ?_; (case hd => rfl); (case hg => rfl); (case hr => first | (go_simp; done) | (go_simp; rfl)); intro gb hg w1 hbox hb; have HB := Aside0.mk hb; have KB := Aside0.mk hbox; have b0 : w1.cell? ⟨gb, 0, none⟩ = some (.int .i64 4) := blk_cell hbox 0; clear hg hbox hb))
            clear b0
            have b4 : w1.cell? ⟨gb, 4, none⟩ = some (.slice A n c) := blk_cell KB.out 4
            go_wp2
            clear b4
            go_loopw [3, 28] (fun sx ix wr => ∃ (j : Nat) (z : Int), j ≤ n ∧ sx = .int .i64 z ∧ ix = .int .i64 (j : Int) ∧ Aside0 (Below W.heap.size W wr) ∧ Aside0 (sizes z (l.drop j) = O)) (fun _ ix _ => n - (intOf ix).toNat)
            case atStart => exact ⟨0, _, by omega, rfl, rfl, HB, HO⟩
            case round =>
              obtain ⟨j, z, hj, rfl, rfl, HB', HOj⟩ := hrel
              by_cases hlt : j < n
              · have hji : (j : Int) < (n : Int) := by omega
                have hj0 : (0 : Int) ≤ (j : Int) := by omega
                have hjl : j < l.length := by rw [HNL.out]; exact hlt
                obtain ⟨g, off, k', i', f', s', A', n', c', rfl, hg1, hg2, hsub, p0, p1, p2, p3, p4⟩ := (HR.out.kept HB'.out).elem j hjl
                have hih := HI.out j hjl
                have HOj2 := Aside0.mk HOj.out
                rw [dropAt l j hjl, sizes_cons] at HOj2
                generalize l[j] = x at hsub hih HOj2
                have HSub := Aside0.mk hsub
                have HIx := Aside0.mk hih
                have hwk : IntKind.i64.wrap ((j : Int) + 1) = ((j + 1 : Nat) : Int) := by have := HWB.out; rw [IntKind.wrap_i64]; omega
                clear hsub hih hjl hg1 hg2
                go_wp2_with (first
                  | ((with_reducible refine gate_dst (N := 5) rfl ?_); refine box_event ?hg (N := 5) ?hd (cs := #[.int .i64 0, .int .i64 0, .float .f64 0, .string ⟨#[]⟩, .slice none 0 0]) (t := 25) ?hr ?_; (case hd => rfl); (case hg => rfl); (case hr => first | (go_simp; done) | (go_simp; rfl)); intro g5 hg w2 hbox hb; have H2 := Aside0.mk hb; have K5 := Aside0.mk hbox; have HG5 := Aside0.mk (show wr.heap.size ≤ g5 by omega); clear hg hbox hb)
                  | ((with_reducible refine gate_store (t := 25) (p := 5) rfl ?_); refine put_eventU ?hg (t := 25) (p := 5) (v := .tmp 31) ?ho ?hN (g := g5) (u := .agg #[.int .i64 k', .int .i64 i', .float .f64 f', .string s', .slice A' n' c']) (cs := #[.int .i64 k', .int .i64 i', .float .f64 f', .string s', .slice A' n' c']) ?hp ?hv K5.out ?hs ?hi ?h1 ?hc ?_; (case hs => rfl); (case hi => kernel_rfl); (case h1 => simp [Value.oneCell']); (case hc => simp [Value.cells]); (case hg => rfl); (case ho => rfl); (case hN => rfl); (case hp => rfl); (case hv => rfl); intro w3 hk hs; have H3 := Aside0.mk (below_keep H2.out HG5.out hs); have HS := Aside0.mk (HSub.out.kept H3.out); have a0 : w3.cell? ⟨g5, 0, none⟩ = some (.int .i64 k') := blk_cell hk 0; have a1 : w3.cell? ⟨g5, 1, none⟩ = some (.int .i64 i') := blk_cell hk 1; have a2 : w3.cell? ⟨g5, 2, none⟩ = some (.float .f64 f') := blk_cell hk 2; have a3 : w3.cell? ⟨g5, 3, none⟩ = some (.string s') := blk_cell hk 3; have a4 : w3.cell? ⟨g5, 4, none⟩ = some (.slice A' n' c') := blk_cell hk 4; clear hk hs)
                  | (go_at_call 18; refine (HIx.out _ _ _ HS.out).mono ?_; rintro e w4 ⟨rfl, hb⟩; have HB2 := Aside0.mk (below_step HB'.out (below_step H3.out hb)); clear hb))
                go_roundw
                case rel => exact ⟨j + 1, _, by omega, rfl, by go_num, HB2, HOj2⟩
                case measure => simp [intOf]; omega
              · obtain rfl : j = n := by omega
                have HOj2 := Aside0.mk HOj.out
                rw [show l.drop j = [] from List.drop_eq_nil_of_le (by rw [HNL.out]; omega), sizes_nil] at HOj2
                go_wp2
                go_ret
                exact ⟨by rw [← HOj2.out]; rfl, HB'.out⟩
          · rw [if_neg h4]
            have e4 : (k == 4) = false := beq_eq_false_iff_ne.2 h4
            clear h4
            go_enter Tryz.func18, Tryz.ntmps18
            go_wp2_with (first
              | ((with_reducible refine gate_dst (N := 1) rfl ?_); refine box_event ?hg (N := 1) ?hd (cs := #[.int .i64 k, .int .i64 i, .float .f64 f, .string s, .slice A n c]) (t := 25) ?hr ?_; (case hd => rfl); (case hg => rfl); (case hr => first | (go_simp; done) | (go_simp; rfl)); intro gb hg w1 hbox hb; have HB := Aside0.mk hb; have KB := Aside0.mk hbox; have b0 : w1.cell? ⟨gb, 0, none⟩ = some (.int .i64 k) := blk_cell hbox 0; clear hg hbox hb))
            go_ret
            exact ⟨rfl, HB.out⟩
end Go.Proofs.YtejfmghjmhiodaaGreatDoor.Vz
namespace Go.Proofs.YtejfmghjmhiodaaGreatDoor.Vz
open Go.RowKit Go.Proofs.YtejfmghjmhiodaaGreatDoorW.PrintWords
set_option linter.unusedVariables false
set_option linter.unusedSimpArgs false
attribute [local go_sem] store_float

/-- What writing reads of the library's tables. -/
structure Tabs3 (W : World) : Prop where
  tabs : Tabs W
  pt : Lib.PrintTabsAt 8 9 10 11 Lib.goPrintTabs W
  ut : Lib.Utf8Tabs 6 7 W
theorem Tabs3.below {W W' : World} (h : Tabs3 W) (hb : Below W.heap.size W W') : Tabs3 W' := ⟨h.tabs.below hb, printTabs_below h.pt hb, Utf8Tabs_below h.ut hb⟩
theorem info9 : (Tryz.prog.info? 9).map (fun i => (i.zero, i.size, i.bytes)) = some (some (.string ⟨#[]⟩), 1, 16) := by kernel_rfl
def TxtC (v : Val) (t : ByteArray) : Prop := ∀ (W : World) (ok : Nat → Prop) (cs : Array Value), Tabs3 W → RV W ok v cs → Calls Tryz.prog 22 #[.agg cs] W fun e w' => e = .returned (.string t) ∧ Below W.heap.size W w'

set_option maxHeartbeats 8000000 in
set_option maxRecDepth 100000 in
theorem txt_int1 (f : Nat) (s : ByteArray) (l : List Val) : TxtC (.mk 1 1 f s l) ⟨#[49]⟩ := by
  intro W ok cs T hR
  obtain ⟨A, c, rfl, _⟩ := hR.len
  have c1 : ∀ w, Calls Tryz.prog 44 #[.int .i64 1, .int .i64 10] w (fun e w' => e = .returned (.string ⟨#[49]⟩) ∧ w' = w) := fun w => by
    have h := Tryz.strconv_FormatInt_10_small 1 (by decide) w
    rwa [show Lib.decDigits 1 = [49] by decide +kernel] at h
  clear hR T
  generalize l.length = n
  go_enter Tryz.func22, Tryz.ntmps22
  go_wp2_with (first
    | ((with_reducible refine gate_dst (N := 1) rfl ?_); refine box_event ?hg (N := 1) ?hd (cs := #[.int .i64 1, .int .i64 1, .float .f64 f, .string s, .slice A n c]) (t := 25) ?hr ?_; (case hd => rfl); (case hg => rfl); (case hr => first | (go_simp; done) | (go_simp; rfl)); intro gb hg w1 hbox hb; have HB := Aside0.mk hb; have KB := Aside0.mk hbox; have b0 : w1.cell? ⟨gb, 0, none⟩ = some (.int .i64 1) := blk_cell hbox 0; have b1 : w1.cell? ⟨gb, 1, none⟩ = some (.int .i64 1) := blk_cell hbox 1; clear hg hbox hb)
    | (go_at_call 44; refine (c1 _).mono ?_; rintro e w2 ⟨rfl, hw⟩; rw [hw]; clear hw w2))
  go_ret
  exact ⟨rfl, HB.out⟩

set_option maxHeartbeats 8000000 in
set_option maxRecDepth 100000 in
theorem txt_half (i : Int) (s : ByteArray) (l : List Val) : TxtC (.mk 2 i 4602678819172646912 s l) ⟨#[48, 46, 53]⟩ := by
  intro W ok cs T hR
  obtain ⟨A, c, rfl, _⟩ := hR.len
  have HT := Aside0.mk T
  clear hR T
  generalize l.length = n
  go_enter Tryz.func22, Tryz.ntmps22
  go_wp2_with (first
    | ((with_reducible refine gate_dst (N := 1) rfl ?_); refine box_event ?hg (N := 1) ?hd (cs := #[.int .i64 2, .int .i64 i, .float .f64 4602678819172646912, .string s, .slice A n c]) (t := 25) ?hr ?_; (case hd => rfl); (case hg => rfl); (case hr => first | (go_simp; done) | (go_simp; rfl)); intro gb hg w1 hbox hb; have HB := Aside0.mk hb; have KB := Aside0.mk hbox; have b0 : w1.cell? ⟨gb, 0, none⟩ = some (.int .i64 2) := blk_cell hbox 0; have b2 : w1.cell? ⟨gb, 2, none⟩ = some (.float .f64 4602678819172646912) := blk_cell hbox 2; clear hg hbox hb)
    | (go_at_call 45; refine (float_half _ (HT.out.tabs.below HB.out)).mono ?_; rintro e w2 ⟨rfl, hb⟩; have HB := Aside0.mk (below_step HB.out hb); clear hb))
  go_ret
  exact ⟨rfl, HB.out⟩

set_option maxHeartbeats 8000000 in
set_option maxRecDepth 100000 in
theorem txt_two (i : Int) (s : ByteArray) (l : List Val) : TxtC (.mk 2 i 4611686018427387904 s l) ⟨#[50, 46, 48]⟩ := by
  intro W ok cs T hR
  obtain ⟨A, c, rfl, _⟩ := hR.len
  have HT := Aside0.mk T
  clear hR T
  generalize l.length = n
  go_enter Tryz.func22, Tryz.ntmps22
  go_wp2_with (first
    | ((with_reducible refine gate_dst (N := 1) rfl ?_); refine box_event ?hg (N := 1) ?hd (cs := #[.int .i64 2, .int .i64 i, .float .f64 4611686018427387904, .string s, .slice A n c]) (t := 25) ?hr ?_; (case hd => rfl); (case hg => rfl); (case hr => first | (go_simp; done) | (go_simp; rfl)); intro gb hg w1 hbox hb; have HB := Aside0.mk hb; have KB := Aside0.mk hbox; have b0 : w1.cell? ⟨gb, 0, none⟩ = some (.int .i64 2) := blk_cell hbox 0; have b2 : w1.cell? ⟨gb, 2, none⟩ = some (.float .f64 4611686018427387904) := blk_cell hbox 2; clear hg hbox hb)
    | (go_at_call 45; refine (float_two _ (HT.out.tabs.below HB.out)).mono ?_; rintro e w2 ⟨rfl, hb⟩; have HB := Aside0.mk (below_step HB.out hb); clear hb))
  go_ret
  exact ⟨rfl, HB.out⟩

set_option maxHeartbeats 8000000 in
set_option maxRecDepth 100000 in
theorem txt_a (i : Int) (f : Nat) (l : List Val) : TxtC (.mk 3 i f ⟨#[97]⟩ l) ⟨#[34, 97, 34]⟩ := by
  intro W ok cs T hR
  obtain ⟨A, c, rfl, _⟩ := hR.len
  have HC := Aside0.mk (show ∀ w, Tabs3 w → Calls Tryz.prog 46 #[.string ⟨#[97]⟩] w (fun e w' => e = .returned (.string ⟨#[34, 97, 34]⟩) ∧ Below w.heap.size w w') from fun w T => by
    have h := Tryz.strconv_Quote Lib.goPrintTabs ⟨#[97]⟩ w (by decide) T.pt T.ut
    rwa [show strOfNums (Lib.quoteZ Lib.goPrintTabs ⟨#[97]⟩) = ⟨#[34, 97, 34]⟩ by decide +kernel] at h)
  have HT := Aside0.mk T
  clear hR T
  generalize l.length = n
  go_enter Tryz.func22, Tryz.ntmps22
  go_wp2_with (first
    | ((with_reducible refine gate_dst (N := 1) rfl ?_); refine box_event ?hg (N := 1) ?hd (cs := #[.int .i64 3, .int .i64 i, .float .f64 f, .string ⟨#[97]⟩, .slice A n c]) (t := 25) ?hr ?_; (case hd => rfl); (case hg => rfl); (case hr => first | (go_simp; done) | (go_simp; rfl)); intro gb hg w1 hbox hb; have HB := Aside0.mk hb; have KB := Aside0.mk hbox; have b0 : w1.cell? ⟨gb, 0, none⟩ = some (.int .i64 3) := blk_cell hbox 0; have b3 : w1.cell? ⟨gb, 3, none⟩ = some (.string ⟨#[97]⟩) := blk_cell hbox 3; clear hg hbox hb)
    | (go_at_call 46; refine (HC.out _ (HT.out.below HB.out)).mono ?_; rintro e w2 ⟨rfl, hb⟩; have HB := Aside0.mk (below_step HB.out hb); clear hb))
  go_ret
  exact ⟨rfl, HB.out⟩
end Go.Proofs.YtejfmghjmhiodaaGreatDoor.Vz
namespace Go.Proofs.YtejfmghjmhiodaaGreatDoor.VzRow
open Go.ChangeShapes Go.WideShapes Go.ChangeAt Go.RowKit
set_option linter.unusedVariables false

/-- The plain row's builder: a condition beside the row, and the world's shape. -/
theorem returns_and_shaped {H : Type} {enc : TypeId × Value → H} {a : Assume} {C : Checked} {os : Os} {f : FuncId} {fn : Func} {s : ChangeSpec} {conds : List PathCond} {apart fresh handsOn again : Bool} {X : World → Array Value → Prop}
    (hX : ∀ (w w' : World) (args : Array Value), w.heap = w'.heap → X w args → X w' args)
    (own : ownKnob C.prog.godebug = none) (started : os.Started) (noInit : C.prog.inits.idxOf? f = none) (hfn : C.prog.funcs[f]? = some fn)
    (witness : ∃ (w : World) (tape : Tape) (i : Input), w.os = os ∧ (w.forCall tape i).Shaped C.prog ∧ i.vars = [] ∧ Input.okWide C.prog (w.forCall tape i) .any w.heap.size f i ∧
      ((s.pre enc C.prog fn conds apart (w.forCall tape i).memory i.args ∧ X (w.forCall tape i).memory i.args) ∧ sizedMet enc C.prog fn (OpenSpec.ofChange s) apart (w.forCall tape i).memory i.args) ∧ a.holds C.prog (lone (Frame.enter C.prog f i.args .normal) [] (w.forCall tape i)))
    (contract : ∀ (W : World) (base : Nat) (args : Array Value) (ds gs : List (DataW H)) (before : List MemPlace),
      (∀ (j : Nat) t v, fn.params[j]? = some t → args[j]? = some v → Value.okWide C.prog W .any base t v) →
      DataW.Whole enc C.prog fn.params.toList s.vars apart W args.toList ds gs before →
      X W args → W.ShapedOpen C.prog → (DataW.weightsEach C.prog (fn.params.toList ++ s.plain.varTypes C.prog) (ds ++ gs)).all (· ≤ reachBytes) = true →
      Calls C.prog f args W fun e W' => ∃ v, e = .returned v ∧ s.post enc C.prog fn apart fresh handsOn again W args v W') :
    ReturnsInHanded a C os f .any (fun w args => (s.pre enc C.prog fn conds apart w args ∧ X w args) ∧ sizedMet enc C.prog fn (OpenSpec.ofChange s) apart w args) (s.post enc C.prog fn apart fresh handsOn again) := by
  refine returnsInHanded_of_calls own started noInit witness ?_
  intro w tape i _ hsh _ hok hpre _
  obtain ⟨_, _, _, fn', hfn', _, _, _, _, hval⟩ := hok
  have e : fn' = fn := Option.some.inj (hfn'.symm.trans hfn)
  subst e
  obtain ⟨⟨⟨ds, gs, before, hw, _⟩, hx⟩, hz⟩ := hpre
  have hw' := DataW.Whole.of_heap (w' := w.forCall tape i) (by rfl) hw
  refine (contract (w.forCall tape i) w.heap.size i.args ds gs before hval hw' (hX _ _ _ (by rfl) hx) hsh (hz.weights hw)).mono fun e W' ⟨v, he, hp⟩ => ?_
  subst he
  exact ChangeSpec.post_blind hp

def laid5 : List (String × DataW Unit) := [("math/bits.deBruijn32tab", Rows.laid_math_bits_deBruijn32tab), ("math/bits.deBruijn64tab", Rows.laid_math_bits_deBruijn64tab), ("internal/strconv.optimize", Rows.laid_internal_strconv_optimize), ("internal/strconv.uint64pow10", Rows.laid_internal_strconv_uint64pow10), ("unicode/utf8.acceptRanges", Rows.laid_unicode_utf8_acceptRanges), ("internal/strconv.leftcheats", Rows.laid_internal_strconv_leftcheats), ("internal/strconv.pow10Tab", Rows.laid_internal_strconv_pow10Tab), ("strconv.isGraphic", Rows.laid_strconv_isGraphic), ("strconv.isNotPrint16", Rows.laid_strconv_isNotPrint16), ("strconv.isNotPrint32", Rows.laid_strconv_isNotPrint32), ("strconv.isPrint16", Rows.laid_strconv_isPrint16), ("strconv.isPrint32", Rows.laid_strconv_isPrint32), ("unicode/utf8.first", Rows.laid_unicode_utf8_first)]

theorem own : ownKnob Tryz.prog.godebug = none := by kernel_rfl
theorem printExtra : PrintExtra Tryz.prog Tryz.lays339_ren := {
  n20 := by kernel_rfl
  n21 := by kernel_rfl
  n22 := by kernel_rfl
  n23 := by kernel_rfl
  y20 := by kernel_rfl
  y21 := by kernel_rfl
  y22 := by kernel_rfl
  y23 := by kernel_rfl
  c49 := by kernel_rfl
  c51 := by kernel_rfl }
theorem u8Extra : U8Extra Tryz.prog Tryz.lays260_ren := {
  n3 := by kernel_rfl
  n4 := by kernel_rfl
  y3 := by kernel_rfl
  y4 := by kernel_rfl
  c5 := by kernel_rfl
  c119 := by kernel_rfl
  c138 := by kernel_rfl }
theorem p16 : Rows.laid_strconv_isPrint16 = Go.Lib.sliceData .u16 Go.Lib.goPrintTabs.p16 := by kernel_rfl
theorem n16 : Rows.laid_strconv_isNotPrint16 = Go.Lib.sliceData .u16 Go.Lib.goPrintTabs.n16 := by kernel_rfl
theorem p32 : Rows.laid_strconv_isPrint32 = Go.Lib.sliceData .u32 Go.Lib.goPrintTabs.p32 := by kernel_rfl
theorem n32 : Rows.laid_strconv_isNotPrint32 = Go.Lib.sliceData .u16 Go.Lib.goPrintTabs.n32 := by kernel_rfl
theorem u8f : Rows.laid_unicode_utf8_first = Go.Lib.firstData := by kernel_rfl
theorem u8a : (Rows.laid_unicode_utf8_acceptRanges : DataW Unit) = Go.Lib.acceptData := by kernel_rfl
theorem p10 : (Rows.laid_internal_strconv_uint64pow10 : DataW Unit) = Go.Lib.tabData .u64 Go.Lib.pow10Tab := by kernel_rfl
theorem und155 : ∃ n1 n2 : Field, Tryz.prog.underlying 155 = some (.struct #[n1, n2]) ∧ (n1.type = 32 ∧ n1.offset = 0) ∧ (n2.type = 32 ∧ n2.offset = 1) := ⟨_, _, Tryz.underlying155, ⟨rfl, rfl⟩, ⟨rfl, rfl⟩⟩

theorem rowCells {W : World} (h : Go.Lib.VarReads Tryz.prog W "internal/strconv.pow10Tab" Go.Pinned.pow10Tab) (i hi lo : Nat) (hl : i < 696) (he : (Go.Pinned.pow10Rows.map fun x => (DataW.agg [.lit (.int .u64 x.1), .lit (.int .u64 x.2)] : DataW Unit))[i]? = some (.agg [.lit (.int .u64 hi), .lit (.int .u64 lo)])) :
    W.cell? ⟨13, 2 * i, none⟩ = some (.int .u64 (hi : Int)) ∧ W.cell? ⟨13, 2 * i + 1, none⟩ = some (.int .u64 (lo : Int)) := by
  obtain ⟨g, t, cs, fuel, p, hg, hty, hvar, hd⟩ := h
  obtain rfl : g = 13 := Option.some.inj (hg.symm.trans (by kernel_rfl))
  obtain rfl : t = 156 := Option.some.inj (hty.symm.trans (by kernel_rfl))
  obtain ⟨fuel', d, q, hdi, hx⟩ := Go.Lib.array_elem Tryz.underlying156 hd i hl
  rw [he] at hdi
  obtain rfl := Option.some.inj hdi
  have c155 : Tryz.prog.cellsOf 155 = 2 := by kernel_rfl
  rw [c155] at hx
  obtain ⟨n1, n2, hu, ⟨ht1, ho1⟩, ht2, ho2⟩ := und155
  have hcs := Go.Lib.ints_of_struct (k := .u64) (zs := [(hi : Int), (lo : Int)]) hu (fun j f hj => by
    match j, hj with
    | 0, hj => simp at hj; subst hj; rw [ht1, ho1]; exact ⟨Tryz.underlying32, rfl, by kernel_rfl⟩
    | 1, hj => simp at hj; subst hj; rw [ht2, ho2]; exact ⟨Tryz.underlying32, rfl, by kernel_rfl⟩
    | j + 2, hj => simp at hj) (by rw [c155]; rfl) hx
  have e0 := congrArg (·[0]?) hcs
  have e1 := congrArg (·[1]?) hcs
  simp only [List.getElem?_take, List.getElem?_drop] at e0 e1
  constructor
  · rw [World.var?_cell hg hvar (2 * i), ← Array.getElem?_toList]
    simpa [Nat.mul_comm] using e0
  · rw [World.var?_cell hg hvar (2 * i + 1), ← Array.getElem?_toList]
    simpa [Nat.mul_comm] using e1
set_option maxRecDepth 100000 in
/-- What the listed variables give. -/
theorem ok_of_laid {W : World} (h : laidMetH Tryz.prog laid5 W) (hsh : W.ShapedOpen Tryz.prog) : Vz.Tabs3 W := by
  rw [MakeChecks.laidMetH_plain _ _ _ (by kernel_rfl)] at h
  have r1 := (Go.Lib.laidMet.reads h (n := "internal/strconv.pow10Tab") (d := Rows.laid_internal_strconv_pow10Tab) (by exact List.Mem.tail _ (List.Mem.tail _ (List.Mem.tail _ (List.Mem.tail _ (List.Mem.tail _ (List.Mem.tail _ (List.Mem.head _))))))))
  have a := rowCells r1 364 10240000000000000000 0 (by decide) (by kernel_rfl)
  have b := rowCells r1 365 12800000000000000000 0 (by decide) (by kernel_rfl)
  have r2 := (Go.Lib.laidMet.reads h (n := "internal/strconv.uint64pow10") (d := Rows.laid_internal_strconv_uint64pow10) (by exact List.Mem.tail _ (List.Mem.tail _ (List.Mem.tail _ (List.Mem.head _)))))
  rw [p10] at r2
  have r3 := (Go.Lib.laidMet.reads h (n := "strconv.isPrint16") (d := Rows.laid_strconv_isPrint16) (by exact List.Mem.tail _ (List.Mem.tail _ (List.Mem.tail _ (List.Mem.tail _ (List.Mem.tail _ (List.Mem.tail _ (List.Mem.tail _ (List.Mem.tail _ (List.Mem.tail _ (List.Mem.tail _ (List.Mem.head _))))))))))))
  rw [p16] at r3
  have r4 := (Go.Lib.laidMet.reads h (n := "strconv.isNotPrint16") (d := Rows.laid_strconv_isNotPrint16) (by exact List.Mem.tail _ (List.Mem.tail _ (List.Mem.tail _ (List.Mem.tail _ (List.Mem.tail _ (List.Mem.tail _ (List.Mem.tail _ (List.Mem.tail _ (List.Mem.head _))))))))))
  rw [n16] at r4
  have r5 := (Go.Lib.laidMet.reads h (n := "strconv.isPrint32") (d := Rows.laid_strconv_isPrint32) (by exact List.Mem.tail _ (List.Mem.tail _ (List.Mem.tail _ (List.Mem.tail _ (List.Mem.tail _ (List.Mem.tail _ (List.Mem.tail _ (List.Mem.tail _ (List.Mem.tail _ (List.Mem.tail _ (List.Mem.tail _ (List.Mem.head _)))))))))))))
  rw [p32] at r5
  have r6 := (Go.Lib.laidMet.reads h (n := "strconv.isNotPrint32") (d := Rows.laid_strconv_isNotPrint32) (by exact List.Mem.tail _ (List.Mem.tail _ (List.Mem.tail _ (List.Mem.tail _ (List.Mem.tail _ (List.Mem.tail _ (List.Mem.tail _ (List.Mem.tail _ (List.Mem.tail _ (List.Mem.head _)))))))))))
  rw [n32] at r6
  have r7 := (Go.Lib.laidMet.reads h (n := "unicode/utf8.first") (d := Rows.laid_unicode_utf8_first) (by exact List.Mem.tail _ (List.Mem.tail _ (List.Mem.tail _ (List.Mem.tail _ (List.Mem.tail _ (List.Mem.tail _ (List.Mem.tail _ (List.Mem.tail _ (List.Mem.tail _ (List.Mem.tail _ (List.Mem.tail _ (List.Mem.tail _ (List.Mem.head _))))))))))))))
  rw [u8f] at r7
  have r8 := (Go.Lib.laidMet.reads h (n := "unicode/utf8.acceptRanges") (d := Rows.laid_unicode_utf8_acceptRanges) (by exact List.Mem.tail _ (List.Mem.tail _ (List.Mem.tail _ (List.Mem.tail _ (List.Mem.head _))))))
  rw [u8a] at r8
  have ht : Go.Lib.TabIs Tryz.prog W "internal/strconv.uint64pow10" .u64 Go.Lib.pow10Tab := by
    obtain ⟨g, t, cs, fuel, p, hg, hty, hvar, hd⟩ := r2
    obtain rfl : g = 2 := Option.some.inj (hg.symm.trans (by kernel_rfl))
    obtain rfl : t = 96 := Option.some.inj (hty.symm.trans (by kernel_rfl))
    have hcs := Go.Lib.cells_of_tab (n := 20) Tryz.underlying96 Tryz.underlying32 (by kernel_rfl) (by kernel_rfl) hd
    unfold Go.Lib.TabIs
    rw [hvar, ← hcs]
  exact ⟨⟨a.1, a.2, b.1, b.2, ht⟩, printTabs_of_reads Tryz.lays339 printExtra r3 r4 r5 r6, utf8Tabs_of_readsT (U8Types.of260 Tryz.lays260) u8Extra r7 r8⟩

/-- The listed variables laid. -/
theorem door_met (os : Os) (args : Array Value) : laidMetH Tryz.prog laid5 ((World.laidAll Tryz.prog os laid5).forCall (fun _ _ => 0) ⟨#[], args, []⟩).memory := by
  rw [MakeChecks.laidMetH_plain _ _ _ (by kernel_rfl)]; exact laidMet_laidAll _ (by kernel_rfl) (by kernel_rfl)
end Go.Proofs.YtejfmghjmhiodaaGreatDoor.VzRow
namespace Go.Proofs.YtejfmghjmhiodaaGreatDoor.Vz
open Go.RowKit Go.Proofs.YtejfmghjmhiodaaGreatDoorW.PrintWords
set_option linter.unusedVariables false
set_option linter.unusedSimpArgs false
attribute [local go_sem] store_float

mutual
def order : Val → Val → Int
  | .mk k i f s l, .mk k2 i2 f2 s2 l2 => if cmpI (kindV k) (kindV k2) = 0 then (if kindV k = 1 then cmpI i i2 else if kindV k = 2 then floatsV f f2 else if kindV k = 3 then Lib.compareBytes s.data.toList s2.data.toList else if kindV k = 4 then orders l l2 else 0) else cmpI (kindV k) (kindV k2)
def orders : List Val → List Val → Int
  | [], [] => 0
  | [], _ :: _ => -1
  | _ :: _, [] => 1
  | x :: r, y :: t => if order x y = 0 then orders r t else order x y
end
theorem orders_nil (l : List Val) : orders [] l = if 0 < l.length then -1 else 0 := by cases l <;> rfl
theorem orders_end (l : List Val) (h : 0 < l.length) : orders l [] = 1 := by
  cases l with
  | nil => cases h
  | cons x r => rfl
theorem orders_cons (x y : Val) (r t : List Val) : orders (x :: r) (y :: t) = if order x y = 0 then orders r t else order x y := rfl
theorem drop_at (l : List Val) (j : Nat) (h : j < l.length) : l.drop j = l[j] :: l.drop (j + 1) := (List.getElem_cons_drop (h := h)).symm
theorem cell5_below {W w : World} {g o : Nat} {x0 x1 x2 x3 x4 : Value} (h : W.cell? ⟨g, o, none⟩ = some x0 ∧ W.cell? ⟨g, o + 1, none⟩ = some x1 ∧ W.cell? ⟨g, o + 2, none⟩ = some x2 ∧ W.cell? ⟨g, o + 3, none⟩ = some x3 ∧ W.cell? ⟨g, o + 4, none⟩ = some x4) (hb : Below W.heap.size W w) :
    w.cell? ⟨g, o, none⟩ = some x0 ∧ w.cell? ⟨g, o + 1, none⟩ = some x1 ∧ w.cell? ⟨g, o + 2, none⟩ = some x2 ∧ w.cell? ⟨g, o + 3, none⟩ = some x3 ∧ w.cell? ⟨g, o + 4, none⟩ = some x4 := by
  have hl := cell_in h.1
  exact ⟨(hb.cell (p := ⟨g, o, none⟩) hl).trans h.1, (hb.cell (p := ⟨g, o + 1, none⟩) hl).trans h.2.1, (hb.cell (p := ⟨g, o + 2, none⟩) hl).trans h.2.2.1, (hb.cell (p := ⟨g, o + 3, none⟩) hl).trans h.2.2.2.1, (hb.cell (p := ⟨g, o + 4, none⟩) hl).trans h.2.2.2.2⟩
/-- What Order tells. -/
def OrdC (v : Val) : Prop := ∀ (W : World) (ok : Nat → Prop) (cs : Array Value), RV W ok v cs → ∀ (v2 : Val) (ok2 : Nat → Prop) (cs2 : Array Value), RV W ok2 v2 cs2 → Calls Tryz.prog 11 #[.agg cs, .agg cs2] W fun e w' => e = .returned (.int .i64 (order v v2)) ∧ Below W.heap.size W w'
theorem enters11 (args : Array Value) (W : World) : (callFunc 11 args).run Tryz.prog W = .ok (.enter 11 args) W := by kernel_rfl

set_option maxHeartbeats 8000000 in
set_option maxRecDepth 100000 in
theorem compare35 (k i : Int) (f : Nat) (s : ByteArray) (l : List Val) (kb ib : Int) (fb : Nat) (sb : ByteArray) (l2 : List Val) (hE : ∀ (j : Nat) (hj : j < l.length), OrdC l[j]) (W : World) (ok ok2 : Nat → Prop) (x0 x1 x2 x3 y0 y1 y2 y3 : Value) (A A2 : Option Addr) (c c2 : Nat)
    (hR : RV W ok (.mk k i f s l) #[x0, x1, x2, x3, .slice A l.length c]) (hR2 : RV W ok2 (.mk kb ib fb sb l2) #[y0, y1, y2, y3, .slice A2 l2.length c2]) :
    Calls Tryz.prog 35 #[.slice A l.length c, .slice A2 l2.length c2, .func (.func 11) #[] #[]] W fun e w' => e = .returned (.int .i64 (orders l l2)) ∧ Below W.heap.size W w' := by
  obtain ⟨A0, c0, e0, wk, wi, wf, ws, wc, wb⟩ := hR.len
  obtain ⟨A02, c02, e02, wk2, wi2, wf2, ws2, wc2, wb2⟩ := hR2.len
  have HI := Aside0.mk hE
  have HR := Aside0.mk hR
  have HR2 := Aside0.mk hR2
  have HWB := Aside0.mk (show (l.length : Int) * 64 ≤ 140737488351232 ∧ (l2.length : Int) * 64 ≤ 140737488351232 by omega)
  have hnn : (0 : Int) ≤ (l.length : Int) := by omega
  have hnn2 : (0 : Int) ≤ (l2.length : Int) := by omega
  have hent := enters11
  clear hE hR hR2 wk wi wf ws wc wb e0 wk2 wi2 wf2 ws2 wc2 wb2 e02
  obtain ⟨n, hn⟩ : ∃ n, l.length = n := ⟨_, rfl⟩
  obtain ⟨m, hm⟩ : ∃ m, l2.length = m := ⟨_, rfl⟩
  have HNL := Aside0.mk hn
  have HML := Aside0.mk hm
  rw [hn] at HR HWB hnn ⊢
  rw [hm] at HR2 HWB hnn2 ⊢
  clear hn hm
  obtain ⟨O, hO⟩ : ∃ O, orders l l2 = O := ⟨_, rfl⟩
  rw [hO]
  have HO := Aside0.mk hO
  clear hO
  go_enter Tryz.func35, Tryz.ntmps35
  go_wp2
  go_loopw [13] (fun ix wr => ∃ j : Nat, j ≤ n ∧ j ≤ m ∧ ix = .int .i64 (j : Int) ∧ Aside0 (Below W.heap.size W wr) ∧ Aside0 (orders (l.drop j) (l2.drop j) = O)) (fun ix _ => n - (intOf ix).toNat)
  case atStart => exact ⟨0, by omega, by omega, rfl, Aside0.mk (Below.refl _ _), HO⟩
  case round =>
    obtain ⟨j, hj, hjm, rfl, HB', HOj⟩ := hrel
    by_cases hlt : j < n
    · have hji : (j : Int) < (n : Int) := by omega
      have hj0 : (0 : Int) ≤ (j : Int) := by omega
      have hjl : j < l.length := by rw [HNL.out]; exact hlt
      obtain ⟨g, off, k', i', f', s', A', n', c', rfl, hg1, hg2, hsub, p0, p1, p2, p3, p4⟩ := (HR.out.kept HB'.out).elem j hjl
      have hih := HI.out j hjl
      have hd := drop_at l j hjl
      obtain ⟨x, hx⟩ : ∃ x, l[j] = x := ⟨_, rfl⟩
      rw [hx] at hsub hih hd
      have HSub := Aside0.mk hsub
      have HIx := Aside0.mk hih
      have HD := Aside0.mk hd
      have hwk : IntKind.i64.wrap ((j : Int) + 1) = ((j + 1 : Nat) : Int) := by have := HWB.out; rw [IntKind.wrap_i64]; omega
      clear hsub hih hd hx hjl hg1 hg2
      by_cases hlm : j < m
      · have hjm' : (j : Int) < (m : Int) := by omega
        have hjl2 : j < l2.length := by rw [HML.out]; exact hlm
        obtain ⟨g2, off2, k2, i2, f2, s2, A2', n2', c2', rfl, _, _, hsub2, r0, r1, r2, r3, r4⟩ := (HR2.out.kept HB'.out).elem j hjl2
        have hd2 := drop_at l2 j hjl2
        obtain ⟨y, hy⟩ : ∃ y, l2[j] = y := ⟨_, rfl⟩
        rw [hy] at hsub2 hd2
        have HSub2 := Aside0.mk hsub2
        have HD2 := Aside0.mk hd2
        clear hsub2 hd2 hy hjl2
        obtain ⟨o, ho⟩ : ∃ o, order x y = o := ⟨_, rfl⟩
        have HOo := Aside0.mk ho
        clear ho
        go_upto_region 4 with (first
          | ((with_reducible refine gate_dst (N := 8) rfl ?_); refine box_event ?hg (N := 8) ?hd (cs := #[.int .i64 0, .int .i64 0, .float .f64 0, .string ⟨#[]⟩, .slice none 0 0]) (t := 25) ?hr ?_; (case hd => rfl); (case hg => rfl); (case hr => first | (go_simp; done) | (go_simp; rfl)); intro g8 hg w2 hbox hb; have H2 := Aside0.mk hb; have K8 := Aside0.mk hbox; have P := Aside0.mk (cell5_below ⟨p0, p1, p2, p3, p4⟩ hb); have R2 := Aside0.mk (cell5_below ⟨r0, r1, r2, r3, r4⟩ hb); have HG8 := Aside0.mk (show wr.heap.size ≤ g8 by omega); clear hg hbox hb)
          | ((with_reducible refine gate_store (t := 25) (p := 8) rfl ?_); refine put_eventU ?hg (t := 25) (p := 8) (v := .tmp 17) ?ho ?hN (g := g8) (u := .agg #[.int .i64 k', .int .i64 i', .float .f64 f', .string s', .slice A' n' c']) (cs := #[.int .i64 k', .int .i64 i', .float .f64 f', .string s', .slice A' n' c']) ?hp ?hv K8.out ?hs ?hi ?h1 ?hc ?_; (case hs => rfl); (case hi => kernel_rfl); (case h1 => simp [Value.oneCell']); (case hc => simp [Value.cells]); (case hg => rfl); (case ho => rfl); (case hN => rfl); (case hp => rfl); (case hv => rfl); intro w3 hk hs; have H3 := Aside0.mk (below_keep H2.out HG8.out hs); have K8 := Aside0.mk hk; have R3 := Aside0.mk (cell5_below ⟨r0, r1, r2, r3, r4⟩ H3.out); clear hk hs))
        clear p0 p1 p2 p3 p4 r0 r1 r2 r3 r4
        have r0 := R3.out.1
        have r1 := R3.out.2.1
        have r2 := R3.out.2.2.1
        have r3 := R3.out.2.2.2.1
        have r4 := R3.out.2.2.2.2
        go_upto_region 7 with (first
          | ((with_reducible refine gate_dst (N := 9) rfl ?_); refine box_event ?hg (N := 9) ?hd (cs := #[.int .i64 0, .int .i64 0, .float .f64 0, .string ⟨#[]⟩, .slice none 0 0]) (t := 25) ?hr ?_; (case hd => rfl); (case hg => rfl); (case hr => first | (go_simp; done) | (go_simp; rfl)); intro g9 hg w4 hbox hb; have HG9 := Aside0.mk (show wr.heap.size ≤ g9 ∧ g8 ≠ g9 by (have h1_ := H3.out.size; have h2_ := blk_lt K8.out; omega)); have R4 := Aside0.mk (cell5_below R3.out hb); have H4 := Aside0.mk (below_step H3.out hb); have K8 := Aside0.mk (blk_below K8.out hb); have K9 := Aside0.mk hbox; clear r0 r1 r2 r3 r4; have r0 := R4.out.1; have r1 := R4.out.2.1; have r2 := R4.out.2.2.1; have r3 := R4.out.2.2.2.1; have r4 := R4.out.2.2.2.2; clear hg hbox hb)
          | ((with_reducible refine gate_store (t := 25) (p := 9) rfl ?_); refine put_eventU ?hg (t := 25) (p := 9) (v := .tmp 25) ?ho ?hN (g := g9) (u := .agg #[.int .i64 k2, .int .i64 i2, .float .f64 f2, .string s2, .slice A2' n2' c2']) (cs := #[.int .i64 k2, .int .i64 i2, .float .f64 f2, .string s2, .slice A2' n2' c2']) ?hp ?hv K9.out ?hs ?hi ?h1 ?hc ?_; (case hs => rfl); (case hi => kernel_rfl); (case h1 => simp [Value.oneCell']); (case hc => simp [Value.cells]); (case hg => rfl); (case ho => rfl); (case hN => rfl); (case hp => rfl); (case hv => rfl); intro w5 hk hs; have H5 := Aside0.mk (below_keep H4.out HG9.out.1 hs); have K8 := Aside0.mk (hs.blk K8.out HG9.out.2); have K9 := Aside0.mk hk; clear hk hs))
        clear r0 r1 r2 r3 r4
        have a0 : w5.cell? ⟨g8, 0, none⟩ = some (.int .i64 k') := blk_cell K8.out 0
        have a1 : w5.cell? ⟨g8, 1, none⟩ = some (.int .i64 i') := blk_cell K8.out 1
        have a2 : w5.cell? ⟨g8, 2, none⟩ = some (.float .f64 f') := blk_cell K8.out 2
        have a3 : w5.cell? ⟨g8, 3, none⟩ = some (.string s') := blk_cell K8.out 3
        have a4 : w5.cell? ⟨g8, 4, none⟩ = some (.slice A' n' c') := blk_cell K8.out 4
        have b0 : w5.cell? ⟨g9, 0, none⟩ = some (.int .i64 k2) := blk_cell K9.out 0
        have b1 : w5.cell? ⟨g9, 1, none⟩ = some (.int .i64 i2) := blk_cell K9.out 1
        have b2 : w5.cell? ⟨g9, 2, none⟩ = some (.float .f64 f2) := blk_cell K9.out 2
        have b3 : w5.cell? ⟨g9, 3, none⟩ = some (.string s2) := blk_cell K9.out 3
        have b4 : w5.cell? ⟨g9, 4, none⟩ = some (.slice A2' n2' c2') := blk_cell K9.out 4
        have HS1 := Aside0.mk (HSub.out.kept H5.out)
        have HS2 := Aside0.mk (HSub2.out.kept H5.out)
        go_upto_region 8 with (first
          | (go_at_call 11; refine (HIx.out _ _ _ HS1.out _ _ _ HS2.out).mono ?_; rw [HOo.out]; rintro e w6 ⟨rfl, hb⟩; have H6 := Aside0.mk (below_step HB'.out (below_step H5.out hb)); clear hb))
        clear a0 a1 a2 a3 a4 b0 b1 b2 b3 b4
        have HOj2 := Aside0.mk HOj.out
        rw [HD.out, HD2.out, orders_cons, HOo.out] at HOj2
        by_cases ho : o = 0
        · subst ho
          have HN := Aside0.mk (show orders (l.drop (j + 1)) (l2.drop (j + 1)) = O by have := HOj2.out; rwa [if_pos rfl] at this)
          go_wp2
          go_roundw
          case rel => exact ⟨j + 1, by omega, by omega, by go_num, H6, HN⟩
          case measure => simp [intOf]; omega
        · have ho1 : (o != 0) = true := bne_iff_ne.2 ho
          have HN := Aside0.mk (show o = O by have := HOj2.out; rwa [if_neg ho] at this)
          clear ho
          go_wp2
          go_ret
          exact ⟨by rw [← HN.out]; rfl, H6.out⟩
      · have hmj : (m : Int) ≤ (j : Int) := by omega
        have HOj2 := Aside0.mk HOj.out
        rw [HD.out, show l2.drop j = [] from List.drop_eq_nil_of_le (by rw [HML.out]; omega), orders_end _ (by simp)] at HOj2
        go_wp2_with (first
          | ((with_reducible refine gate_dst (N := 8) rfl ?_); refine box_event ?hg (N := 8) ?hd (cs := #[.int .i64 0, .int .i64 0, .float .f64 0, .string ⟨#[]⟩, .slice none 0 0]) (t := 25) ?hr ?_; (case hd => rfl); (case hg => rfl); (case hr => first | (go_simp; done) | (go_simp; rfl)); intro g8 hg w2 hbox hb; have H2 := Aside0.mk hb; have K8 := Aside0.mk hbox; have P := Aside0.mk (cell5_below ⟨p0, p1, p2, p3, p4⟩ hb); have HG8 := Aside0.mk (show wr.heap.size ≤ g8 by omega); clear hg hbox hb)
          | ((with_reducible refine gate_store (t := 25) (p := 8) rfl ?_); refine put_eventU ?hg (t := 25) (p := 8) (v := .tmp 17) ?ho ?hN (g := g8) (u := .agg #[.int .i64 k', .int .i64 i', .float .f64 f', .string s', .slice A' n' c']) (cs := #[.int .i64 k', .int .i64 i', .float .f64 f', .string s', .slice A' n' c']) ?hp ?hv K8.out ?hs ?hi ?h1 ?hc ?_; (case hs => rfl); (case hi => kernel_rfl); (case h1 => simp [Value.oneCell']); (case hc => simp [Value.cells]); (case hg => rfl); (case ho => rfl); (case hN => rfl); (case hp => rfl); (case hv => rfl); intro w3 hk hs; have H3 := Aside0.mk (below_keep H2.out HG8.out hs); clear hk hs))
        go_ret
        exact ⟨by rw [← HOj2.out]; rfl, below_step HB'.out H3.out⟩
    · obtain rfl : j = n := by omega
      have HOj2 := Aside0.mk HOj.out
      rw [show l.drop j = [] from List.drop_eq_nil_of_le (by rw [HNL.out]; omega), orders_nil, List.length_drop, HML.out] at HOj2
      by_cases hjm2 : j < m
      · have hji : (j : Int) < (m : Int) := by omega
        have HN := Aside0.mk (show (-1 : Int) = O by have := HOj2.out; rwa [if_pos (by omega)] at this)
        go_wp2
        go_ret
        exact ⟨by rw [← HN.out]; rfl, HB'.out⟩
      · have hji : ¬ (j : Int) < (m : Int) := by omega
        have HN := Aside0.mk (show (0 : Int) = O by have := HOj2.out; rwa [if_neg (by omega)] at this)
        go_wp2
        go_ret
        exact ⟨by rw [← HN.out]; rfl, HB'.out⟩
end Go.Proofs.YtejfmghjmhiodaaGreatDoor.Vz
namespace Go.Proofs.YtejfmghjmhiodaaGreatDoor.Vz
open Go.RowKit Go.Proofs.YtejfmghjmhiodaaGreatDoorW.PrintWords
set_option linter.unusedVariables false
set_option linter.unusedSimpArgs false
attribute [local go_sem] store_float

/-- A comparator that tells a line. -/
structure Lin {α : Type} (c : α → α → Int) : Prop where
  anti : ∀ x y, c x y = - c y x
  t : ∀ x y z, c x y ≤ 0 → c y z ≤ 0 → c x z ≤ 0 ∧ (c x z = 0 → c x y = 0 ∧ c y z = 0)
  e : ∀ x y z, c x y = 0 → c y z = 0 → c x z = 0
def lex {α : Type} (c d : α → α → Int) (x y : α) : Int := if c x y = 0 then d x y else c x y
theorem lin_cmpI : Lin cmpI where
  anti x y := by unfold cmpI; split <;> split <;> omega
  t x y z := by unfold cmpI; split <;> split <;> split <;> (try split) <;> (try split) <;> (try split) <;> omega
  e x y z := by unfold cmpI; split <;> split <;> split <;> (try split) <;> (try split) <;> (try split) <;> omega
theorem Lin.comap {α β : Type} {c : β → β → Int} (h : Lin c) (f : α → β) : Lin (fun x y => c (f x) (f y)) := ⟨fun x y => h.anti _ _, fun x y z => h.t _ _ _, fun x y z => h.e _ _ _⟩
theorem Lin.lex {α : Type} {c d : α → α → Int} (hc : Lin c) (hd : Lin d) : Lin (lex c d) where
  anti x y := by
    unfold Vz.lex
    have h1 := hc.anti x y
    have h2 := hd.anti x y
    split <;> split <;> omega
  t x y z := by
    unfold Vz.lex
    have h1 := hc.t x y z
    have h2 := hd.t x y z
    have h3 := hc.e x y z
    have h4 := hd.e x y z
    split <;> split <;> split <;> intro ha hb <;> (try have h1' := h1 (by omega) (by omega)) <;> (try have h2' := h2 (by omega) (by omega)) <;> omega
  e x y z := by
    unfold Vz.lex
    have h3 := hc.e x y z
    have h4 := hd.e x y z
    split <;> split <;> split <;> intro ha hb <;> omega
theorem Lin.refl {α : Type} {c : α → α → Int} (h : Lin c) (x : α) : c x x = 0 := by have := h.anti x x; omega
end Go.Proofs.YtejfmghjmhiodaaGreatDoor.Vz
namespace Go.Proofs.YtejfmghjmhiodaaGreatDoor.Vz
open Go.RowKit Go.Proofs.YtejfmghjmhiodaaGreatDoorW.PrintWords
set_option linter.unusedVariables false
set_option linter.unusedSimpArgs false
attribute [local go_sem] store_float

structure LinAt {α : Type} (c : α → α → Int) (x : α) : Prop where
  anti : ∀ y, c x y = - c y x
  t : ∀ y z, c x y ≤ 0 → c y z ≤ 0 → c x z ≤ 0 ∧ (c x z = 0 → c x y = 0 ∧ c y z = 0)
  e : ∀ y z, c x y = 0 → c y z = 0 → c x z = 0
theorem Lin.at {α : Type} {c : α → α → Int} (h : Lin c) (x : α) : LinAt c x := ⟨h.anti x, h.t x, h.e x⟩
theorem lin_of_at {α : Type} {c : α → α → Int} (h : ∀ x, LinAt c x) : Lin c := ⟨fun x => (h x).anti, fun x => (h x).t, fun x => (h x).e⟩
def listc {α : Type} (c : α → α → Int) : List α → List α → Int
  | [], [] => 0
  | [], _ :: _ => -1
  | _ :: _, [] => 1
  | x :: r, y :: t => if c x y = 0 then listc c r t else c x y
theorem linAt_list {α : Type} {c : α → α → Int} (l : List α) (h : ∀ x ∈ l, LinAt c x) : LinAt (listc c) l := by
  induction l with
  | nil =>
    refine ⟨fun y => ?_, fun y z => ?_, fun y z => ?_⟩
    · cases y <;> simp [listc]
    · cases y <;> cases z <;> simp [listc]
    · cases y <;> cases z <;> simp [listc]
  | cons x r ih =>
    have hx := h x (by simp)
    have hr := ih (fun y hy => h y (by simp [hy]))
    refine ⟨fun y => ?_, fun y z => ?_, fun y z => ?_⟩
    · cases y with
      | nil => simp [listc]
      | cons y t =>
        have h1 := hx.anti y
        have h2 := hr.anti t
        simp only [listc]
        split <;> split <;> omega
    · cases y with
      | nil => simp [listc]
      | cons y t =>
        cases z with
        | nil => simp [listc]
        | cons z u =>
          have h1 := hx.t y z
          have h2 := hr.t t u
          have h3 := hx.e y z
          simp only [listc]
          split <;> split <;> split <;> intro ha hb <;> (try have h1' := h1 (by omega) (by omega)) <;> (try have h2' := h2 (by omega) (by omega)) <;> omega
    · cases y with
      | nil => simp [listc]
      | cons y t =>
        cases z with
        | nil => simp [listc]
        | cons z u =>
          have h3 := hx.e y z
          have h4 := hr.e t u
          simp only [listc]
          split <;> split <;> split <;> intro ha hb <;> omega
theorem LinAt.lex {α : Type} {c d : α → α → Int} {x : α} (hc : Lin c) (ha : ∀ y, c x y = 0 → d x y = - d y x) (ht : ∀ y z, c x y = 0 → c y z = 0 → d x y ≤ 0 → d y z ≤ 0 → d x z ≤ 0 ∧ (d x z = 0 → d x y = 0 ∧ d y z = 0))
    (he : ∀ y z, c x y = 0 → c y z = 0 → d x y = 0 → d y z = 0 → d x z = 0) : LinAt (lex c d) x where
  anti y := by
    unfold Vz.lex
    have h1 := hc.anti x y
    have h2 := ha y
    split <;> split <;> omega
  t y z := by
    unfold Vz.lex
    have h1 := hc.t x y z
    have h2 := ht y z
    have h3 := hc.e x y z
    split <;> split <;> split <;> intro ha' hb <;> (try have h1' := h1 (by omega) (by omega)) <;> (try have h2' := h2 (by omega) (by omega) (by omega) (by omega)) <;> omega
  e y z := by
    unfold Vz.lex
    have h3 := hc.e x y z
    have h4 := he y z
    split <;> split <;> split <;> intro ha' hb <;> omega
theorem bytes_list (a b : List UInt8) : Lib.compareBytes a b = listc (fun x y : UInt8 => cmpI x.toNat y.toNat) a b := by
  induction a generalizing b with
  | nil => cases b <;> rfl
  | cons x r ih =>
    cases b with
    | nil => rfl
    | cons y t =>
      show (if x < y then -1 else if y < x then 1 else Lib.compareBytes r t) = if cmpI x.toNat y.toNat = 0 then listc (fun x y : UInt8 => cmpI x.toNat y.toNat) r t else cmpI x.toNat y.toNat
      rw [ih]
      by_cases h1 : x.toNat < y.toNat
      · have e : cmpI (x.toNat : Int) (y.toNat : Int) = -1 := by unfold cmpI; rw [if_pos (by omega)]
        rw [if_pos (UInt8.lt_iff_toNat_lt.2 h1), e, if_neg (by decide)]
      · by_cases h2 : y.toNat < x.toNat
        · have e : cmpI (x.toNat : Int) (y.toNat : Int) = 1 := by unfold cmpI; rw [if_neg (by omega), if_pos (by omega)]
          rw [if_neg (fun h => h1 (UInt8.lt_iff_toNat_lt.1 h)), if_pos (UInt8.lt_iff_toNat_lt.2 h2), e, if_neg (by decide)]
        · have e : cmpI (x.toNat : Int) (y.toNat : Int) = 0 := by unfold cmpI; rw [if_neg (by omega), if_neg (by omega)]
          rw [if_neg (fun h => h1 (UInt8.lt_iff_toNat_lt.1 h)), if_neg (fun h => h2 (UInt8.lt_iff_toNat_lt.1 h)), e, if_pos rfl]
theorem lin_bytes : Lin Lib.compareBytes := by
  have h : Lin (listc (fun x y : UInt8 => cmpI x.toNat y.toNat)) := lin_of_at fun l => linAt_list l fun x _ => (lin_cmpI.comap (fun x : UInt8 => (x.toNat : Int))).at x
  rw [show Lib.compareBytes = listc (fun x y : UInt8 => cmpI x.toNat y.toNat) from funext fun a => funext fun b => bytes_list a b]
  exact h
theorem orders_list (a b : List Val) : orders a b = listc order a b := by
  induction a generalizing b with
  | nil => cases b <;> rfl
  | cons x r ih =>
    cases b with
    | nil => rfl
    | cons y t => rw [orders_cons, listc, ih]
def knd : Val → Int
  | .mk k _ _ _ _ => kindV k
def sub : Val → Val → Int
  | .mk k i f s l, .mk _ i2 f2 s2 l2 => if kindV k = 1 then cmpI i i2 else if kindV k = 2 then floatsV f f2 else if kindV k = 3 then Lib.compareBytes s.data.toList s2.data.toList else if kindV k = 4 then orders l l2 else 0
theorem order_lex (a b : Val) : order a b = lex (fun x y => cmpI (knd x) (knd y)) sub a b := by
  cases a; cases b; rfl
theorem cmpI_eq {a b : Int} (h : cmpI a b = 0) : a = b := by unfold cmpI at h; split at h <;> (try split at h) <;> omega
/-- Order tells a line, where floats do. -/
theorem linAt_order (hF : Lin floatsV) (v : Val) : LinAt order v := by
  rw [show order = lex (fun x y => cmpI (knd x) (knd y)) sub from funext fun a => funext fun b => order_lex a b]
  induction v using Val.ind with
  | h k i f s l ih =>
    have hL : LinAt (listc order) l := linAt_list l fun x hx => by
      obtain ⟨j, hj, rfl⟩ := List.getElem_of_mem hx
      rw [show order = lex (fun x y => cmpI (knd x) (knd y)) sub from funext fun a => funext fun b => order_lex a b]
      exact ih j hj
    refine LinAt.lex (lin_cmpI.comap knd) (fun y hy => ?_) (fun y z hy hz => ?_) (fun y z hy hz => ?_)
    · cases y with
      | mk k2 i2 f2 s2 l2 =>
        have e : kindV k = kindV k2 := cmpI_eq hy
        simp only [sub, e]
        split
        · exact lin_cmpI.anti _ _
        · split
          · exact hF.anti _ _
          · split
            · exact lin_bytes.anti _ _
            · split
              · rw [orders_list, orders_list]; exact hL.anti _
              · rfl
    · cases y with
      | mk k2 i2 f2 s2 l2 =>
        cases z with
        | mk k3 i3 f3 s3 l3 =>
          have e : kindV k = kindV k2 := cmpI_eq hy
          simp only [sub, e]
          split
          · exact lin_cmpI.t _ _ _
          · split
            · exact hF.t _ _ _
            · split
              · exact lin_bytes.t _ _ _
              · split
                · rw [orders_list, orders_list, orders_list]; exact hL.t _ _
                · intro _ _; exact ⟨Int.le_refl _, fun _ => ⟨rfl, rfl⟩⟩
    · cases y with
      | mk k2 i2 f2 s2 l2 =>
        cases z with
        | mk k3 i3 f3 s3 l3 =>
          have e : kindV k = kindV k2 := cmpI_eq hy
          simp only [sub, e]
          split
          · exact lin_cmpI.e _ _ _
          · split
            · exact hF.e _ _ _
            · split
              · exact lin_bytes.e _ _ _
              · split
                · rw [orders_list, orders_list, orders_list]; exact hL.e _ _
                · intro _ _; rfl
end Go.Proofs.YtejfmghjmhiodaaGreatDoor.Vz
namespace Go.Proofs.YtejfmghjmhiodaaGreatDoor.Vz
open Go.RowKit Go.Proofs.YtejfmghjmhiodaaGreatDoorW.PrintWords
set_option linter.unusedVariables false
set_option linter.unusedSimpArgs false
attribute [local go_sem] store_float
open Ieee
def LP : Int := FloatKind.f64.format.leastPlace
def dkey : Datum → Int × Int
  | .number s m i => (0, signed s m (i - LP).toNat)
  | .infinity s => (if s then -1 else 1, 0)
  | .nan _ _ => (0, 0)
def cmpO (p q : Int × Int) : Ordering := if p.1 < q.1 then .lt else if q.1 < p.1 then .gt else if p.2 < q.2 then .lt else if q.2 < p.2 then .gt else .eq
theorem signed_add (s : Bool) (m u k : Nat) : signed s m (u + k) = signed s m u * 2 ^ k := by
  unfold signed
  have e : ((m <<< (u + k) : Nat) : Int) = (m <<< u : Nat) * 2 ^ k := by
    rw [Nat.shiftLeft_add, Nat.shiftLeft_eq (m <<< u) k]; push_cast; rfl
  cases s <;> simp only [Bool.false_eq_true, if_true, if_false, e]
  rw [Int.neg_mul]
theorem compare_cmpO (a b : Int) : compare a b = cmpO (0, a) (0, b) := by
  unfold cmpO
  simp only [Int.lt_irrefl, if_false]
  rw [show compare a b = compareOfLessAndEq a b from rfl]
  unfold compareOfLessAndEq
  split
  · rfl
  · split
    · rw [if_neg (by omega)]
    · rw [if_pos (by omega)]
theorem cmpO_scale (a b : Int) (k : Nat) : cmpO (0, a * 2 ^ k) (0, b * 2 ^ k) = cmpO (0, a) (0, b) := by
  have hk : (0 : Int) < 2 ^ k := Int.pow_pos (by decide)
  unfold cmpO
  simp only [Int.lt_irrefl, if_false]
  have h1 : a * 2 ^ k < b * 2 ^ k ↔ a < b := Int.mul_lt_mul_right hk
  have h2 : b * 2 ^ k < a * 2 ^ k ↔ b < a := Int.mul_lt_mul_right hk
  simp only [h1, h2]
def isN : Datum → Bool
  | .nan _ _ => true
  | _ => false
def high : Datum → Prop
  | .number _ _ i => LP ≤ i
  | _ => True
theorem order_key (d e : Datum) (hd : isN d = false) (he : isN e = false) (pd : high d) (pe : high e) : d.order e = some (cmpO (dkey d) (dkey e)) := by
  cases d with
  | nan => cases hd
  | infinity s =>
    cases e with
    | nan => cases he
    | infinity t => cases s <;> cases t <;> decide
    | number t n j => cases s <;> rfl
  | number s m i =>
    cases e with
    | nan => cases he
    | infinity t => cases t <;> rfl
    | number t n j =>
      have pd' : LP ≤ i := pd
      have pe' : LP ≤ j := pe
      show some (compare (signed s m (i - min i j).toNat) (signed t n (j - min i j).toNat)) = _
      rw [compare_cmpO]
      obtain ⟨k, hk⟩ : ∃ k : Nat, min i j - LP = k := ⟨(min i j - LP).toNat, by omega⟩
      rw [show dkey (.number s m i) = (0, signed s m (i - min i j).toNat * 2 ^ k) by
        show (0, signed s m (i - LP).toNat) = _
        rw [show (i - LP).toNat = (i - min i j).toNat + k by omega, signed_add]]
      rw [show dkey (.number t n j) = (0, signed t n (j - min i j).toNat * 2 ^ k) by
        show (0, signed t n (j - LP).toNat) = _
        rw [show (j - LP).toNat = (j - min i j).toNat + k by omega, signed_add]]
      rw [cmpO_scale]
theorem read_high (f : Nat) : high (FloatKind.f64.format.read f) := by
  unfold Format.read
  simp only
  split
  · exact Int.le_refl _
  · split
    · show LP ≤ LP + _
      omega
    · split <;> trivial
theorem ord_read (a b : Nat) : FloatKind.f64.format.order a b = (FloatKind.f64.format.read a).order (FloatKind.f64.format.read b) := rfl
theorem order_nan_l (d e : Datum) (h : isN d = true) : d.order e = none := by cases d <;> first | (cases h; done) | (cases e <;> rfl)
theorem order_nan_r (d e : Datum) (h : isN e = true) : d.order e = none := by cases e <;> first | (cases h; done) | (cases d <;> rfl)
theorem cmpO_refl (p : Int × Int) : cmpO p p = .eq := by unfold cmpO; simp
theorem isNan_read (f : Nat) : isNan f = isN (FloatKind.f64.format.read f) := by
  unfold isNan
  rw [ord_read]
  cases h : isN (FloatKind.f64.format.read f)
  · rw [order_key _ _ h h (read_high f) (read_high f), cmpO_refl]; rfl
  · rw [order_nan_l _ _ h]; rfl
def rk (f : Nat) : Int × Int := dkey (FloatKind.f64.format.read f)
theorem ord_rk {a b : Nat} (ha : isNan a = false) (hb : isNan b = false) : FloatKind.f64.format.order a b = some (cmpO (rk a) (rk b)) := by
  rw [isNan_read] at ha hb
  exact order_key _ _ ha hb (read_high a) (read_high b)
theorem rk0 : rk 0 = (0, 0) := by decide +kernel
theorem nan0 : isNan 0 = false := by rw [isNan_read]; decide +kernel
theorem cmpO_eq (p q : Int × Int) : (cmpO p q = .eq) ↔ p = q := by
  unfold cmpO
  constructor
  · intro h
    split at h
    · cases h
    · split at h
      · cases h
      · split at h
        · cases h
        · split at h
          · cases h
          · exact Prod.ext (by omega) (by omega)
  · rintro rfl; simp
theorem feq0 {a : Nat} (ha : isNan a = false) : feq a 0 = decide (rk a = (0, 0)) := by
  unfold feq
  rw [ord_rk ha nan0, rk0]
  rw [Bool.eq_iff_iff]
  simp [cmpO_eq]
def KF (f : Nat) : Int × Int × Int × Int := if isNan f then (0, 0, 0, 0) else (1, (rk f).1, (rk f).2, if rk f = (0, 0) then signV f else 0)
def c4 (x y : Int × Int × Int × Int) : Int := lex (fun x y : Int × Int × Int × Int => cmpI x.1 y.1) (lex (fun x y => cmpI x.2.1 y.2.1) (lex (fun x y => cmpI x.2.2.1 y.2.2.1) (fun x y => cmpI x.2.2.2 y.2.2.2))) x y
theorem lin_c4 : Lin c4 := Lin.lex (lin_cmpI.comap _) (Lin.lex (lin_cmpI.comap _) (Lin.lex (lin_cmpI.comap _) (lin_cmpI.comap _)))
theorem cmpI_self (a : Int) : cmpI a a = 0 := by unfold cmpI; simp
theorem cmpF_key {a b : Nat} (ha : isNan a = false) (hb : isNan b = false) (hz : ¬ (rk a = rk b ∧ rk a = (0, 0))) : cmpF a b = if cmpI (rk a).1 (rk b).1 = 0 then (if cmpI (rk a).2 (rk b).2 = 0 then cmpI (if rk a = (0, 0) then signV a else 0) (if rk b = (0, 0) then signV b else 0) else cmpI (rk a).2 (rk b).2) else cmpI (rk a).1 (rk b).1 := by
  have e : cmpF a b = if cmpO (rk a) (rk b) = .lt then -1 else if cmpO (rk a) (rk b) = .gt then 1 else 0 := by
    unfold cmpF flt fgt
    rw [ord_rk ha hb, ha, hb]
    cases cmpO (rk a) (rk b) <;> rfl
  rw [e]
  by_cases h : rk a = rk b
  · rw [h, cmpO_refl, cmpI_self, cmpI_self, if_pos rfl, if_pos rfl]
    have hb0 : ¬ rk b = (0, 0) := fun h2 => hz ⟨h, h.trans h2⟩
    rw [if_neg hb0, if_neg hb0]
    rfl
  · unfold cmpO
    by_cases h1 : (rk a).1 < (rk b).1
    · rw [if_pos h1, show cmpI (rk a).1 (rk b).1 = -1 by unfold cmpI; rw [if_pos h1]]; rfl
    · by_cases h2 : (rk b).1 < (rk a).1
      · rw [if_neg h1, if_pos h2, show cmpI (rk a).1 (rk b).1 = 1 by unfold cmpI; rw [if_neg h1, if_pos h2]]; rfl
      · rw [if_neg h1, if_neg h2, show cmpI (rk a).1 (rk b).1 = 0 by unfold cmpI; rw [if_neg h1, if_neg h2]]
        by_cases h3 : (rk a).2 < (rk b).2
        · rw [if_pos h3, show cmpI (rk a).2 (rk b).2 = -1 by unfold cmpI; rw [if_pos h3]]; rfl
        · by_cases h4 : (rk b).2 < (rk a).2
          · rw [if_neg h3, if_pos h4, show cmpI (rk a).2 (rk b).2 = 1 by unfold cmpI; rw [if_neg h3, if_pos h4]]; rfl
          · exact absurd (Prod.ext (by omega) (by omega)) h
theorem feq_nan {a : Nat} (ha : isNan a = true) (b : Nat) : feq a b = false := by
  rw [isNan_read] at ha
  unfold feq
  rw [ord_read, order_nan_l _ _ ha]; rfl
theorem floats_key (a b : Nat) : floatsV a b = c4 (KF a) (KF b) := by
  unfold c4 lex KF
  cases ha : isNan a
  · cases hb : isNan b
    · simp only [Bool.false_eq_true, if_false, cmpI_self, if_true]
      unfold floatsV
      rw [feq0 ha, feq0 hb]
      by_cases h1 : rk a = (0, 0)
      · by_cases h2 : rk b = (0, 0)
        · rw [h1, h2]; simp [cmpI_self]
        · rw [decide_eq_false h2, Bool.and_false, if_neg (by decide)]
          exact cmpF_key ha hb (fun e => h2 (e.1.symm.trans e.2))
      · rw [decide_eq_false h1, Bool.false_and, if_neg (by decide)]
        exact cmpF_key ha hb (fun e => h1 e.2)
    · have e : floatsV a b = 1 := by
        unfold floatsV cmpF
        rw [feq_nan hb, Bool.and_false, if_neg (by decide), ha, hb]; rfl
      rw [e]; rfl
  · cases hb : isNan b
    · have e : floatsV a b = -1 := by
        unfold floatsV cmpF
        rw [feq_nan ha, Bool.false_and, if_neg (by decide), ha, hb]; rfl
      rw [e]; rfl
    · have e : floatsV a b = 0 := by
        unfold floatsV cmpF
        rw [feq_nan ha, Bool.false_and, if_neg (by decide), ha, hb]; rfl
      rw [e]; rfl
/-- Floats stand in a line. -/
theorem lin_floats : Lin floatsV := by
  rw [show floatsV = fun a b => c4 (KF a) (KF b) from funext fun a => funext fun b => floats_key a b]
  exact lin_c4.comap KF
theorem lin_order : Lin order := lin_of_at fun v => linAt_order lin_floats v
end Go.Proofs.YtejfmghjmhiodaaGreatDoor.Vz
namespace Go.Proofs.YtejfmghjmhiodaaGreatDoor.Vz
open Go.RowKit Go.Proofs.YtejfmghjmhiodaaGreatDoorW.PrintWords
set_option linter.unusedVariables false
set_option linter.unusedSimpArgs false
attribute [local go_sem] store_float

theorem order_refl (x : Val) : order x x = 0 := by have := lin_order.anti x x; omega
theorem orders_take : ∀ (l : List Val) (k : Nat), k ≤ l.length → orders (l.take k) l = if k < l.length then -1 else 0
  | [], k, h => by simp at h; subst h; rfl
  | x :: r, 0, _ => by simp [orders]
  | x :: r, k + 1, h => by
    have ih := orders_take r k (by simpa using h)
    rw [List.take_succ_cons, orders_cons, order_refl, if_pos rfl, ih]
    simp
theorem orders_take2 : ∀ (l : List Val) (k : Nat), k ≤ l.length → orders l (l.take k) = if k < l.length then 1 else 0
  | [], k, h => by simp at h; subst h; rfl
  | x :: r, 0, _ => by simp [orders]
  | x :: r, k + 1, h => by
    have ih := orders_take2 r k (by simpa using h)
    rw [List.take_succ_cons, orders_cons, order_refl, if_pos rfl, ih]
    simp
theorem orders_self (l : List Val) : orders l l = 0 := by
  have := orders_take l l.length (Nat.le_refl _)
  rw [List.take_length] at this
  rw [this, if_neg (by omega)]
theorem orders_set : ∀ (l : List Val) (k : Nat) (v : Val) (h : k < l.length), orders l (l.set k v) = order l[k] v
  | [], k, v, h => by simp at h
  | x :: r, 0, v, h => by
    simp only [List.set_cons_zero, orders_cons, orders_self, List.getElem_cons_zero]
    split
    · rename_i h0; exact h0.symm
    · rfl
  | x :: r, k + 1, v, h => by
    have ih := orders_set r k v (by simpa using h)
    rw [List.set_cons_succ, orders_cons, order_refl, if_pos rfl, ih]
    rfl
/-- The law's facts of the order, over lists. -/
theorem order_lists (l m : List Val) : order (.mk 4 0 0 ⟨#[]⟩ l) (.mk 4 0 0 ⟨#[]⟩ m) = orders l m := by
  unfold order
  simp [kindV, cmpI]

/-- A list's beginning. -/
theorem RV.take {W : World} {ok : Nat → Prop} {k i : Int} {f : Nat} {s : ByteArray} {l : List Val} {x0 x1 x2 x3 : Value} {A : Option Addr} {n c : Nat} (h : RV W ok (.mk k i f s l) #[x0, x1, x2, x3, .slice A n c]) (j : Nat) (hj : j ≤ l.length) :
    RV W ok (.mk 4 0 0 ⟨#[]⟩ (l.take j)) #[.int .i64 4, .int .i64 0, .float .f64 0, .string ⟨#[]⟩, .slice A j c] := by
  cases h with
  | mk k i f s l A c g off cs hk hi hf hs hc hb hA hcell hsub =>
    have hl : (l.take j).length = j := by simp; omega
    have hx := RV.mk (W := W) (ok := ok) 4 0 0 ⟨#[]⟩ (l.take j) A c g off cs (by decide) (by decide) (by decide) (by decide) (by omega) (by omega) (fun hp => hA (by omega)) (fun i hi q hq => hcell i (by omega) q hq) (fun i hi => by
      have := hsub i (by omega)
      rw [List.getElem_take]
      exact this)
    rw [hl] at hx
    exact hx
/-- A list, its header put anew. -/
theorem RV.asList {W : World} {ok : Nat → Prop} {k i : Int} {f : Nat} {s : ByteArray} {l : List Val} {x0 x1 x2 x3 : Value} {A : Option Addr} {n c : Nat} (h : RV W ok (.mk k i f s l) #[x0, x1, x2, x3, .slice A n c]) (hn : n = l.length) :
    RV W ok (.mk 4 0 0 ⟨#[]⟩ l) #[.int .i64 4, .int .i64 0, .float .f64 0, .string ⟨#[]⟩, .slice A n c] := by
  have := h.take l.length (Nat.le_refl _)
  rw [List.take_length] at this
  rw [hn]
  exact this
theorem RV.one {W : World} {ok : Nat → Prop} {v : Val} {cs : Array Value} (h : RV W ok v cs) : ∀ u ∈ cs.toList, u.oneCell' = true := by
  obtain ⟨k, i, f, s, A, n, c, rfl⟩ := h.form
  simp [Value.oneCell']
theorem rows_len {l : List (Array Value)} (h : ∀ c ∈ l, c.size = 5) : (rows l).length = l.length * 5 := by
  induction l with
  | nil => rfl
  | cons x r ih =>
    rw [rows, List.length_append, ih (fun c hc => h c (by simp [hc])), Array.length_toList, h x (by simp)]
    simp; omega
theorem rows_mem {l : List (Array Value)} {u : Value} (h : u ∈ rows l) : ∃ c ∈ l, u ∈ c.toList := by
  induction l with
  | nil => cases h
  | cons x r ih =>
    rw [rows, List.mem_append] at h
    rcases h with h | h
    · exact ⟨x, by simp, h⟩
    · obtain ⟨c, hc, hu⟩ := ih h
      exact ⟨c, by simp [hc], hu⟩
/-- The cells of a list that is not empty, in a row. -/
theorem RV.row {W : World} {ok : Nat → Prop} {k i : Int} {f : Nat} {s : ByteArray} {l : List Val} {x0 x1 x2 x3 : Value} {A : Option Addr} {n c : Nat} (h : RV W ok (.mk k i f s l) #[x0, x1, x2, x3, .slice A n c]) (hp : 0 < l.length) :
    ∃ (g off : Nat) (css : List (Array Value)), A = some ⟨g, off, none⟩ ∧ css.length = l.length ∧ (rows css).length = l.length * 5 ∧ (∀ u ∈ rows css, u.oneCell' = true) ∧ (∀ j u, (rows css)[j]? = some u → W.cell? ⟨g, off + j, none⟩ = some u) ∧ (∀ (j : Nat) (h1 : j < css.length) (h2 : j < l.length), RV W ok l[j] css[j]) := by
  cases h with
  | mk k i f s l A c g off cs hk hi hf hs hc hb hA hcell hsub =>
    have h5 : ∀ c ∈ (List.range l.length).map cs, c.size = 5 := fun c hc => by
      obtain ⟨j, hj, rfl⟩ := List.mem_map.1 hc
      exact (hsub j (by simpa using hj)).size
    have hlen := rows_len h5
    rw [List.length_map, List.length_range] at hlen
    refine ⟨g, off, (List.range l.length).map cs, (hA hp).1, by simp, hlen, fun u hu => ?_, fun j u hj => ?_, fun j h1 h2 => ?_⟩
    · obtain ⟨c, hc, hu⟩ := rows_mem hu
      obtain ⟨j, hj, rfl⟩ := List.mem_map.1 hc
      exact (hsub j (by simpa using hj)).one u hu
    · have hjl : j < l.length * 5 := by
        have := (List.getElem?_eq_some_iff.1 hj).1
        omega
      have e : j = j / 5 * 5 + j % 5 := by omega
      have hq : j % 5 < 5 := by omega
      have hd : j / 5 < l.length := by omega
      have hr := rows_get h5 (j / 5) (by simpa using hd) (j % 5) hq
      rw [← e, hj] at hr
      have hcl := hcell (j / 5) hd (j % 5) hq
      rw [show off + j / 5 * 5 + j % 5 = off + j by omega] at hcl
      rw [hcl, hr]
      simp
    · simp only [List.getElem_map, List.getElem_range]
      exact hsub j h2
/-- A row of values, told as a list. -/
theorem RV.ofRow {w1 : World} {base : Nat} {ok : Nat → Prop} {l : List Val} {v : Value} {css : List (Array Value)} (hn : css.length = l.length) (ho : w1.ownsRow base 25 5 v l.length (rows css)) (he : ∀ (j : Nat) (h1 : j < css.length) (h2 : j < l.length), RV w1 ok l[j] css[j]) (hok : ∀ g, base ≤ g → g < w1.heap.size → ok g) (hb : l.length * 64 ≤ 140737488351232) :
    ∃ A c, v = .slice A l.length c ∧ RV w1 ok (.mk 4 0 0 ⟨#[]⟩ l) #[.int .i64 4, .int .i64 0, .float .f64 0, .string ⟨#[]⟩, .slice A l.length c] := by
  rcases ho.2 with ⟨hv, h0⟩ | ⟨g, cap, cur, hv, hg, hh, hc, _, hcs, htk⟩
  · refine ⟨none, 0, by rw [hv, h0], ?_⟩
    obtain rfl : l = [] := List.length_eq_zero_iff.1 h0
    exact RV.flat (by decide) (by decide) (by decide) (by decide)
  · refine ⟨_, cap, hv, ?_⟩
    refine RV.mk 4 0 0 ⟨#[]⟩ l (some ⟨g, 0, none⟩) cap g 0 (fun j => css.getD j #[]) (by decide) (by decide) (by decide) (by decide) hc hb (fun _ => ⟨rfl, hok g hg (blk_lt hh)⟩) (fun j hj q hq => ?_) (fun j hj => ?_)
    · have hj' : j < css.length := by omega
      rw [show 0 + j * 5 + q = j * 5 + q by omega]
      rw [hv] at ho
      rw [World.ownsRow.cellAt ho _ (by omega), rows_get (fun c hc => ?_) j hj' q hq]
      · simp [List.getD_eq_getElem?_getD, hj']
      · obtain ⟨i, hi', rfl⟩ := List.getElem_of_mem hc
        exact (he i hi' (by omega)).size
    · have hj' : j < css.length := by omega
      have e1 : css.getD j #[] = css[j] := by simp [List.getD_eq_getElem?_getD, hj']
      rw [e1]
      exact he j hj' hj
theorem cells_at {W : World} {g off : Nat} {cur cs : Array Value} {e : TypeId} (hb : W.heap[g]? = some (.cells cur e (0, 0))) (hs : off + cs.size ≤ cur.size) :
    ∃ cur', (W.setCells g off cs.toList).heap[g]? = some (.cells cur' e (0, 0)) ∧ cur'.size = cur.size ∧ (∀ q, q < cs.size → cur'[off + q]? = cs[q]?) ∧ (∀ x, x < off ∨ off + cs.size ≤ x → cur'[x]? = cur[x]?) ∧ Save (fun k => k = g) W (W.setCells g off cs.toList) := by
  obtain ⟨cur', h1, h2, h3⟩ := setCells_row cs.toList off W cur hb (by simpa using hs)
  obtain ⟨s1, s2, s3, s4⟩ := setCells_same g cs.toList off W
  refine ⟨cur', h1, h2, fun q hq => ?_, fun x hx => ?_, s1, s2, s3, by rw [s4]; exact Nat.le_refl _, fun k _ hk => setCells_far _ _ k hk⟩
  · rw [← Array.getElem?_toList, h3, List.append_assoc, List.getElem?_append_right (by simp; omega), List.getElem?_append_left (by simp; omega)]
    simp
    congr 1
    omega
  · rw [← Array.getElem?_toList, h3]
    rcases hx with hx | hx
    · rw [List.append_assoc, List.getElem?_append_left (by simp; omega), List.getElem?_take_of_lt hx]
      simp
    · rw [List.getElem?_append_right (by simp; omega), List.getElem?_drop]
      simp
      congr 1
      omega
section
variable {P : Program} {ops : Array Oper} {rest : List Oper} {o : Oper} {a : Act} {Q : Exit → Act → World → Prop}
theorem put_at {W : World} (hgd : o.guard = none) {t : TypeId} {p : Tmp} {v : Operand} (ho : o.op = .store t (.tmp p) v) (hN : o.dst = none) {g off : Nat} {u : Value} {cur cs : Array Value} {e : TypeId}
    (hp : a.eval (.tmp p) = .pointer (some ⟨g, off, none⟩)) (hv : a.eval v = u) (hb : W.heap[g]? = some (.cells cur e (0, 0))) (hs : off + cs.size ≤ cur.size) (hi : (P.info? t).map (·.size) = some cs.size) (h1 : ∀ q ∈ cs.toList, q.oneCell' = true) (hc : u.cells = cs)
    (h : ∀ w1 cur', w1.heap[g]? = some (.cells cur' e (0, 0)) → cur'.size = cur.size → (∀ q, q < cs.size → cur'[off + q]? = cs[q]?) → (∀ x, x < off ∨ off + cs.size ≤ x → cur'[x]? = cur[x]?) → Save (fun k => k = g) W w1 → wpList P ops Q rest a w1) : wpList P ops Q (o :: rest) a W := by
  have hr := run_store_run (P := P) (o := off) t u cs.toList hb (by rw [hc]) (by rw [hi]; simp) (by simpa using hs) h1
  refine wpList_plain hgd fun K hK => ?_
  have hx : (execOp a.eval o).run P W = .ok .skip (W.setCells g off cs.toList) := by
    simp [execOp, ho, hp, hv, hr]
  unfold Oper.wp
  rw [hx]
  show K (a.put o.dst undef) _
  rw [hN]
  obtain ⟨cur', k1, k2, k3, k4, k5⟩ := cells_at hb hs
  exact hK _ _ (h _ cur' k1 k2 k3 k4 k5)
end
end Go.Proofs.YtejfmghjmhiodaaGreatDoor.Vz
namespace Go.Proofs.YtejfmghjmhiodaaGreatDoor.Vz
open Go.RowKit Go.Proofs.YtejfmghjmhiodaaGreatDoorW.PrintWords
set_option linter.unusedVariables false
set_option linter.unusedSimpArgs false

/-- A value whose lists lie in rows of its own, no list's row in a list within it. -/
inductive OV (W : World) : (Nat → Prop) → Val → Array Value → Prop
  | mk (ok : Nat → Prop) (k i : Int) (f : Nat) (s : ByteArray) (l : List Val) (A : Option Addr) (c : Nat) (css : List (Array Value))
      (hk : (Lit.int .i64 k).wf = true) (hi : (Lit.int .i64 i).wf = true) (hf : (Lit.float .f64 f).wf = true) (hs : s.size ≤ 140737488351232)
      (hb : l.length * 64 ≤ 140737488351232) (hn : css.length = l.length) (ho : W.ownsRow 0 25 5 (.slice A l.length c) l.length (rows css)) (hok : ∀ g, (Value.slice A l.length c).ownBlock = some g → ok g)
      (hsub : ∀ (j : Nat) (h1 : j < css.length) (h2 : j < l.length), OV W (fun g => ok g ∧ (Value.slice A l.length c).ownBlock ≠ some g) l[j] css[j]) :
      OV W ok (.mk k i f s l) #[.int .i64 k, .int .i64 i, .float .f64 f, .string s, .slice A l.length c]
theorem OV.form {W : World} {ok : Nat → Prop} {v : Val} {cs : Array Value} (h : OV W ok v cs) : ∃ (k i : Int) (f : Nat) (s : ByteArray) (A : Option Addr) (n c : Nat), cs = #[.int .i64 k, .int .i64 i, .float .f64 f, .string s, .slice A n c] := by
  cases h with
  | mk ok k i f s l A c css => exact ⟨k, i, f, s, A, _, c, rfl⟩
theorem OV.size {W : World} {ok : Nat → Prop} {v : Val} {cs : Array Value} (h : OV W ok v cs) : cs.size = 5 := by
  obtain ⟨_, _, _, _, _, _, _, rfl⟩ := h.form; rfl
theorem own_at {w w' : World} {base e size : Nat} {v : Value} {n : Nat} {xs : List Value} (h : w.ownsRow base e size v n xs) (hs : ∀ k, v.ownBlock = some k → k < w.heap.size → w'.heap[k]? = w.heap[k]?) : w'.ownsRow base e size v n xs := by
  obtain ⟨h1, h2⟩ := h
  refine ⟨h1, ?_⟩
  rcases h2 with h2 | ⟨g, cap, cur, hv, hg, hh, r⟩
  · exact .inl h2
  · exact .inr ⟨g, cap, cur, hv, hg, (hs g (by rw [hv]; rfl) (blk_lt hh)).trans hh, r⟩
theorem own_zero {w : World} {base e size : Nat} {v : Value} {n : Nat} {xs : List Value} (h : w.ownsRow base e size v n xs) : w.ownsRow 0 e size v n xs := by
  obtain ⟨h1, h2⟩ := h
  refine ⟨h1, ?_⟩
  rcases h2 with h2 | ⟨g, cap, cur, hv, hg, r⟩
  · exact .inl h2
  · exact .inr ⟨g, cap, cur, hv, Nat.zero_le _, r⟩
theorem OV.step {W W' : World} {ok : Nat → Prop} {v : Val} {cs : Array Value} (h : OV W ok v cs) : ∀ {ok' : Nat → Prop}, (∀ g, ok g → g < W.heap.size → W'.heap[g]? = W.heap[g]?) → (∀ g, ok g → g < W.heap.size → ok' g) → OV W' ok' v cs := by
  induction h with
  | mk ok k i f s l A c css hk hi hf hs hb hn ho hok hsub ih =>
    intro ok' hm hok'
    have hlt := fun g hg => (own_under ho g hg).2
    refine .mk ok' k i f s l A c css hk hi hf hs hb hn (own_at ho (fun g hg hl => hm g (hok g hg) hl)) (fun g hg => hok' g (hok g hg) (hlt g hg)) (fun j h1 h2 => ?_)
    exact ih j h1 h2 (fun g hg hl => hm g hg.1 hl) (fun g hg hl => ⟨hok' g hg.1 hl, hg.2⟩)
theorem OV.kept {W W' : World} {ok : Nat → Prop} {v : Val} {cs : Array Value} (h : OV W ok v cs) (hb : Below W.heap.size W W') : OV W' ok v cs := h.step (fun g _ hg => hb.block g hg) (fun _ h _ => h)
theorem OV.mono {W : World} {ok ok' : Nat → Prop} {v : Val} {cs : Array Value} (h : OV W ok v cs) (hok : ∀ g, ok g → g < W.heap.size → ok' g) : OV W ok' v cs := h.step (fun _ _ _ => rfl) hok
theorem OV.rv {W : World} {ok : Nat → Prop} {v : Val} {cs : Array Value} (h : OV W ok v cs) : RV W ok v cs := by
  induction h with
  | mk ok k i f s l A c css hk hi hf hs hb hn ho hok hsub ih =>
    have h5 : ∀ c ∈ css, c.size = 5 := fun c hc => by
      obtain ⟨i, hi', rfl⟩ := List.getElem_of_mem hc
      exact (hsub i hi' (by omega)).size
    rcases ho.2 with ⟨hv, h0⟩ | ⟨g, cap, cur, hv, hg, hh, hc, _, hcs, htk⟩
    · obtain rfl : l = [] := List.length_eq_zero_iff.1 h0
      exact RV.flat hk hi hf hs
    · simp only [Value.slice.injEq, true_and] at hv
      obtain ⟨rfl, rfl⟩ := hv
      refine RV.mk k i f s l (some ⟨g, 0, none⟩) c g 0 (fun j => css.getD j #[]) hk hi hf hs hc hb (fun _ => ⟨rfl, hok g rfl⟩) (fun j hj q hq => ?_) (fun j hj => ?_)
      · have hj' : j < css.length := by omega
        rw [show 0 + j * 5 + q = j * 5 + q by omega]
        rw [World.ownsRow.cellAt ho _ (by omega), rows_get h5 j hj' q hq]
        simp [List.getD_eq_getElem?_getD, hj']
      · have hj' : j < css.length := by omega
        have e1 : css.getD j #[] = css[j] := by simp [List.getD_eq_getElem?_getD, hj']
        rw [e1]
        exact (ih j hj' hj).mono (fun g hg _ => hg.1)
theorem OV.flat {W : World} {ok : Nat → Prop} {k i : Int} {f : Nat} {s : ByteArray} (hk : (Lit.int .i64 k).wf = true) (hi : (Lit.int .i64 i).wf = true) (hf : (Lit.float .f64 f).wf = true) (hs : s.size ≤ 140737488351232) : OV W ok (.mk k i f s []) #[.int .i64 k, .int .i64 i, .float .f64 f, .string s, .slice none 0 0] :=
  .mk ok k i f s [] none 0 [] hk hi hf hs (by decide) rfl ⟨rfl, .inl ⟨rfl, rfl⟩⟩ (fun g hg => by cases hg) (fun j h1 => absurd h1 (Nat.not_lt_zero j))
/-- The loop of Clean, at its head. -/
structure Co (B : Nat) (l : List Val) (j : Nat) (v : Value) (css : List (Array Value)) (wr : World) : Prop where
  b : B ≤ wr.heap.size
  n : css.length = j
  o : wr.ownsRow B 25 5 v j (rows css)
  e : ∀ (i : Nat) (h : i < css.length) (h' : i < l.length), OV wr (fun g => B ≤ g ∧ v.ownBlock ≠ some g) (clean l[i]) css[i]
theorem Co.kept {B : Nat} {l : List Val} {j : Nat} {v : Value} {css : List (Array Value)} {w w' : World} (h : Co B l j v css w) (hs : w.heap.size ≤ w'.heap.size) (hm : ∀ g, B ≤ g → g < w.heap.size → w'.heap[g]? = w.heap[g]?) : Co B l j v css w' :=
  ⟨Nat.le_trans h.b hs, h.n, own_at h.o (fun g hg hl => hm g (own_under h.o g hg).1 hl), fun i h1 h2 => (h.e i h1 h2).step (fun g hg hl => hm g hg.1 hl) (fun _ hg _ => hg)⟩
theorem Co.snoc {B : Nat} {w1 w2 : World} {l : List Val} {j : Nat} {v v2 : Value} {css : List (Array Value)} {x : Val} {cs : Array Value} (hj : j < l.length) (hx : l[j] = x) (h : Co B l j v css w1)
    (hc : OV w1 (fun g => B ≤ g ∧ v.ownBlock ≠ some g) (clean x) cs) (hown : w2.ownsRow B 25 5 v2 (j + 1) (rows css ++ cs.toList)) (hg : w1.grownBy w2 v.ownBlock) (hat : v2.ownBlock = v.ownBlock ∨ ∃ b, v2.ownBlock = some b ∧ w1.heap.size ≤ b) : Co B l (j + 1) v2 (css ++ [cs]) w2 := by
  have hn := h.n
  have hm : ∀ {y : Val} {c : Array Value}, OV w1 (fun g => B ≤ g ∧ v.ownBlock ≠ some g) y c → OV w2 (fun g => B ≤ g ∧ v2.ownBlock ≠ some g) y c := fun h =>
    h.step (fun g hok hlt => hg.block g hlt (fun e => hok.2 e.symm)) (fun g hok hlt => ⟨hok.1, by
      rcases hat with e | ⟨b, e, hbb⟩
      · rw [e]; exact hok.2
      · rw [e]; intro hh; injection hh with hh; omega⟩)
  refine ⟨Nat.le_trans h.b hg.size, by simp [hn], by rw [rows_snoc]; exact hown, fun i h1 h2 => ?_⟩
  by_cases hi : i < css.length
  · rw [List.getElem_append_left hi]; exact hm (h.e i hi h2)
  · have e : i = css.length := by simp at h1; omega
    subst e
    rw [List.getElem_append_right (Nat.le_refl _)]
    simp only [Nat.sub_self, List.getElem_cons_zero]
    have e2 : l[css.length] = x := by rw [← hx]; congr 1
    rw [e2]; exact hm hc
theorem Co.done {B : Nat} {w1 : World} {l : List Val} {v : Value} {css : List (Array Value)} (h : Co B l l.length v css w1) (hb : l.length * 64 ≤ 140737488351232) : ∃ A c, v = .slice A l.length c ∧ OV w1 (fun g => B ≤ g) (.mk 4 0 0 ⟨#[]⟩ (cleans l)) #[.int .i64 4, .int .i64 0, .float .f64 0, .string ⟨#[]⟩, .slice A l.length c] := by
  have hl : (cleans l).length = l.length := by rw [cleans_map]; simp
  obtain ⟨A, c, hv⟩ : ∃ A c, v = .slice A l.length c := by
    rcases h.o.2 with ⟨hv, h0⟩ | ⟨g, cap, cur, hv, _⟩
    · exact ⟨none, 0, by rw [hv, h0]⟩
    · exact ⟨_, cap, hv⟩
  subst hv
  refine ⟨A, c, rfl, ?_⟩
  have hx := OV.mk (W := w1) (fun g => B ≤ g) 4 0 0 ⟨#[]⟩ (cleans l) A c css (by decide) (by decide) (by decide) (by decide) (by rw [hl]; exact hb) (by rw [hl]; exact h.n) (by rw [hl]; exact own_zero h.o) (fun g hg => (own_under h.o g (by rw [hl] at hg; exact hg)).1) (fun j h1 h2 => ?_)
  · rw [hl] at hx; exact hx
  · have e2 : (cleans l)[j] = clean (l[j]'(by rw [← hl]; exact h2)) := by simp [cleans_map]
    rw [e2]
    exact (h.e j h1 (by rw [← hl]; exact h2)).mono (fun g hg _ => ⟨hg.1, by have := hg.2; cases A <;> exact this⟩)
/-- What the program's Clean tells. -/
def PCleanC (v : Val) : Prop := ∀ (W : World) (ok : Nat → Prop) (cs : Array Value), RV W ok v cs → Calls Tryz.prog 50 #[.agg cs] W fun e w' => ∃ cs', e = .returned (.agg cs') ∧ OV w' (fun g => W.heap.size ≤ g) (clean v) cs' ∧ Below W.heap.size W w'
end Go.Proofs.YtejfmghjmhiodaaGreatDoor.Vz
namespace Go.Proofs.YtejfmghjmhiodaaGreatDoor.Vz
open Go.RowKit Go.Proofs.YtejfmghjmhiodaaGreatDoorW.PrintWords
set_option linter.unusedVariables false
set_option linter.unusedSimpArgs false
attribute [local go_sem] store_float

mutual
def strangeV : Val → Bool
  | .mk k _ _ _ l => if kindV k = k then (if k = 4 then stranges l else false) else true
def stranges : List Val → Bool
  | [] => false
  | x :: r => if strangeV x = true then true else stranges r
end
theorem stranges_nil : stranges [] = false := by rw [stranges]
theorem stranges_cons (x : Val) (r : List Val) : stranges (x :: r) = if strangeV x = true then true else stranges r := by rw [stranges]
def StrangeC (v : Val) : Prop := ∀ (W : World) (ok : Nat → Prop) (cs : Array Value), RV W ok v cs → Calls Tryz.prog 39 #[.agg cs] W fun e w' => e = .returned (.bool (strangeV v)) ∧ Below W.heap.size W w'
theorem enters39 (args : Array Value) (W : World) : (callFunc 39 args).run Tryz.prog W = .ok (.enter 39 args) W := by kernel_rfl
theorem enters58 (args : Array Value) (W : World) : (callFunc 58 args).run Tryz.prog W = .ok (.enter 58 args) W := by kernel_rfl

set_option maxHeartbeats 8000000 in
set_option maxRecDepth 100000 in
theorem index71s (k i : Int) (f : Nat) (s : ByteArray) (l : List Val) (hE : ∀ (j : Nat) (hj : j < l.length), StrangeC l[j]) (W : World) (ok : Nat → Prop) (x0 x1 x2 x3 : Value) (A : Option Addr) (c : Nat)
    (hR : RV W ok (.mk k i f s l) #[x0, x1, x2, x3, .slice A l.length c]) :
    Calls Tryz.prog 71 #[.slice A l.length c, .func (.func 39) #[] #[]] W fun e w' => ∃ r : Int, e = .returned (.int .i64 r) ∧ decide (0 ≤ r) = stranges l ∧ Below W.heap.size W w' := by
  obtain ⟨A0, c0, e0, wk, wi, wf, ws, wc, wb⟩ := hR.len
  have HI := Aside0.mk hE
  have HR := Aside0.mk hR
  have HWB := Aside0.mk (show (l.length : Int) * 64 ≤ 140737488351232 by omega)
  have hnn : (0 : Int) ≤ (l.length : Int) := by omega
  have hent := enters39
  clear hE hR wk wi wf ws wc wb e0
  obtain ⟨n, hn⟩ : ∃ n, l.length = n := ⟨_, rfl⟩
  have HNL := Aside0.mk hn
  rw [hn] at HR HWB hnn ⊢
  clear hn
  obtain ⟨O, hO⟩ : ∃ O, stranges l = O := ⟨_, rfl⟩
  rw [hO]
  have HO := Aside0.mk hO
  clear hO
  go_enter Tryz.func71, Tryz.ntmps71
  go_wp2
  go_loopw [8] (fun ix wr => ∃ j : Nat, j ≤ n ∧ ix = .int .i64 (j : Int) ∧ Aside0 (Below W.heap.size W wr) ∧ Aside0 (stranges (l.drop j) = O)) (fun ix _ => n - (intOf ix).toNat)
  case atStart => exact ⟨0, by omega, rfl, Aside0.mk (Below.refl _ _), HO⟩
  case round =>
    obtain ⟨j, hj, rfl, HB', HOj⟩ := hrel
    by_cases hlt : j < n
    · have hji : (j : Int) < (n : Int) := by omega
      have hj0 : (0 : Int) ≤ (j : Int) := by omega
      have hjl : j < l.length := by rw [HNL.out]; exact hlt
      obtain ⟨g, off, k', i', f', s', A', n', c', rfl, hg1, hg2, hsub, p0, p1, p2, p3, p4⟩ := (HR.out.kept HB'.out).elem j hjl
      have hih := HI.out j hjl
      have HOj2 := Aside0.mk HOj.out
      rw [dropAt l j hjl, stranges_cons] at HOj2
      generalize l[j] = x at hsub hih HOj2
      have HSub := Aside0.mk hsub
      have HIx := Aside0.mk hih
      obtain ⟨o, ho⟩ : ∃ o, strangeV x = o := ⟨_, rfl⟩
      have HOo := Aside0.mk ho
      have hwk : IntKind.i64.wrap ((j : Int) + 1) = ((j + 1 : Nat) : Int) := by have := HWB.out; rw [IntKind.wrap_i64]; omega
      clear hsub hih hjl hg1 hg2 ho
      rw [HOo.out] at HOj2
      cases o
      · have HN := Aside0.mk (show stranges (l.drop (j + 1)) = O by have := HOj2.out; rwa [if_neg (by decide)] at this)
        go_wp2_with (first
          | (go_at_call 39; refine (HIx.out _ _ _ HSub.out).mono ?_; rw [HOo.out]; rintro e w4 ⟨rfl, hb⟩; have HB2 := Aside0.mk (below_step HB'.out hb); clear hb))
        go_roundw
        case rel => exact ⟨j + 1, by omega, by go_num, HB2, HN⟩
        case measure => simp [intOf]; omega
      · have HN := Aside0.mk (show true = O by have := HOj2.out; rwa [if_pos rfl] at this)
        go_wp2_with (first
          | (go_at_call 39; refine (HIx.out _ _ _ HSub.out).mono ?_; rw [HOo.out]; rintro e w4 ⟨rfl, hb⟩; have HB2 := Aside0.mk (below_step HB'.out hb); clear hb))
        go_ret
        exact ⟨j, rfl, by rw [← HN.out]; simp, HB2.out⟩
    · obtain rfl : j = n := by omega
      have HOj2 := Aside0.mk HOj.out
      rw [show l.drop j = [] from List.drop_eq_nil_of_le (by rw [HNL.out]; omega), stranges_nil] at HOj2
      go_wp2
      go_ret
      exact ⟨-1, rfl, by rw [← HOj2.out]; rfl, HB'.out⟩


set_option maxHeartbeats 8000000 in
set_option maxRecDepth 100000 in
theorem contains57s (k i : Int) (f : Nat) (s : ByteArray) (l : List Val) (hE : ∀ (j : Nat) (hj : j < l.length), StrangeC l[j]) (W : World) (ok : Nat → Prop) (x0 x1 x2 x3 : Value) (A : Option Addr) (c : Nat)
    (hR : RV W ok (.mk k i f s l) #[x0, x1, x2, x3, .slice A l.length c]) :
    Calls Tryz.prog 57 #[.slice A l.length c, .func (.func 39) #[] #[]] W fun e w' => e = .returned (.bool (stranges l)) ∧ Below W.heap.size W w' := by
  have H := Aside0.mk (index71s k i f s l hE W ok x0 x1 x2 x3 A c hR)
  clear hE hR
  go_enter Tryz.func57, Tryz.ntmps57
  go_wp2_with (go_at_call 71; refine H.out.mono ?_; rintro e w1 ⟨r, rfl, hr, hb⟩; have HR := Aside0.mk hr; have HB := Aside0.mk hb; clear hr hb)
  go_ret
  exact ⟨by rw [← HR.out]; rfl, HB.out⟩

theorem fiveS {W w : World} {gb : Nat} {k i : Int} {f : Nat} {s : ByteArray} {l : List Val} {A : Option Addr} {c : Nat} (KB : W.heap[gb]? = some (.cells #[.int .i64 k, .int .i64 i, .float .f64 f, .string s, .slice A l.length c] 25 (0, 0))) (h : Below W.heap.size W w) : w.cell? ⟨gb, 0, none⟩ = some (.int .i64 k) ∧ w.cell? ⟨gb, 1, none⟩ = some (.int .i64 i) ∧ w.cell? ⟨gb, 2, none⟩ = some (.float .f64 f) ∧ w.cell? ⟨gb, 3, none⟩ = some (.string s) ∧ w.cell? ⟨gb, 4, none⟩ = some (.slice A l.length c) :=
  ⟨blk_cell (blk_below KB h) 0, blk_cell (blk_below KB h) 1, blk_cell (blk_below KB h) 2, blk_cell (blk_below KB h) 3, blk_cell (blk_below KB h) 4⟩

set_option maxHeartbeats 8000000 in
set_option maxRecDepth 100000 in
theorem strange_ne (k i : Int) (f : Nat) (s : ByteArray) (l : List Val) (A : Option Addr) (c : Nat) (hk : kindV k ≠ k) (W : World) (ok : Nat → Prop) (hR : RV W ok (.mk k i f s l) #[.int .i64 k, .int .i64 i, .float .f64 f, .string s, .slice A l.length c]) :
    Calls Tryz.prog 39 #[.agg #[.int .i64 k, .int .i64 i, .float .f64 f, .string s, .slice A l.length c]] W fun e w' => e = .returned (.bool true) ∧ Below W.heap.size W w' := by
  have e1 : (k != kindV k) = true := bne_iff_ne.2 fun x => hk x.symm
  clear hk
  have HR := Aside0.mk hR
  have h31 := fun W => kind31 k i f s A l.length c W
  have H31 := Aside0.mk h31
  clear hR h31
  go_enter Tryz.func39, Tryz.ntmps39
  go_upto_region 1 with (first
    | ((with_reducible refine gate_dst (N := 1) rfl ?_); refine box_event ?hg (N := 1) ?hd (cs := #[.int .i64 k, .int .i64 i, .float .f64 f, .string s, .slice A l.length c]) (t := 25) ?hr ?_; (case hd => rfl); (case hg => rfl); (case hr => first | (go_simp; done) | (go_simp; rfl)); intro gb hg w1 hbox hb; have HB := Aside0.mk hb; have KB := Aside0.mk hbox; clear hg hbox hb))
  have b0 : w1.cell? ⟨gb, 0, none⟩ = some (.int .i64 k) := blk_cell KB.out 0
  have b1 : w1.cell? ⟨gb, 1, none⟩ = some (.int .i64 i) := blk_cell KB.out 1
  have b2 : w1.cell? ⟨gb, 2, none⟩ = some (.float .f64 f) := blk_cell KB.out 2
  have b3 : w1.cell? ⟨gb, 3, none⟩ = some (.string s) := blk_cell KB.out 3
  have b4 : w1.cell? ⟨gb, 4, none⟩ = some (.slice A l.length c) := blk_cell KB.out 4
  refine wp_region_held_drew (S := fun w' => w'.cell? ⟨gb, 0, none⟩ = some (.int .i64 k) ∧ w'.cell? ⟨gb, 1, none⟩ = some (.int .i64 i) ∧ w'.cell? ⟨gb, 2, none⟩ = some (.float .f64 f) ∧ w'.cell? ⟨gb, 3, none⟩ = some (.string s) ∧ w'.cell? ⟨gb, 4, none⟩ = some (.slice A l.length c)) (by kernel_rfl) ?_ (fun hHeld => ?_)
  · exact ⟨b0, b1, b2, b3, b4⟩
  refine wpAnyH_take (i := 0) (oi := { dst := some 3, op := Go.Op.fieldAddr 25 (Go.Operand.tmp 1) 0, type := 0, pos := "value.go:47", after := #[], guard := none }) (v := ?_) rfl (by kernel_rfl) (by kernel_rfl) (by kernel_rfl) (fun _ _ _ h => h) (Or.inl ⟨by rfl, ?_⟩) (by assumption) ?_
  rotate_left
  · first | (intro w hSw; (try dsimp only at hSw); go_simp; done) | (intro w hSw; (try dsimp only at hSw); go_simp; with_reducible rfl)
  try simp only [Act.put, List.setIfInBounds_toArray, List.set_cons_zero, List.set_cons_succ]
  refine wpAnyH_take (i := 1) (oi := { dst := some 4, op := Go.Op.load 3 (Go.Operand.tmp 3), type := 3, pos := "value.go:47", after := #[{ on := 0, ground := Go.Ground.data }], guard := none }) (v := ?_) rfl (by kernel_rfl) (by kernel_rfl) (by kernel_rfl) (fun _ _ _ h => h) (Or.inl ⟨by rfl, ?_⟩) (by assumption) ?_
  rotate_left
  · first | (intro w hSw; (try dsimp only at hSw); go_simp; done) | (intro w hSw; (try dsimp only at hSw); go_simp; with_reducible rfl)
  try simp only [Act.put, List.setIfInBounds_toArray, List.set_cons_zero, List.set_cons_succ]
  refine wpAnyH_take (i := 2) (oi := { dst := some 5, op := Go.Op.load 25 (Go.Operand.tmp 1), type := 25, pos := "value.go:47", after := #[], guard := none }) (v := ?_) rfl (by kernel_rfl) (by kernel_rfl) (by kernel_rfl) (fun _ _ _ h => h) (Or.inl ⟨by rfl, ?_⟩) (by assumption) ?_
  rotate_left
  · first | (intro w hSw; (try dsimp only at hSw); go_simp; done) | (intro w hSw; (try dsimp only at hSw); go_simp; with_reducible rfl)
  try simp only [Act.put, List.setIfInBounds_toArray, List.set_cons_zero, List.set_cons_succ]
  refine wpAnyH_ready (rs := [3]) (by kernel_rfl) (by simp) ?_
  refine AllReadyH.cons (o := { dst := some 6, op := Go.Op.call { callee := Go.Callee.value (Go.Operand.func 31), args := #[Go.Operand.tmp 5], argTypes := #[25] }, type := 3, pos := "value.go:47", after := #[{ on := 2, ground := Go.Ground.data }], guard := none }) rfl (fun K hK => ?_) AllReadyH.nil
  go_simp
  refine (H31.out _).mono ?_
  rintro e w2 ⟨rfl, hb⟩
  refine hK.out _ _ ?_ (fun hHeld => ?_)
  · exact fiveS (W := w1.drew) KB.out hb
  clear hK K
  try simp only [Act.put, List.setIfInBounds_toArray, List.set_cons_zero, List.set_cons_succ]
  refine wpAnyH_take (i := 4) (oi := { dst := some 7, op := Go.Op.binOp Go.BinOp.neq 3 (Go.Operand.tmp 4) (Go.Operand.tmp 6) 3, type := 4, pos := "value.go:47", after := #[{ on := 1, ground := Go.Ground.data }, { on := 3, ground := Go.Ground.data }], guard := none }) (v := ?_) rfl (by kernel_rfl) (by kernel_rfl) (by kernel_rfl) (fun _ _ _ h => h) (Or.inl ⟨by rfl, ?_⟩) (by assumption) ?_
  rotate_left
  · first | (intro w hSw; (try dsimp only at hSw); go_simp; done) | (intro w hSw; (try dsimp only at hSw); go_simp; with_reducible rfl)
  try simp only [Act.put, List.setIfInBounds_toArray, List.set_cons_zero, List.set_cons_succ]
  refine wpAnyH_take (i := 5) (oi := { dst := some 8, op := Go.Op.move (Go.Operand.tmp 7), type := 4, pos := "value.go:47", after := #[{ on := 4, ground := Go.Ground.data }, { on := 3, ground := Go.Ground.chain }], guard := none }) (v := ?_) rfl (by kernel_rfl) (by kernel_rfl) (by kernel_rfl) (fun _ _ _ h => h) (Or.inl ⟨by rfl, ?_⟩) (by assumption) ?_
  rotate_left
  · first | (intro w hSw; (try dsimp only at hSw); go_simp; done) | (intro w hSw; (try dsimp only at hSw); go_simp; with_reducible rfl)
  try simp only [Act.put, List.setIfInBounds_toArray, List.set_cons_zero, List.set_cons_succ]
  refine wpAnyH_take (i := 6) (oi := { dst := some 9, op := Go.Op.fieldAddr 25 (Go.Operand.tmp 1) 0, type := 0, pos := "value.go:47", after := #[{ on := 5, ground := Go.Ground.guard }], guard := some (5, false) }) (v := undef) rfl (by kernel_rfl) (by kernel_rfl) (by kernel_rfl) (fun _ _ _ h => h) (Or.inr ⟨by rfl, rfl⟩) (by assumption) ?_
  try simp only [Act.put, List.setIfInBounds_toArray, List.set_cons_zero, List.set_cons_succ]
  refine wpAnyH_take (i := 7) (oi := { dst := some 10, op := Go.Op.load 3 (Go.Operand.tmp 9), type := 3, pos := "value.go:47", after := #[{ on := 6, ground := Go.Ground.data }, { on := 5, ground := Go.Ground.guard }], guard := some (5, false) }) (v := undef) rfl (by kernel_rfl) (by kernel_rfl) (by kernel_rfl) (fun _ _ _ h => h) (Or.inr ⟨by rfl, rfl⟩) (by assumption) ?_
  try simp only [Act.put, List.setIfInBounds_toArray, List.set_cons_zero, List.set_cons_succ]
  refine wpAnyH_take (i := 8) (oi := { dst := some 11, op := Go.Op.binOp Go.BinOp.eql 3 (Go.Operand.tmp 10) (Go.Operand.const (Go.Value.int Go.IntKind.i64 4)) 3, type := 4, pos := "value.go:47", after := #[{ on := 7, ground := Go.Ground.data }, { on := 5, ground := Go.Ground.guard }], guard := some (5, false) }) (v := undef) rfl (by kernel_rfl) (by kernel_rfl) (by kernel_rfl) (fun _ _ _ h => h) (Or.inr ⟨by rfl, rfl⟩) (by assumption) ?_
  try simp only [Act.put, List.setIfInBounds_toArray, List.set_cons_zero, List.set_cons_succ]
  refine wpAnyH_take (i := 9) (oi := { dst := some 12, op := Go.Op.move (Go.Operand.tmp 11), type := 4, pos := "value.go:47", after := #[{ on := 8, ground := Go.Ground.data }, { on := 5, ground := Go.Ground.chain }, { on := 5, ground := Go.Ground.guard }], guard := some (5, false) }) (v := undef) rfl (by kernel_rfl) (by kernel_rfl) (by kernel_rfl) (fun _ _ _ h => h) (Or.inr ⟨by rfl, rfl⟩) (by assumption) ?_
  try simp only [Act.put, List.setIfInBounds_toArray, List.set_cons_zero, List.set_cons_succ]
  refine wpAnyH_take (i := 10) (oi := { dst := some 13, op := Go.Op.fieldAddr 25 (Go.Operand.tmp 1) 4, type := 0, pos := "value.go:47", after := #[{ on := 9, ground := Go.Ground.guard }], guard := some (9, true) }) (v := undef) rfl (by kernel_rfl) (by kernel_rfl) (by kernel_rfl) (fun _ _ _ h => h) (Or.inr ⟨by rfl, rfl⟩) (by assumption) ?_
  try simp only [Act.put, List.setIfInBounds_toArray, List.set_cons_zero, List.set_cons_succ]
  refine wpAnyH_take (i := 11) (oi := { dst := some 14, op := Go.Op.load 23 (Go.Operand.tmp 13), type := 23, pos := "value.go:47", after := #[{ on := 10, ground := Go.Ground.data }, { on := 9, ground := Go.Ground.guard }], guard := some (9, true) }) (v := undef) rfl (by kernel_rfl) (by kernel_rfl) (by kernel_rfl) (fun _ _ _ h => h) (Or.inr ⟨by rfl, rfl⟩) (by assumption) ?_
  try simp only [Act.put, List.setIfInBounds_toArray, List.set_cons_zero, List.set_cons_succ]
  refine wpAnyH_take (i := 12) (oi := { dst := some 15, op := Go.Op.call { callee := Go.Callee.value (Go.Operand.func 57), args := #[Go.Operand.tmp 14, Go.Operand.func 39], argTypes := #[23, 27] }, type := 4, pos := "value.go:47", after := #[{ on := 11, ground := Go.Ground.data }, { on := 9, ground := Go.Ground.chain }, { on := 9, ground := Go.Ground.guard }], guard := some (9, true) }) (v := undef) rfl (by kernel_rfl) (by kernel_rfl) (by kernel_rfl) (fun _ _ _ h => h) (Or.inr ⟨by rfl, rfl⟩) (by assumption) ?_
  try simp only [Act.put, List.setIfInBounds_toArray, List.set_cons_zero, List.set_cons_succ]
  refine wpAnyH_take (i := 13) (oi := { dst := some 16, op := Go.Op.pick (Go.Operand.tmp 12) (Go.Operand.tmp 15) (Go.Operand.const (Go.Value.bool false)), type := 4, pos := "value.go:47", after := #[{ on := 9, ground := Go.Ground.data }, { on := 12, ground := Go.Ground.data }, { on := 5, ground := Go.Ground.guard }], guard := some (5, false) }) (v := undef) rfl (by kernel_rfl) (by kernel_rfl) (by kernel_rfl) (fun _ _ _ h => h) (Or.inr ⟨by rfl, rfl⟩) (by assumption) ?_
  try simp only [Act.put, List.setIfInBounds_toArray, List.set_cons_zero, List.set_cons_succ]
  refine wpAnyH_take (i := 14) (oi := { dst := some 17, op := Go.Op.pick (Go.Operand.tmp 8) (Go.Operand.const (Go.Value.bool true)) (Go.Operand.tmp 16), type := 4, pos := "value.go:47", after := #[{ on := 5, ground := Go.Ground.data }, { on := 13, ground := Go.Ground.data }], guard := none }) (v := ?_) rfl (by kernel_rfl) (by kernel_rfl) (by kernel_rfl) (fun _ _ _ h => h) (Or.inl ⟨by rfl, ?_⟩) (by assumption) ?_
  rotate_left
  · first | (intro w hSw; (try dsimp only at hSw); go_simp; done) | (intro w hSw; (try dsimp only at hSw); go_simp; with_reducible rfl)
  try simp only [Act.put, List.setIfInBounds_toArray, List.set_cons_zero, List.set_cons_succ]
  refine wpAnyH_take (i := 15) (oi := { dst := some 2, op := Go.Op.assign (Go.Operand.tmp 17), type := 4, pos := "value.go:47", after := #[{ on := 14, ground := Go.Ground.data }, { on := 12, ground := Go.Ground.chain }, { on := 0, ground := Go.Ground.phase }, { on := 1, ground := Go.Ground.phase }, { on := 2, ground := Go.Ground.phase }, { on := 3, ground := Go.Ground.phase }, { on := 4, ground := Go.Ground.phase }, { on := 5, ground := Go.Ground.phase }, { on := 6, ground := Go.Ground.phase }, { on := 7, ground := Go.Ground.phase }, { on := 8, ground := Go.Ground.phase }, { on := 9, ground := Go.Ground.phase }, { on := 10, ground := Go.Ground.phase }, { on := 11, ground := Go.Ground.phase }, { on := 12, ground := Go.Ground.phase }, { on := 13, ground := Go.Ground.phase }, { on := 14, ground := Go.Ground.phase }], guard := none }) (v := ?_) rfl (by kernel_rfl) (by kernel_rfl) (by kernel_rfl) (fun _ _ _ h => h) (Or.inl ⟨by rfl, ?_⟩) (by assumption) ?_
  rotate_left
  · first | (intro w hSw; (try dsimp only at hSw); go_simp; done) | (intro w hSw; (try dsimp only at hSw); go_simp; with_reducible rfl)
  try simp only [Act.put, List.setIfInBounds_toArray, List.set_cons_zero, List.set_cons_succ]
  refine wpAnyH_done (by kernel_rfl) ?_ _
  have HB3 := Aside0.mk (below_step HB.out.drew hb)
  clear hb b0 b1 b2 b3 b4
  go_wp2
  go_ret
  exact ⟨rfl, HB3.out⟩

set_option maxHeartbeats 8000000 in
set_option maxRecDepth 100000 in
theorem strange_no (k i : Int) (f : Nat) (s : ByteArray) (l : List Val) (A : Option Addr) (c : Nat) (hk : kindV k = k) (h4 : k ≠ 4) (W : World) (ok : Nat → Prop) (hR : RV W ok (.mk k i f s l) #[.int .i64 k, .int .i64 i, .float .f64 f, .string s, .slice A l.length c]) :
    Calls Tryz.prog 39 #[.agg #[.int .i64 k, .int .i64 i, .float .f64 f, .string s, .slice A l.length c]] W fun e w' => e = .returned (.bool false) ∧ Below W.heap.size W w' := by
  have e1 : (k != kindV k) = false := by rw [hk]; simp
  have e4 : (k == 4) = false := beq_eq_false_iff_ne.2 h4
  clear hk h4
  have HR := Aside0.mk hR
  have h31 := fun W => kind31 k i f s A l.length c W
  have H31 := Aside0.mk h31
  clear hR h31
  go_enter Tryz.func39, Tryz.ntmps39
  go_upto_region 1 with (first
    | ((with_reducible refine gate_dst (N := 1) rfl ?_); refine box_event ?hg (N := 1) ?hd (cs := #[.int .i64 k, .int .i64 i, .float .f64 f, .string s, .slice A l.length c]) (t := 25) ?hr ?_; (case hd => rfl); (case hg => rfl); (case hr => first | (go_simp; done) | (go_simp; rfl)); intro gb hg w1 hbox hb; have HB := Aside0.mk hb; have KB := Aside0.mk hbox; clear hg hbox hb))
  have b0 : w1.cell? ⟨gb, 0, none⟩ = some (.int .i64 k) := blk_cell KB.out 0
  have b1 : w1.cell? ⟨gb, 1, none⟩ = some (.int .i64 i) := blk_cell KB.out 1
  have b2 : w1.cell? ⟨gb, 2, none⟩ = some (.float .f64 f) := blk_cell KB.out 2
  have b3 : w1.cell? ⟨gb, 3, none⟩ = some (.string s) := blk_cell KB.out 3
  have b4 : w1.cell? ⟨gb, 4, none⟩ = some (.slice A l.length c) := blk_cell KB.out 4
  refine wp_region_held_drew (S := fun w' => w'.cell? ⟨gb, 0, none⟩ = some (.int .i64 k) ∧ w'.cell? ⟨gb, 1, none⟩ = some (.int .i64 i) ∧ w'.cell? ⟨gb, 2, none⟩ = some (.float .f64 f) ∧ w'.cell? ⟨gb, 3, none⟩ = some (.string s) ∧ w'.cell? ⟨gb, 4, none⟩ = some (.slice A l.length c)) (by kernel_rfl) ?_ (fun hHeld => ?_)
  · exact ⟨b0, b1, b2, b3, b4⟩
  refine wpAnyH_take (i := 0) (oi := { dst := some 3, op := Go.Op.fieldAddr 25 (Go.Operand.tmp 1) 0, type := 0, pos := "value.go:47", after := #[], guard := none }) (v := ?_) rfl (by kernel_rfl) (by kernel_rfl) (by kernel_rfl) (fun _ _ _ h => h) (Or.inl ⟨by rfl, ?_⟩) (by assumption) ?_
  rotate_left
  · first | (intro w hSw; (try dsimp only at hSw); go_simp; done) | (intro w hSw; (try dsimp only at hSw); go_simp; with_reducible rfl)
  try simp only [Act.put, List.setIfInBounds_toArray, List.set_cons_zero, List.set_cons_succ]
  refine wpAnyH_take (i := 1) (oi := { dst := some 4, op := Go.Op.load 3 (Go.Operand.tmp 3), type := 3, pos := "value.go:47", after := #[{ on := 0, ground := Go.Ground.data }], guard := none }) (v := ?_) rfl (by kernel_rfl) (by kernel_rfl) (by kernel_rfl) (fun _ _ _ h => h) (Or.inl ⟨by rfl, ?_⟩) (by assumption) ?_
  rotate_left
  · first | (intro w hSw; (try dsimp only at hSw); go_simp; done) | (intro w hSw; (try dsimp only at hSw); go_simp; with_reducible rfl)
  try simp only [Act.put, List.setIfInBounds_toArray, List.set_cons_zero, List.set_cons_succ]
  refine wpAnyH_take (i := 2) (oi := { dst := some 5, op := Go.Op.load 25 (Go.Operand.tmp 1), type := 25, pos := "value.go:47", after := #[], guard := none }) (v := ?_) rfl (by kernel_rfl) (by kernel_rfl) (by kernel_rfl) (fun _ _ _ h => h) (Or.inl ⟨by rfl, ?_⟩) (by assumption) ?_
  rotate_left
  · first | (intro w hSw; (try dsimp only at hSw); go_simp; done) | (intro w hSw; (try dsimp only at hSw); go_simp; with_reducible rfl)
  try simp only [Act.put, List.setIfInBounds_toArray, List.set_cons_zero, List.set_cons_succ]
  refine wpAnyH_ready (rs := [3]) (by kernel_rfl) (by simp) ?_
  refine AllReadyH.cons (o := { dst := some 6, op := Go.Op.call { callee := Go.Callee.value (Go.Operand.func 31), args := #[Go.Operand.tmp 5], argTypes := #[25] }, type := 3, pos := "value.go:47", after := #[{ on := 2, ground := Go.Ground.data }], guard := none }) rfl (fun K hK => ?_) AllReadyH.nil
  go_simp
  refine (H31.out _).mono ?_
  rintro e w2 ⟨rfl, hb⟩
  refine hK.out _ _ ?_ (fun hHeld => ?_)
  · exact fiveS (W := w1.drew) KB.out hb
  clear hK K
  try simp only [Act.put, List.setIfInBounds_toArray, List.set_cons_zero, List.set_cons_succ]
  refine wpAnyH_take (i := 4) (oi := { dst := some 7, op := Go.Op.binOp Go.BinOp.neq 3 (Go.Operand.tmp 4) (Go.Operand.tmp 6) 3, type := 4, pos := "value.go:47", after := #[{ on := 1, ground := Go.Ground.data }, { on := 3, ground := Go.Ground.data }], guard := none }) (v := ?_) rfl (by kernel_rfl) (by kernel_rfl) (by kernel_rfl) (fun _ _ _ h => h) (Or.inl ⟨by rfl, ?_⟩) (by assumption) ?_
  rotate_left
  · first | (intro w hSw; (try dsimp only at hSw); go_simp; done) | (intro w hSw; (try dsimp only at hSw); go_simp; with_reducible rfl)
  try simp only [Act.put, List.setIfInBounds_toArray, List.set_cons_zero, List.set_cons_succ]
  refine wpAnyH_take (i := 5) (oi := { dst := some 8, op := Go.Op.move (Go.Operand.tmp 7), type := 4, pos := "value.go:47", after := #[{ on := 4, ground := Go.Ground.data }, { on := 3, ground := Go.Ground.chain }], guard := none }) (v := ?_) rfl (by kernel_rfl) (by kernel_rfl) (by kernel_rfl) (fun _ _ _ h => h) (Or.inl ⟨by rfl, ?_⟩) (by assumption) ?_
  rotate_left
  · first | (intro w hSw; (try dsimp only at hSw); go_simp; done) | (intro w hSw; (try dsimp only at hSw); go_simp; with_reducible rfl)
  try simp only [Act.put, List.setIfInBounds_toArray, List.set_cons_zero, List.set_cons_succ]
  refine wpAnyH_take (i := 6) (oi := { dst := some 9, op := Go.Op.fieldAddr 25 (Go.Operand.tmp 1) 0, type := 0, pos := "value.go:47", after := #[{ on := 5, ground := Go.Ground.guard }], guard := some (5, false) }) (v := ?_) rfl (by kernel_rfl) (by kernel_rfl) (by kernel_rfl) (fun _ _ _ h => h) (Or.inl ⟨by rfl, ?_⟩) (by assumption) ?_
  rotate_left
  · first | (intro w hSw; (try dsimp only at hSw); go_simp; done) | (intro w hSw; (try dsimp only at hSw); go_simp; with_reducible rfl)
  try simp only [Act.put, List.setIfInBounds_toArray, List.set_cons_zero, List.set_cons_succ]
  refine wpAnyH_take (i := 7) (oi := { dst := some 10, op := Go.Op.load 3 (Go.Operand.tmp 9), type := 3, pos := "value.go:47", after := #[{ on := 6, ground := Go.Ground.data }, { on := 5, ground := Go.Ground.guard }], guard := some (5, false) }) (v := ?_) rfl (by kernel_rfl) (by kernel_rfl) (by kernel_rfl) (fun _ _ _ h => h) (Or.inl ⟨by rfl, ?_⟩) (by assumption) ?_
  rotate_left
  · first | (intro w hSw; (try dsimp only at hSw); go_simp; done) | (intro w hSw; (try dsimp only at hSw); go_simp; with_reducible rfl)
  try simp only [Act.put, List.setIfInBounds_toArray, List.set_cons_zero, List.set_cons_succ]
  refine wpAnyH_take (i := 8) (oi := { dst := some 11, op := Go.Op.binOp Go.BinOp.eql 3 (Go.Operand.tmp 10) (Go.Operand.const (Go.Value.int Go.IntKind.i64 4)) 3, type := 4, pos := "value.go:47", after := #[{ on := 7, ground := Go.Ground.data }, { on := 5, ground := Go.Ground.guard }], guard := some (5, false) }) (v := ?_) rfl (by kernel_rfl) (by kernel_rfl) (by kernel_rfl) (fun _ _ _ h => h) (Or.inl ⟨by rfl, ?_⟩) (by assumption) ?_
  rotate_left
  · first | (intro w hSw; (try dsimp only at hSw); go_simp; done) | (intro w hSw; (try dsimp only at hSw); go_simp; with_reducible rfl)
  try simp only [Act.put, List.setIfInBounds_toArray, List.set_cons_zero, List.set_cons_succ]
  refine wpAnyH_take (i := 9) (oi := { dst := some 12, op := Go.Op.move (Go.Operand.tmp 11), type := 4, pos := "value.go:47", after := #[{ on := 8, ground := Go.Ground.data }, { on := 5, ground := Go.Ground.chain }, { on := 5, ground := Go.Ground.guard }], guard := some (5, false) }) (v := ?_) rfl (by kernel_rfl) (by kernel_rfl) (by kernel_rfl) (fun _ _ _ h => h) (Or.inl ⟨by rfl, ?_⟩) (by assumption) ?_
  rotate_left
  · first | (intro w hSw; (try dsimp only at hSw); go_simp; done) | (intro w hSw; (try dsimp only at hSw); go_simp; with_reducible rfl)
  try simp only [Act.put, List.setIfInBounds_toArray, List.set_cons_zero, List.set_cons_succ]
  refine wpAnyH_take (i := 10) (oi := { dst := some 13, op := Go.Op.fieldAddr 25 (Go.Operand.tmp 1) 4, type := 0, pos := "value.go:47", after := #[{ on := 9, ground := Go.Ground.guard }], guard := some (9, true) }) (v := undef) rfl (by kernel_rfl) (by kernel_rfl) (by kernel_rfl) (fun _ _ _ h => h) (Or.inr ⟨by rfl, rfl⟩) (by assumption) ?_
  try simp only [Act.put, List.setIfInBounds_toArray, List.set_cons_zero, List.set_cons_succ]
  refine wpAnyH_take (i := 11) (oi := { dst := some 14, op := Go.Op.load 23 (Go.Operand.tmp 13), type := 23, pos := "value.go:47", after := #[{ on := 10, ground := Go.Ground.data }, { on := 9, ground := Go.Ground.guard }], guard := some (9, true) }) (v := undef) rfl (by kernel_rfl) (by kernel_rfl) (by kernel_rfl) (fun _ _ _ h => h) (Or.inr ⟨by rfl, rfl⟩) (by assumption) ?_
  try simp only [Act.put, List.setIfInBounds_toArray, List.set_cons_zero, List.set_cons_succ]
  refine wpAnyH_take (i := 12) (oi := { dst := some 15, op := Go.Op.call { callee := Go.Callee.value (Go.Operand.func 57), args := #[Go.Operand.tmp 14, Go.Operand.func 39], argTypes := #[23, 27] }, type := 4, pos := "value.go:47", after := #[{ on := 11, ground := Go.Ground.data }, { on := 9, ground := Go.Ground.chain }, { on := 9, ground := Go.Ground.guard }], guard := some (9, true) }) (v := undef) rfl (by kernel_rfl) (by kernel_rfl) (by kernel_rfl) (fun _ _ _ h => h) (Or.inr ⟨by rfl, rfl⟩) (by assumption) ?_
  try simp only [Act.put, List.setIfInBounds_toArray, List.set_cons_zero, List.set_cons_succ]
  refine wpAnyH_take (i := 13) (oi := { dst := some 16, op := Go.Op.pick (Go.Operand.tmp 12) (Go.Operand.tmp 15) (Go.Operand.const (Go.Value.bool false)), type := 4, pos := "value.go:47", after := #[{ on := 9, ground := Go.Ground.data }, { on := 12, ground := Go.Ground.data }, { on := 5, ground := Go.Ground.guard }], guard := some (5, false) }) (v := ?_) rfl (by kernel_rfl) (by kernel_rfl) (by kernel_rfl) (fun _ _ _ h => h) (Or.inl ⟨by rfl, ?_⟩) (by assumption) ?_
  rotate_left
  · first | (intro w hSw; (try dsimp only at hSw); go_simp; done) | (intro w hSw; (try dsimp only at hSw); go_simp; with_reducible rfl)
  try simp only [Act.put, List.setIfInBounds_toArray, List.set_cons_zero, List.set_cons_succ]
  refine wpAnyH_take (i := 14) (oi := { dst := some 17, op := Go.Op.pick (Go.Operand.tmp 8) (Go.Operand.const (Go.Value.bool true)) (Go.Operand.tmp 16), type := 4, pos := "value.go:47", after := #[{ on := 5, ground := Go.Ground.data }, { on := 13, ground := Go.Ground.data }], guard := none }) (v := ?_) rfl (by kernel_rfl) (by kernel_rfl) (by kernel_rfl) (fun _ _ _ h => h) (Or.inl ⟨by rfl, ?_⟩) (by assumption) ?_
  rotate_left
  · first | (intro w hSw; (try dsimp only at hSw); go_simp; done) | (intro w hSw; (try dsimp only at hSw); go_simp; with_reducible rfl)
  try simp only [Act.put, List.setIfInBounds_toArray, List.set_cons_zero, List.set_cons_succ]
  refine wpAnyH_take (i := 15) (oi := { dst := some 2, op := Go.Op.assign (Go.Operand.tmp 17), type := 4, pos := "value.go:47", after := #[{ on := 14, ground := Go.Ground.data }, { on := 12, ground := Go.Ground.chain }, { on := 0, ground := Go.Ground.phase }, { on := 1, ground := Go.Ground.phase }, { on := 2, ground := Go.Ground.phase }, { on := 3, ground := Go.Ground.phase }, { on := 4, ground := Go.Ground.phase }, { on := 5, ground := Go.Ground.phase }, { on := 6, ground := Go.Ground.phase }, { on := 7, ground := Go.Ground.phase }, { on := 8, ground := Go.Ground.phase }, { on := 9, ground := Go.Ground.phase }, { on := 10, ground := Go.Ground.phase }, { on := 11, ground := Go.Ground.phase }, { on := 12, ground := Go.Ground.phase }, { on := 13, ground := Go.Ground.phase }, { on := 14, ground := Go.Ground.phase }], guard := none }) (v := ?_) rfl (by kernel_rfl) (by kernel_rfl) (by kernel_rfl) (fun _ _ _ h => h) (Or.inl ⟨by rfl, ?_⟩) (by assumption) ?_
  rotate_left
  · first | (intro w hSw; (try dsimp only at hSw); go_simp; done) | (intro w hSw; (try dsimp only at hSw); go_simp; with_reducible rfl)
  try simp only [Act.put, List.setIfInBounds_toArray, List.set_cons_zero, List.set_cons_succ]
  refine wpAnyH_done (by kernel_rfl) ?_ _
  have HB3 := Aside0.mk (below_step HB.out.drew hb)
  clear hb b0 b1 b2 b3 b4
  go_wp2
  go_ret
  exact ⟨rfl, HB3.out⟩

set_option maxHeartbeats 8000000 in
set_option maxRecDepth 100000 in
theorem strange_4 (k i : Int) (f : Nat) (s : ByteArray) (l : List Val) (A : Option Addr) (c : Nat) (hk : k = 4) (hE : ∀ (j : Nat) (hj : j < l.length), StrangeC l[j]) (W : World) (ok : Nat → Prop) (hR : RV W ok (.mk k i f s l) #[.int .i64 k, .int .i64 i, .float .f64 f, .string s, .slice A l.length c]) :
    Calls Tryz.prog 39 #[.agg #[.int .i64 k, .int .i64 i, .float .f64 f, .string s, .slice A l.length c]] W fun e w' => e = .returned (.bool (stranges l)) ∧ Below W.heap.size W w' := by
  have e1 : (k != kindV k) = false := by rw [hk]; decide
  have e4 : (k == 4) = true := by rw [hk]; decide
  clear hk
  have h57 := Aside0.mk (fun (W' : World) (hb : Below W.heap.size W W') => contains57s k i f s l hE W' ok _ _ _ _ A c (hR.kept hb))
  obtain ⟨F, hF⟩ : ∃ F, stranges l = F := ⟨_, rfl⟩
  rw [hF] at h57 ⊢
  clear hF hE
  have HR := Aside0.mk hR
  have h31 := fun W => kind31 k i f s A l.length c W
  have H31 := Aside0.mk h31
  clear hR h31
  go_enter Tryz.func39, Tryz.ntmps39
  go_upto_region 1 with (first
    | ((with_reducible refine gate_dst (N := 1) rfl ?_); refine box_event ?hg (N := 1) ?hd (cs := #[.int .i64 k, .int .i64 i, .float .f64 f, .string s, .slice A l.length c]) (t := 25) ?hr ?_; (case hd => rfl); (case hg => rfl); (case hr => first | (go_simp; done) | (go_simp; rfl)); intro gb hg w1 hbox hb; have HB := Aside0.mk hb; have KB := Aside0.mk hbox; clear hg hbox hb))
  have b0 : w1.cell? ⟨gb, 0, none⟩ = some (.int .i64 k) := blk_cell KB.out 0
  have b1 : w1.cell? ⟨gb, 1, none⟩ = some (.int .i64 i) := blk_cell KB.out 1
  have b2 : w1.cell? ⟨gb, 2, none⟩ = some (.float .f64 f) := blk_cell KB.out 2
  have b3 : w1.cell? ⟨gb, 3, none⟩ = some (.string s) := blk_cell KB.out 3
  have b4 : w1.cell? ⟨gb, 4, none⟩ = some (.slice A l.length c) := blk_cell KB.out 4
  go_region_held3 (fun w' => w'.cell? ⟨gb, 0, none⟩ = some (.int .i64 k) ∧ w'.cell? ⟨gb, 1, none⟩ = some (.int .i64 i) ∧ w'.cell? ⟨gb, 2, none⟩ = some (.float .f64 f) ∧ w'.cell? ⟨gb, 3, none⟩ = some (.string s) ∧ w'.cell? ⟨gb, 4, none⟩ = some (.slice A l.length c)) (first | exact fiveS (W := w1.drew) KB.out (below_step hb1 hb2) | exact fiveS (W := w1.drew) KB.out hb1 | exact ⟨b0, b1, b2, b3, b4⟩)
    (first
      | (go_at_call 57; refine (h57.out _ (below_step HB.out.drew hb1)).mono ?_; rintro e w3 ⟨rfl, hb2⟩)
      | (go_at_call 31; refine (H31.out _).mono ?_; rintro e w2 ⟨rfl, hb1⟩))
  have HB3 := Aside0.mk (below_step (below_step HB.out.drew hb1) hb2)
  (try clear hHeld)
  clear hb1 hb2 b0 b1 b2 b3 b4
  go_wp2
  go_ret
  exact ⟨rfl, HB3.out⟩

theorem strange39 (v : Val) : StrangeC v := by
  induction v using Val.ind with
  | h k i f s l ih =>
    intro W ok cs hR
    obtain ⟨A, c, rfl, _⟩ := hR.len
    unfold strangeV
    by_cases hk : kindV k = k
    · rw [if_pos hk]
      by_cases h4 : k = 4
      · rw [if_pos h4]; exact strange_4 k i f s l A c h4 ih W ok hR
      · rw [if_neg h4]; exact strange_no k i f s l A c hk h4 W ok hR
    · rw [if_neg hk]; exact strange_ne k i f s l A c hk W ok hR
end Go.Proofs.YtejfmghjmhiodaaGreatDoor.Vz
namespace Go.Proofs.YtejfmghjmhiodaaGreatDoor.Vz
open Go.RowKit Go.Proofs.YtejfmghjmhiodaaGreatDoorW.PrintWords
set_option linter.unusedVariables false
set_option linter.unusedSimpArgs false
attribute [local go_sem] store_float

mutual
def greatV : Val → Int → Bool
  | .mk k _ _ s l, m => if k = 3 then decide ((256 : Int) < (s.size : Int)) else if k = 4 then (if 64 < l.length then true else if m < 1 then true else greats l (wrap64 (m - 1))) else false
def greats : List Val → Int → Bool
  | [], _ => false
  | x :: r, m => if greatV x m = true then true else greats r m
end
theorem greats_nil (m : Int) : greats [] m = false := by rw [greats]
theorem greats_cons (x : Val) (r : List Val) (m : Int) : greats (x :: r) m = if greatV x m = true then true else greats r m := by rw [greats]
def GreatC (v : Val) : Prop := ∀ (W : World) (ok : Nat → Prop) (cs : Array Value), RV W ok v cs → ∀ m : Int, Calls Tryz.prog 40 #[.agg cs, .int .i64 m] W fun e w' => e = .returned (.bool (greatV v m)) ∧ Below W.heap.size W w'

set_option maxHeartbeats 8000000 in
set_option maxRecDepth 100000 in
theorem clos58 (v : Val) (hG : GreatC v) (W : World) (ok : Nat → Prop) (cs : Array Value) (hR : RV W ok v cs) (m : Int) (gm : Nat) (hm : W.cell? ⟨gm, 0, none⟩ = some (.int .i64 m)) :
    Calls Tryz.prog 58 #[.agg cs, .pointer (some ⟨gm, 0, none⟩)] W fun e w' => e = .returned (.bool (greatV v (wrap64 (m - 1)))) ∧ Below W.heap.size W w' := by
  obtain ⟨k, i, f, s, A, n, c, rfl⟩ := hR.form
  have HR := Aside0.mk hR
  have HG := Aside0.mk hG
  have HM := Aside0.mk hm
  clear hR hG hm
  go_enter Tryz.func58, Tryz.ntmps58
  go_wp2_with (first
    | ((with_reducible refine gate_dst (N := 2) rfl ?_); refine box_event ?hg (N := 2) ?hd (cs := #[.int .i64 k, .int .i64 i, .float .f64 f, .string s, .slice A n c]) (t := 25) ?hr ?_; (case hd => rfl); (case hg => rfl); (case hr => first | (go_simp; done) | (go_simp; rfl)); intro gb hg w1 hbox hb; have HB := Aside0.mk hb; have HR := Aside0.mk (HR.out.kept hb); have m0 : w1.cell? ⟨gm, 0, none⟩ = some (.int .i64 m) := (hb.cell (cell_in HM.out)).trans HM.out; have b0 : w1.cell? ⟨gb, 0, none⟩ = some (.int .i64 k) := blk_cell hbox 0; have b1 : w1.cell? ⟨gb, 1, none⟩ = some (.int .i64 i) := blk_cell hbox 1; have b2 : w1.cell? ⟨gb, 2, none⟩ = some (.float .f64 f) := blk_cell hbox 2; have b3 : w1.cell? ⟨gb, 3, none⟩ = some (.string s) := blk_cell hbox 3; have b4 : w1.cell? ⟨gb, 4, none⟩ = some (.slice A n c) := blk_cell hbox 4; clear hg hbox hb)
    | (go_at_call 40; refine (HG.out _ _ _ HR.out _).mono ?_; rintro e w2 ⟨rfl, hb⟩; have HB2 := Aside0.mk (below_step HB.out hb); clear hb))
  go_ret
  exact ⟨rfl, HB2.out⟩

set_option maxHeartbeats 8000000 in
set_option maxRecDepth 100000 in
theorem index71g (k i : Int) (f : Nat) (s : ByteArray) (l : List Val) (hE : ∀ (j : Nat) (hj : j < l.length), GreatC l[j]) (W : World) (ok : Nat → Prop) (x0 x1 x2 x3 : Value) (A : Option Addr) (c : Nat) (m : Int) (gm : Nat) (hm : W.cell? ⟨gm, 0, none⟩ = some (.int .i64 m))
    (hR : RV W ok (.mk k i f s l) #[x0, x1, x2, x3, .slice A l.length c]) :
    Calls Tryz.prog 71 #[.slice A l.length c, .func (.func 58) #[] #[.pointer (some ⟨gm, 0, none⟩)]] W fun e w' => ∃ r : Int, e = .returned (.int .i64 r) ∧ decide (0 ≤ r) = greats l (wrap64 (m - 1)) ∧ Below W.heap.size W w' := by
  obtain ⟨A0, c0, e0, wk, wi, wf, ws, wc, wb⟩ := hR.len
  have HI := Aside0.mk hE
  have HM := Aside0.mk hm
  have HR := Aside0.mk hR
  have HWB := Aside0.mk (show (l.length : Int) * 64 ≤ 140737488351232 by omega)
  have hnn : (0 : Int) ≤ (l.length : Int) := by omega
  have hent := enters58
  clear hE hm hR wk wi wf ws wc wb e0
  obtain ⟨n, hn⟩ : ∃ n, l.length = n := ⟨_, rfl⟩
  have HNL := Aside0.mk hn
  rw [hn] at HR HWB hnn ⊢
  clear hn
  obtain ⟨O, hO⟩ : ∃ O, greats l (wrap64 (m - 1)) = O := ⟨_, rfl⟩
  rw [hO]
  have HO := Aside0.mk hO
  clear hO
  go_enter Tryz.func71, Tryz.ntmps71
  go_wp2
  go_loopw [8] (fun ix wr => ∃ j : Nat, j ≤ n ∧ ix = .int .i64 (j : Int) ∧ Aside0 (Below W.heap.size W wr) ∧ Aside0 (greats (l.drop j) (wrap64 (m - 1)) = O)) (fun ix _ => n - (intOf ix).toNat)
  case atStart => exact ⟨0, by omega, rfl, Aside0.mk (Below.refl _ _), HO⟩
  case round =>
    obtain ⟨j, hj, rfl, HB', HOj⟩ := hrel
    by_cases hlt : j < n
    · have hji : (j : Int) < (n : Int) := by omega
      have hj0 : (0 : Int) ≤ (j : Int) := by omega
      have hjl : j < l.length := by rw [HNL.out]; exact hlt
      obtain ⟨g, off, k', i', f', s', A', n', c', rfl, hg1, hg2, hsub, p0, p1, p2, p3, p4⟩ := (HR.out.kept HB'.out).elem j hjl
      have hih := HI.out j hjl
      have HOj2 := Aside0.mk HOj.out
      rw [dropAt l j hjl, greats_cons] at HOj2
      generalize l[j] = x at hsub hih HOj2
      have HSub := Aside0.mk hsub
      have HIx := Aside0.mk hih
      obtain ⟨o, ho⟩ : ∃ o, greatV x (wrap64 (m - 1)) = o := ⟨_, rfl⟩
      have HOo := Aside0.mk ho
      have hwk : IntKind.i64.wrap ((j : Int) + 1) = ((j + 1 : Nat) : Int) := by have := HWB.out; rw [IntKind.wrap_i64]; omega
      clear hsub hih hjl hg1 hg2 ho
      rw [HOo.out] at HOj2
      cases o
      · have HN := Aside0.mk (show greats (l.drop (j + 1)) (wrap64 (m - 1)) = O by have := HOj2.out; rwa [if_neg (by decide)] at this)
        go_wp2_with (first
          | (go_at_call 58; refine (clos58 _ HIx.out _ _ _ HSub.out m gm ((HB'.out.cell (cell_in HM.out)).trans HM.out)).mono ?_; rw [HOo.out]; rintro e w4 ⟨rfl, hb⟩; have HB2 := Aside0.mk (below_step HB'.out hb); clear hb))
        go_roundw
        case rel => exact ⟨j + 1, by omega, by go_num, HB2, HN⟩
        case measure => simp [intOf]; omega
      · have HN := Aside0.mk (show true = O by have := HOj2.out; rwa [if_pos rfl] at this)
        go_wp2_with (first
          | (go_at_call 58; refine (clos58 _ HIx.out _ _ _ HSub.out m gm ((HB'.out.cell (cell_in HM.out)).trans HM.out)).mono ?_; rw [HOo.out]; rintro e w4 ⟨rfl, hb⟩; have HB2 := Aside0.mk (below_step HB'.out hb); clear hb))
        go_ret
        exact ⟨j, rfl, by rw [← HN.out]; simp, HB2.out⟩
    · obtain rfl : j = n := by omega
      have HOj2 := Aside0.mk HOj.out
      rw [show l.drop j = [] from List.drop_eq_nil_of_le (by rw [HNL.out]; omega), greats_nil] at HOj2
      go_wp2
      go_ret
      exact ⟨-1, rfl, by rw [← HOj2.out]; rfl, HB'.out⟩


set_option maxHeartbeats 8000000 in
set_option maxRecDepth 100000 in
theorem contains57g (k i : Int) (f : Nat) (s : ByteArray) (l : List Val) (hE : ∀ (j : Nat) (hj : j < l.length), GreatC l[j]) (W : World) (ok : Nat → Prop) (x0 x1 x2 x3 : Value) (A : Option Addr) (c : Nat) (m : Int) (gm : Nat) (hm : W.cell? ⟨gm, 0, none⟩ = some (.int .i64 m))
    (hR : RV W ok (.mk k i f s l) #[x0, x1, x2, x3, .slice A l.length c]) :
    Calls Tryz.prog 57 #[.slice A l.length c, .func (.func 58) #[] #[.pointer (some ⟨gm, 0, none⟩)]] W fun e w' => e = .returned (.bool (greats l (wrap64 (m - 1)))) ∧ Below W.heap.size W w' := by
  have H := Aside0.mk (index71g k i f s l hE W ok x0 x1 x2 x3 A c m gm hm hR)
  clear hE hR hm
  go_enter Tryz.func57, Tryz.ntmps57
  go_wp2_with (go_at_call 71; refine H.out.mono ?_; rintro e w1 ⟨r, rfl, hr, hb⟩; have HR := Aside0.mk hr; have HB := Aside0.mk hb; clear hr hb)
  go_ret
  exact ⟨by rw [← HR.out]; rfl, HB.out⟩

set_option maxHeartbeats 8000000 in
set_option maxRecDepth 100000 in
theorem great_3 (i : Int) (f : Nat) (s : ByteArray) (l : List Val) (A : Option Addr) (c : Nat) (m : Int)  (W : World) (ok : Nat → Prop) (hR : RV W ok (.mk 3 i f s l) #[.int .i64 3, .int .i64 i, .float .f64 f, .string s, .slice A l.length c]) :
    Calls Tryz.prog 40 #[.agg #[.int .i64 3, .int .i64 i, .float .f64 f, .string s, .slice A l.length c], .int .i64 m] W fun e w' => e = .returned (.bool (decide ((256 : Int) < (s.size : Int)))) ∧ Below W.heap.size W w' := by
  have HR := Aside0.mk hR
  clear hR
  go_enter Tryz.func40, Tryz.ntmps40
  go_wp2_with (first
    | ((with_reducible refine gate_dst (N := 2) rfl ?_); refine box_event ?hg (N := 2) ?hd (cs := #[.int .i64 3, .int .i64 i, .float .f64 f, .string s, .slice A l.length c]) (t := 25) ?hr ?_; (case hd => rfl); (case hg => rfl); (case hr => first | (go_simp; done) | (go_simp; rfl)); intro gb hg w1 hbox hb; have HB := Aside0.mk hb; have b0 : w1.cell? ⟨gb, 0, none⟩ = some (.int .i64 3) := blk_cell hbox 0; have b3 : w1.cell? ⟨gb, 3, none⟩ = some (.string s) := blk_cell hbox 3; have b4 : w1.cell? ⟨gb, 4, none⟩ = some (.slice A l.length c) := blk_cell hbox 4; have K := Aside0.mk hbox; clear hg hbox hb)
    | ((with_reducible refine gate_dst (N := 3) rfl ?_); refine box_event ?hg (N := 3) ?hd (cs := #[.int .i64 m]) (t := 3) ?hr ?_; (case hd => rfl); (case hg => rfl); (case hr => first | (go_simp; done) | (go_simp; rfl)); intro gm hg w2 hbox hb; have m0 : w2.cell? ⟨gm, 0, none⟩ = some (.int .i64 m) := blk_cell hbox 0; clear b0 b3 b4; have KB2 := Aside0.mk (blk_below K.out hb); have HB := Aside0.mk (below_step HB.out hb); have b0 : w2.cell? ⟨gb, 0, none⟩ = some (.int .i64 3) := blk_cell KB2.out 0; have b3 : w2.cell? ⟨gb, 3, none⟩ = some (.string s) := blk_cell KB2.out 3; have b4 : w2.cell? ⟨gb, 4, none⟩ = some (.slice A l.length c) := blk_cell KB2.out 4; clear hg hbox hb))
  go_ret
  exact ⟨rfl, HB.out⟩

set_option maxHeartbeats 8000000 in
set_option maxRecDepth 100000 in
theorem great_4a (i : Int) (f : Nat) (s : ByteArray) (l : List Val) (A : Option Addr) (c : Nat) (m : Int) (h : 64 < l.length) (W : World) (ok : Nat → Prop) (hR : RV W ok (.mk 4 i f s l) #[.int .i64 4, .int .i64 i, .float .f64 f, .string s, .slice A l.length c]) :
    Calls Tryz.prog 40 #[.agg #[.int .i64 4, .int .i64 i, .float .f64 f, .string s, .slice A l.length c], .int .i64 m] W fun e w' => e = .returned (.bool true) ∧ Below W.heap.size W w' := by
  have HR := Aside0.mk hR
  have h' : (64 : Int) < (l.length : Int) := by omega
  clear h
  clear hR
  go_enter Tryz.func40, Tryz.ntmps40
  go_wp2_with (first
    | ((with_reducible refine gate_dst (N := 2) rfl ?_); refine box_event ?hg (N := 2) ?hd (cs := #[.int .i64 4, .int .i64 i, .float .f64 f, .string s, .slice A l.length c]) (t := 25) ?hr ?_; (case hd => rfl); (case hg => rfl); (case hr => first | (go_simp; done) | (go_simp; rfl)); intro gb hg w1 hbox hb; have HB := Aside0.mk hb; have b0 : w1.cell? ⟨gb, 0, none⟩ = some (.int .i64 4) := blk_cell hbox 0; have b3 : w1.cell? ⟨gb, 3, none⟩ = some (.string s) := blk_cell hbox 3; have b4 : w1.cell? ⟨gb, 4, none⟩ = some (.slice A l.length c) := blk_cell hbox 4; have K := Aside0.mk hbox; clear hg hbox hb)
    | ((with_reducible refine gate_dst (N := 3) rfl ?_); refine box_event ?hg (N := 3) ?hd (cs := #[.int .i64 m]) (t := 3) ?hr ?_; (case hd => rfl); (case hg => rfl); (case hr => first | (go_simp; done) | (go_simp; rfl)); intro gm hg w2 hbox hb; have m0 : w2.cell? ⟨gm, 0, none⟩ = some (.int .i64 m) := blk_cell hbox 0; clear b0 b3 b4; have KB2 := Aside0.mk (blk_below K.out hb); have HB := Aside0.mk (below_step HB.out hb); have b0 : w2.cell? ⟨gb, 0, none⟩ = some (.int .i64 4) := blk_cell KB2.out 0; have b3 : w2.cell? ⟨gb, 3, none⟩ = some (.string s) := blk_cell KB2.out 3; have b4 : w2.cell? ⟨gb, 4, none⟩ = some (.slice A l.length c) := blk_cell KB2.out 4; clear hg hbox hb))
  go_ret
  exact ⟨rfl, HB.out⟩

set_option maxHeartbeats 8000000 in
set_option maxRecDepth 100000 in
theorem great_4b (i : Int) (f : Nat) (s : ByteArray) (l : List Val) (A : Option Addr) (c : Nat) (m : Int) (h : ¬ 64 < l.length) (hm : m < 1) (W : World) (ok : Nat → Prop) (hR : RV W ok (.mk 4 i f s l) #[.int .i64 4, .int .i64 i, .float .f64 f, .string s, .slice A l.length c]) :
    Calls Tryz.prog 40 #[.agg #[.int .i64 4, .int .i64 i, .float .f64 f, .string s, .slice A l.length c], .int .i64 m] W fun e w' => e = .returned (.bool true) ∧ Below W.heap.size W w' := by
  have HR := Aside0.mk hR
  have h' : ¬ (64 : Int) < (l.length : Int) := by omega
  clear h
  clear hR
  go_enter Tryz.func40, Tryz.ntmps40
  go_wp2_with (first
    | ((with_reducible refine gate_dst (N := 2) rfl ?_); refine box_event ?hg (N := 2) ?hd (cs := #[.int .i64 4, .int .i64 i, .float .f64 f, .string s, .slice A l.length c]) (t := 25) ?hr ?_; (case hd => rfl); (case hg => rfl); (case hr => first | (go_simp; done) | (go_simp; rfl)); intro gb hg w1 hbox hb; have HB := Aside0.mk hb; have b0 : w1.cell? ⟨gb, 0, none⟩ = some (.int .i64 4) := blk_cell hbox 0; have b3 : w1.cell? ⟨gb, 3, none⟩ = some (.string s) := blk_cell hbox 3; have b4 : w1.cell? ⟨gb, 4, none⟩ = some (.slice A l.length c) := blk_cell hbox 4; have K := Aside0.mk hbox; clear hg hbox hb)
    | ((with_reducible refine gate_dst (N := 3) rfl ?_); refine box_event ?hg (N := 3) ?hd (cs := #[.int .i64 m]) (t := 3) ?hr ?_; (case hd => rfl); (case hg => rfl); (case hr => first | (go_simp; done) | (go_simp; rfl)); intro gm hg w2 hbox hb; have m0 : w2.cell? ⟨gm, 0, none⟩ = some (.int .i64 m) := blk_cell hbox 0; clear b0 b3 b4; have KB2 := Aside0.mk (blk_below K.out hb); have HB := Aside0.mk (below_step HB.out hb); have b0 : w2.cell? ⟨gb, 0, none⟩ = some (.int .i64 4) := blk_cell KB2.out 0; have b3 : w2.cell? ⟨gb, 3, none⟩ = some (.string s) := blk_cell KB2.out 3; have b4 : w2.cell? ⟨gb, 4, none⟩ = some (.slice A l.length c) := blk_cell KB2.out 4; clear hg hbox hb))
  go_ret
  exact ⟨rfl, HB.out⟩

set_option maxHeartbeats 8000000 in
set_option maxRecDepth 100000 in
theorem great_4c (i : Int) (f : Nat) (s : ByteArray) (l : List Val) (A : Option Addr) (c : Nat) (m : Int) (h : ¬ 64 < l.length) (hm : ¬ m < 1) (hE : ∀ (j : Nat) (hj : j < l.length), GreatC l[j]) (W : World) (ok : Nat → Prop) (hR : RV W ok (.mk 4 i f s l) #[.int .i64 4, .int .i64 i, .float .f64 f, .string s, .slice A l.length c]) :
    Calls Tryz.prog 40 #[.agg #[.int .i64 4, .int .i64 i, .float .f64 f, .string s, .slice A l.length c], .int .i64 m] W fun e w' => e = .returned (.bool (greats l (wrap64 (m - 1)))) ∧ Below W.heap.size W w' := by
  have HR := Aside0.mk hR
  have h' : ¬ (64 : Int) < (l.length : Int) := by omega
  clear h
  have hmf : ∀ (fn : Fn) (first cap : Array Value) (w : World), (Instr.makeFunc fn first cap).run Tryz.prog w = .ok (.func fn first cap) w := fun _ _ _ _ => rfl
  have h57 := Aside0.mk (fun (W' : World) (hb : Below W.heap.size W W') (gm : Nat) (hm : W'.cell? ⟨gm, 0, none⟩ = some (.int .i64 m)) => contains57g 4 i f s l hE W' ok _ _ _ _ A c m gm hm (hR.kept hb))
  clear hE
  clear hR
  go_enter Tryz.func40, Tryz.ntmps40
  go_wp2_with (first
    | ((with_reducible refine gate_dst (N := 2) rfl ?_); refine box_event ?hg (N := 2) ?hd (cs := #[.int .i64 4, .int .i64 i, .float .f64 f, .string s, .slice A l.length c]) (t := 25) ?hr ?_; (case hd => rfl); (case hg => rfl); (case hr => first | (go_simp; done) | (go_simp; rfl)); intro gb hg w1 hbox hb; have HB := Aside0.mk hb; have b0 : w1.cell? ⟨gb, 0, none⟩ = some (.int .i64 4) := blk_cell hbox 0; have b3 : w1.cell? ⟨gb, 3, none⟩ = some (.string s) := blk_cell hbox 3; have b4 : w1.cell? ⟨gb, 4, none⟩ = some (.slice A l.length c) := blk_cell hbox 4; have K := Aside0.mk hbox; clear hg hbox hb)
    | ((with_reducible refine gate_dst (N := 3) rfl ?_); refine box_event ?hg (N := 3) ?hd (cs := #[.int .i64 m]) (t := 3) ?hr ?_; (case hd => rfl); (case hg => rfl); (case hr => first | (go_simp; done) | (go_simp; rfl)); intro gm hg w2 hbox hb; have m0 : w2.cell? ⟨gm, 0, none⟩ = some (.int .i64 m) := blk_cell hbox 0; clear b0 b3 b4; have KB2 := Aside0.mk (blk_below K.out hb); have HB := Aside0.mk (below_step HB.out hb); have b0 : w2.cell? ⟨gb, 0, none⟩ = some (.int .i64 4) := blk_cell KB2.out 0; have b3 : w2.cell? ⟨gb, 3, none⟩ = some (.string s) := blk_cell KB2.out 3; have b4 : w2.cell? ⟨gb, 4, none⟩ = some (.slice A l.length c) := blk_cell KB2.out 4; clear hg hbox hb)
    | (go_at_call 57; refine (h57.out _ HB.out _ m0).mono ?_; rintro e w3 ⟨rfl, hb⟩; have HB := Aside0.mk (below_step HB.out hb); clear hb))
  go_ret
  exact ⟨rfl, HB.out⟩

set_option maxHeartbeats 8000000 in
set_option maxRecDepth 100000 in
theorem great_no (k i : Int) (f : Nat) (s : ByteArray) (l : List Val) (A : Option Addr) (c : Nat) (m : Int) (h3 : k ≠ 3) (h4 : k ≠ 4) (W : World) (ok : Nat → Prop) (hR : RV W ok (.mk k i f s l) #[.int .i64 k, .int .i64 i, .float .f64 f, .string s, .slice A l.length c]) :
    Calls Tryz.prog 40 #[.agg #[.int .i64 k, .int .i64 i, .float .f64 f, .string s, .slice A l.length c], .int .i64 m] W fun e w' => e = .returned (.bool false) ∧ Below W.heap.size W w' := by
  have HR := Aside0.mk hR
  have e3 : (k == 3) = false := beq_eq_false_iff_ne.2 h3
  have e4 : (k == 4) = false := beq_eq_false_iff_ne.2 h4
  clear h3 h4
  clear hR
  go_enter Tryz.func40, Tryz.ntmps40
  go_wp2_with (first
    | ((with_reducible refine gate_dst (N := 2) rfl ?_); refine box_event ?hg (N := 2) ?hd (cs := #[.int .i64 k, .int .i64 i, .float .f64 f, .string s, .slice A l.length c]) (t := 25) ?hr ?_; (case hd => rfl); (case hg => rfl); (case hr => first | (go_simp; done) | (go_simp; rfl)); intro gb hg w1 hbox hb; have HB := Aside0.mk hb; have b0 : w1.cell? ⟨gb, 0, none⟩ = some (.int .i64 k) := blk_cell hbox 0; have b3 : w1.cell? ⟨gb, 3, none⟩ = some (.string s) := blk_cell hbox 3; have b4 : w1.cell? ⟨gb, 4, none⟩ = some (.slice A l.length c) := blk_cell hbox 4; have K := Aside0.mk hbox; clear hg hbox hb)
    | ((with_reducible refine gate_dst (N := 3) rfl ?_); refine box_event ?hg (N := 3) ?hd (cs := #[.int .i64 m]) (t := 3) ?hr ?_; (case hd => rfl); (case hg => rfl); (case hr => first | (go_simp; done) | (go_simp; rfl)); intro gm hg w2 hbox hb; have m0 : w2.cell? ⟨gm, 0, none⟩ = some (.int .i64 m) := blk_cell hbox 0; clear b0 b3 b4; have KB2 := Aside0.mk (blk_below K.out hb); have HB := Aside0.mk (below_step HB.out hb); have b0 : w2.cell? ⟨gb, 0, none⟩ = some (.int .i64 k) := blk_cell KB2.out 0; have b3 : w2.cell? ⟨gb, 3, none⟩ = some (.string s) := blk_cell KB2.out 3; have b4 : w2.cell? ⟨gb, 4, none⟩ = some (.slice A l.length c) := blk_cell KB2.out 4; clear hg hbox hb))
  go_ret
  exact ⟨rfl, HB.out⟩

theorem great40 (v : Val) : GreatC v := by
  induction v using Val.ind with
  | h k i f s l ih =>
    intro W ok cs hR m
    obtain ⟨A, c, rfl, _⟩ := hR.len
    unfold greatV
    by_cases h3 : k = 3
    · subst h3; rw [if_pos rfl]; exact great_3 i f s l A c m W ok hR
    · rw [if_neg h3]
      by_cases h4 : k = 4
      · subst h4; rw [if_pos rfl]
        by_cases h : 64 < l.length
        · rw [if_pos h]; exact great_4a i f s l A c m h W ok hR
        · rw [if_neg h]
          by_cases hm : m < 1
          · rw [if_pos hm]; exact great_4b i f s l A c m h hm W ok hR
          · rw [if_neg hm]; exact great_4c i f s l A c m h hm ih W ok hR
      · rw [if_neg h4]; exact great_no k i f s l A c m h3 h4 W ok hR
end Go.Proofs.YtejfmghjmhiodaaGreatDoor.Vz
namespace Go.Proofs.YtejfmghjmhiodaaGreatDoor.Vz
open Go.RowKit Go.Proofs.YtejfmghjmhiodaaGreatDoorW.PrintWords
set_option linter.unusedVariables false
set_option linter.unusedSimpArgs false
attribute [local go_sem] store_float

def checkV (v : Val) : Int := if strangeV v = true then 31 else if greatV v 8 = true then 22 else if 4096 < sizeV v then 22 else 0

set_option maxHeartbeats 8000000 in
set_option maxRecDepth 100000 in
theorem check17 (v : Val) (W : World) (ok : Nat → Prop) (cs : Array Value) (hR : RV W ok v cs) : Calls Tryz.prog 17 #[.agg cs] W fun e w' => e = .returned (.int .i64 (checkV v)) ∧ Below W.heap.size W w' := by
  obtain ⟨k, i, f, s, A, n, c, rfl⟩ := hR.form
  have HR := Aside0.mk hR
  have H1 := Aside0.mk (strange39 v)
  have H2 := Aside0.mk (great40 v)
  have H3 := Aside0.mk (size18 v)
  clear hR
  unfold checkV
  obtain ⟨b, hb⟩ : ∃ b, strangeV v = b := ⟨_, rfl⟩
  obtain ⟨d, hd⟩ : ∃ d, greatV v 8 = d := ⟨_, rfl⟩
  obtain ⟨z, hz⟩ : ∃ z, sizeV v = z := ⟨_, rfl⟩
  rw [hb, hd, hz]
  have G1 := Aside0.mk hb
  have G2 := Aside0.mk hd
  have G3 := Aside0.mk hz
  clear hb hd hz
  cases b
  · cases d
    · by_cases h : 4096 < z
      · rw [if_neg (by decide), if_neg (by decide), if_pos h]
        go_enter Tryz.func17, Tryz.ntmps17
        go_wp2_with (first
          | ((with_reducible refine gate_dst (N := 1) rfl ?_); refine box_event ?hg (N := 1) ?hd (cs := #[.int .i64 k, .int .i64 i, .float .f64 f, .string s, .slice A n c]) (t := 25) ?hr ?_; (case hd => rfl); (case hg => rfl); (case hr => first | (go_simp; done) | (go_simp; rfl)); intro gb hg w1 hbox hb; have HB := Aside0.mk hb; have HR := Aside0.mk (HR.out.kept hb); have KB := Aside0.mk hbox; have b0 : w1.cell? ⟨gb, 0, none⟩ = some (.int .i64 k) := blk_cell KB.out 0; have b1 : w1.cell? ⟨gb, 1, none⟩ = some (.int .i64 i) := blk_cell KB.out 1; have b2 : w1.cell? ⟨gb, 2, none⟩ = some (.float .f64 f) := blk_cell KB.out 2; have b3 : w1.cell? ⟨gb, 3, none⟩ = some (.string s) := blk_cell KB.out 3; have b4 : w1.cell? ⟨gb, 4, none⟩ = some (.slice A n c) := blk_cell KB.out 4; clear hg hbox hb)
          | (go_at_call 39; refine (H1.out _ _ _ HR.out).mono ?_; rw [G1.out]; rintro e w2 ⟨rfl, hb⟩; have HB := Aside0.mk (below_step HB.out hb); have HR := Aside0.mk (HR.out.kept hb); have KB := Aside0.mk (blk_below KB.out hb); clear b0 b1 b2 b3 b4; have b0 : w2.cell? ⟨gb, 0, none⟩ = some (.int .i64 k) := blk_cell KB.out 0; have b1 : w2.cell? ⟨gb, 1, none⟩ = some (.int .i64 i) := blk_cell KB.out 1; have b2 : w2.cell? ⟨gb, 2, none⟩ = some (.float .f64 f) := blk_cell KB.out 2; have b3 : w2.cell? ⟨gb, 3, none⟩ = some (.string s) := blk_cell KB.out 3; have b4 : w2.cell? ⟨gb, 4, none⟩ = some (.slice A n c) := blk_cell KB.out 4; clear hb)
          | (go_at_call 40; refine (H2.out _ _ _ HR.out 8).mono ?_; rw [G2.out]; rintro e w3 ⟨rfl, hb⟩; have HB := Aside0.mk (below_step HB.out hb); have HR := Aside0.mk (HR.out.kept hb); have KB := Aside0.mk (blk_below KB.out hb); clear b0 b1 b2 b3 b4; have b0 : w3.cell? ⟨gb, 0, none⟩ = some (.int .i64 k) := blk_cell KB.out 0; have b1 : w3.cell? ⟨gb, 1, none⟩ = some (.int .i64 i) := blk_cell KB.out 1; have b2 : w3.cell? ⟨gb, 2, none⟩ = some (.float .f64 f) := blk_cell KB.out 2; have b3 : w3.cell? ⟨gb, 3, none⟩ = some (.string s) := blk_cell KB.out 3; have b4 : w3.cell? ⟨gb, 4, none⟩ = some (.slice A n c) := blk_cell KB.out 4; clear hb)
          | (go_at_call 18; refine (H3.out _ _ _ HR.out).mono ?_; rw [G3.out]; rintro e w4 ⟨rfl, hb⟩; have HB := Aside0.mk (below_step HB.out hb); clear hb))
        go_ret
        exact ⟨rfl, HB.out⟩
      · rw [if_neg (by decide), if_neg (by decide), if_neg h]
        go_enter Tryz.func17, Tryz.ntmps17
        go_wp2_with (first
          | ((with_reducible refine gate_dst (N := 1) rfl ?_); refine box_event ?hg (N := 1) ?hd (cs := #[.int .i64 k, .int .i64 i, .float .f64 f, .string s, .slice A n c]) (t := 25) ?hr ?_; (case hd => rfl); (case hg => rfl); (case hr => first | (go_simp; done) | (go_simp; rfl)); intro gb hg w1 hbox hb; have HB := Aside0.mk hb; have HR := Aside0.mk (HR.out.kept hb); have KB := Aside0.mk hbox; have b0 : w1.cell? ⟨gb, 0, none⟩ = some (.int .i64 k) := blk_cell KB.out 0; have b1 : w1.cell? ⟨gb, 1, none⟩ = some (.int .i64 i) := blk_cell KB.out 1; have b2 : w1.cell? ⟨gb, 2, none⟩ = some (.float .f64 f) := blk_cell KB.out 2; have b3 : w1.cell? ⟨gb, 3, none⟩ = some (.string s) := blk_cell KB.out 3; have b4 : w1.cell? ⟨gb, 4, none⟩ = some (.slice A n c) := blk_cell KB.out 4; clear hg hbox hb)
          | (go_at_call 39; refine (H1.out _ _ _ HR.out).mono ?_; rw [G1.out]; rintro e w2 ⟨rfl, hb⟩; have HB := Aside0.mk (below_step HB.out hb); have HR := Aside0.mk (HR.out.kept hb); have KB := Aside0.mk (blk_below KB.out hb); clear b0 b1 b2 b3 b4; have b0 : w2.cell? ⟨gb, 0, none⟩ = some (.int .i64 k) := blk_cell KB.out 0; have b1 : w2.cell? ⟨gb, 1, none⟩ = some (.int .i64 i) := blk_cell KB.out 1; have b2 : w2.cell? ⟨gb, 2, none⟩ = some (.float .f64 f) := blk_cell KB.out 2; have b3 : w2.cell? ⟨gb, 3, none⟩ = some (.string s) := blk_cell KB.out 3; have b4 : w2.cell? ⟨gb, 4, none⟩ = some (.slice A n c) := blk_cell KB.out 4; clear hb)
          | (go_at_call 40; refine (H2.out _ _ _ HR.out 8).mono ?_; rw [G2.out]; rintro e w3 ⟨rfl, hb⟩; have HB := Aside0.mk (below_step HB.out hb); have HR := Aside0.mk (HR.out.kept hb); have KB := Aside0.mk (blk_below KB.out hb); clear b0 b1 b2 b3 b4; have b0 : w3.cell? ⟨gb, 0, none⟩ = some (.int .i64 k) := blk_cell KB.out 0; have b1 : w3.cell? ⟨gb, 1, none⟩ = some (.int .i64 i) := blk_cell KB.out 1; have b2 : w3.cell? ⟨gb, 2, none⟩ = some (.float .f64 f) := blk_cell KB.out 2; have b3 : w3.cell? ⟨gb, 3, none⟩ = some (.string s) := blk_cell KB.out 3; have b4 : w3.cell? ⟨gb, 4, none⟩ = some (.slice A n c) := blk_cell KB.out 4; clear hb)
          | (go_at_call 18; refine (H3.out _ _ _ HR.out).mono ?_; rw [G3.out]; rintro e w4 ⟨rfl, hb⟩; have HB := Aside0.mk (below_step HB.out hb); clear hb))
        go_ret
        exact ⟨rfl, HB.out⟩
    · rw [if_neg (by decide), if_pos rfl]
      go_enter Tryz.func17, Tryz.ntmps17
      go_wp2_with (first
        | ((with_reducible refine gate_dst (N := 1) rfl ?_); refine box_event ?hg (N := 1) ?hd (cs := #[.int .i64 k, .int .i64 i, .float .f64 f, .string s, .slice A n c]) (t := 25) ?hr ?_; (case hd => rfl); (case hg => rfl); (case hr => first | (go_simp; done) | (go_simp; rfl)); intro gb hg w1 hbox hb; have HB := Aside0.mk hb; have HR := Aside0.mk (HR.out.kept hb); have KB := Aside0.mk hbox; have b0 : w1.cell? ⟨gb, 0, none⟩ = some (.int .i64 k) := blk_cell KB.out 0; have b1 : w1.cell? ⟨gb, 1, none⟩ = some (.int .i64 i) := blk_cell KB.out 1; have b2 : w1.cell? ⟨gb, 2, none⟩ = some (.float .f64 f) := blk_cell KB.out 2; have b3 : w1.cell? ⟨gb, 3, none⟩ = some (.string s) := blk_cell KB.out 3; have b4 : w1.cell? ⟨gb, 4, none⟩ = some (.slice A n c) := blk_cell KB.out 4; clear hg hbox hb)
        | (go_at_call 39; refine (H1.out _ _ _ HR.out).mono ?_; rw [G1.out]; rintro e w2 ⟨rfl, hb⟩; have HB := Aside0.mk (below_step HB.out hb); have HR := Aside0.mk (HR.out.kept hb); have KB := Aside0.mk (blk_below KB.out hb); clear b0 b1 b2 b3 b4; have b0 : w2.cell? ⟨gb, 0, none⟩ = some (.int .i64 k) := blk_cell KB.out 0; have b1 : w2.cell? ⟨gb, 1, none⟩ = some (.int .i64 i) := blk_cell KB.out 1; have b2 : w2.cell? ⟨gb, 2, none⟩ = some (.float .f64 f) := blk_cell KB.out 2; have b3 : w2.cell? ⟨gb, 3, none⟩ = some (.string s) := blk_cell KB.out 3; have b4 : w2.cell? ⟨gb, 4, none⟩ = some (.slice A n c) := blk_cell KB.out 4; clear hb)
        | (go_at_call 40; refine (H2.out _ _ _ HR.out 8).mono ?_; rw [G2.out]; rintro e w3 ⟨rfl, hb⟩; have HB := Aside0.mk (below_step HB.out hb); have HR := Aside0.mk (HR.out.kept hb); have KB := Aside0.mk (blk_below KB.out hb); clear b0 b1 b2 b3 b4; have b0 : w3.cell? ⟨gb, 0, none⟩ = some (.int .i64 k) := blk_cell KB.out 0; have b1 : w3.cell? ⟨gb, 1, none⟩ = some (.int .i64 i) := blk_cell KB.out 1; have b2 : w3.cell? ⟨gb, 2, none⟩ = some (.float .f64 f) := blk_cell KB.out 2; have b3 : w3.cell? ⟨gb, 3, none⟩ = some (.string s) := blk_cell KB.out 3; have b4 : w3.cell? ⟨gb, 4, none⟩ = some (.slice A n c) := blk_cell KB.out 4; clear hb)
        | (go_at_call 18; refine (H3.out _ _ _ HR.out).mono ?_; rw [G3.out]; rintro e w4 ⟨rfl, hb⟩; have HB := Aside0.mk (below_step HB.out hb); clear hb))
      go_ret
      exact ⟨rfl, HB.out⟩
  · rw [if_pos rfl]
    go_enter Tryz.func17, Tryz.ntmps17
    go_wp2_with (first
      | ((with_reducible refine gate_dst (N := 1) rfl ?_); refine box_event ?hg (N := 1) ?hd (cs := #[.int .i64 k, .int .i64 i, .float .f64 f, .string s, .slice A n c]) (t := 25) ?hr ?_; (case hd => rfl); (case hg => rfl); (case hr => first | (go_simp; done) | (go_simp; rfl)); intro gb hg w1 hbox hb; have HB := Aside0.mk hb; have HR := Aside0.mk (HR.out.kept hb); have KB := Aside0.mk hbox; have b0 : w1.cell? ⟨gb, 0, none⟩ = some (.int .i64 k) := blk_cell KB.out 0; have b1 : w1.cell? ⟨gb, 1, none⟩ = some (.int .i64 i) := blk_cell KB.out 1; have b2 : w1.cell? ⟨gb, 2, none⟩ = some (.float .f64 f) := blk_cell KB.out 2; have b3 : w1.cell? ⟨gb, 3, none⟩ = some (.string s) := blk_cell KB.out 3; have b4 : w1.cell? ⟨gb, 4, none⟩ = some (.slice A n c) := blk_cell KB.out 4; clear hg hbox hb)
      | (go_at_call 39; refine (H1.out _ _ _ HR.out).mono ?_; rw [G1.out]; rintro e w2 ⟨rfl, hb⟩; have HB := Aside0.mk (below_step HB.out hb); have HR := Aside0.mk (HR.out.kept hb); have KB := Aside0.mk (blk_below KB.out hb); clear b0 b1 b2 b3 b4; have b0 : w2.cell? ⟨gb, 0, none⟩ = some (.int .i64 k) := blk_cell KB.out 0; have b1 : w2.cell? ⟨gb, 1, none⟩ = some (.int .i64 i) := blk_cell KB.out 1; have b2 : w2.cell? ⟨gb, 2, none⟩ = some (.float .f64 f) := blk_cell KB.out 2; have b3 : w2.cell? ⟨gb, 3, none⟩ = some (.string s) := blk_cell KB.out 3; have b4 : w2.cell? ⟨gb, 4, none⟩ = some (.slice A n c) := blk_cell KB.out 4; clear hb)
      | (go_at_call 40; refine (H2.out _ _ _ HR.out 8).mono ?_; rw [G2.out]; rintro e w3 ⟨rfl, hb⟩; have HB := Aside0.mk (below_step HB.out hb); have HR := Aside0.mk (HR.out.kept hb); have KB := Aside0.mk (blk_below KB.out hb); clear b0 b1 b2 b3 b4; have b0 : w3.cell? ⟨gb, 0, none⟩ = some (.int .i64 k) := blk_cell KB.out 0; have b1 : w3.cell? ⟨gb, 1, none⟩ = some (.int .i64 i) := blk_cell KB.out 1; have b2 : w3.cell? ⟨gb, 2, none⟩ = some (.float .f64 f) := blk_cell KB.out 2; have b3 : w3.cell? ⟨gb, 3, none⟩ = some (.string s) := blk_cell KB.out 3; have b4 : w3.cell? ⟨gb, 4, none⟩ = some (.slice A n c) := blk_cell KB.out 4; clear hb)
      | (go_at_call 18; refine (H3.out _ _ _ HR.out).mono ?_; rw [G3.out]; rintro e w4 ⟨rfl, hb⟩; have HB := Aside0.mk (below_step HB.out hb); clear hb))
    go_ret
    exact ⟨rfl, HB.out⟩
end Go.Proofs.YtejfmghjmhiodaaGreatDoor.Vz
namespace Go.Proofs.YtejfmghjmhiodaaGreatDoor.Vz
open Go.RowKit Go.Proofs.YtejfmghjmhiodaaGreatDoorW.PrintWords
set_option linter.unusedVariables false
set_option linter.unusedSimpArgs false
attribute [local go_sem] store_float

set_option maxHeartbeats 8000000 in
set_option maxRecDepth 100000 in
theorem size19 : ∀ (v : Val) (W : World) (ok : Nat → Prop) (cs : Array Value), RV W ok v cs → Calls Tryz.prog 19 #[.agg cs] W fun e w' => e = .returned (.int .i64 (sizeV v)) ∧ Below W.heap.size W w' := by
  intro v
  induction v using Val.ind with
  | h k i f s l ih =>
    intro W ok cs hR 
    obtain ⟨A, c, rfl, wk, wi, wf, ws, wc, wb⟩ := hR.len
    have HI := Aside0.mk ih
    have HR := Aside0.mk hR
    have HWB := Aside0.mk (show (l.length : Int) * 64 ≤ 140737488351232 ∧ l.length ≤ c by omega)
    have hnn : (0 : Int) ≤ (l.length : Int) := by omega
    have hss : (s.size : Int) ≤ 140737488351232 := by omega
    have hs0 : (0 : Int) ≤ (s.size : Int) := by omega
    have hs1 : wrap64 (3 + (s.size : Int)) = 3 + (s.size : Int) := by unfold wrap64; omega
    clear ih hR wk wi wf ws wc wb
    unfold sizeV
    obtain ⟨n, hn⟩ : ∃ n, l.length = n := ⟨_, rfl⟩
    have HNL := Aside0.mk hn
    rw [hn] at HR HWB hnn ⊢
    clear hn
    by_cases hk4 : k = 4
    · subst hk4
      rw [if_neg (by decide), if_neg (by decide), if_neg (by decide), if_pos rfl]
      obtain ⟨O, hO⟩ : ∃ O, sizes 2 l = O := ⟨_, rfl⟩
      rw [hO]
      have HO := Aside0.mk hO
      clear hO
      go_enter Tryz.func19, Tryz.ntmps19
      go_upto_region 8 with (first
        | ((with_reducible refine gate_dst (N := 1) rfl ?_); refine box_event ?hg (N := 1) ?hd (cs := #[.int .i64 4, .int .i64 i, .float .f64 f, .string s, .slice A n c]) (t := 25) ?hr ?_; (case hd => rfl); (case hg => rfl); (case hr => first | (go_simp; done) | (go_simp; rfl)); intro gb hg w1 hbox hb; have HB := Aside0.mk hb; have KB := Aside0.mk hbox; have b0 : w1.cell? ⟨gb, 0, none⟩ = some (.int .i64 4) := blk_cell hbox 0; clear hg hbox hb))
      clear b0
      go_wp2
      go_loopw [3, 4] (fun sx ix wr => ∃ (j : Nat) (z : Int), j ≤ n ∧ sx = .int .i64 z ∧ ix = .int .i64 (j : Int) ∧ Aside0 (Below W.heap.size W wr) ∧ Aside0 (wr.heap[gb]? = some (.cells #[.int .i64 4, .int .i64 i, .float .f64 f, .string s, .slice A n c] 25 (0, 0))) ∧ Aside0 (sizes z (l.drop j) = O)) (fun _ ix _ => n - (intOf ix).toNat)
      case atStart => exact ⟨0, _, by omega, rfl, rfl, HB, KB, HO⟩
      case round =>
          obtain ⟨j, z, hj, rfl, rfl, HB', KB', HOj⟩ := hrel
          have b4 : wr.cell? ⟨gb, 4, none⟩ = some (.slice A n c) := blk_cell KB'.out 4
          by_cases hlt : j < n
          · have hji : (j : Int) < (n : Int) := by omega
            have hj0 : (0 : Int) ≤ (j : Int) := by omega
            have hjl : j < l.length := by rw [HNL.out]; exact hlt
            obtain ⟨g, off, k', i', f', s', A', n', c', rfl, hg1, hg2, hsub, p0, p1, p2, p3, p4⟩ := (HR.out.kept HB'.out).elem j hjl
            have hih := HI.out j hjl
            have HOj2 := Aside0.mk HOj.out
            rw [dropAt l j hjl, sizes_cons] at HOj2
            generalize l[j] = x at hsub hih HOj2
            have HSub := Aside0.mk hsub
            have HIx := Aside0.mk hih
            have hwk : IntKind.i64.wrap ((j : Int) + 1) = ((j + 1 : Nat) : Int) := by have := HWB.out; rw [IntKind.wrap_i64]; omega
            clear hsub hih hjl hg1 hg2
            go_wp2_with (go_at_call 19; refine (HIx.out _ _ _ HSub.out).mono ?_; rintro e w2 ⟨rfl, hb⟩; have HB2 := Aside0.mk (below_step HB'.out hb); have KB2 := Aside0.mk (blk_below KB'.out hb); clear hb)
            go_roundw
            case rel => exact ⟨j + 1, _, by omega, rfl, by go_num, HB2, KB2, HOj2⟩
            case measure => simp [intOf]; omega
          · obtain rfl : j = n := by omega
            have HOj2 := Aside0.mk HOj.out
            rw [show l.drop j = [] from List.drop_eq_nil_of_le (by rw [HNL.out]; omega), sizes_nil] at HOj2
            go_wp2
            go_ret
            exact ⟨by rw [← HOj2.out]; rfl, HB'.out⟩
    · have hk5 : (k == 4) = false := by rw [beq_eq_false_iff_ne]; exact hk4
      clear hk4
      by_cases h3 : k = 3
      · subst h3
        rw [if_neg (by decide), if_neg (by decide), if_pos rfl]
        go_enter Tryz.func19, Tryz.ntmps19
        go_wp2_with (first
          | ((with_reducible refine gate_dst (N := 1) rfl ?_); refine box_event ?hg (N := 1) ?hd (cs := #[.int .i64 3, .int .i64 i, .float .f64 f, .string s, .slice A n c]) (t := 25) ?hr ?_; (case hd => rfl); (case hg => rfl); (case hr => first | (go_simp; done) | (go_simp; rfl)); intro gb hg w1 hbox hb; have HB := Aside0.mk hb; have b0 : w1.cell? ⟨gb, 0, none⟩ = some (.int .i64 3) := blk_cell hbox 0; have b3 : w1.cell? ⟨gb, 3, none⟩ = some (.string s) := blk_cell hbox 3; clear hg hbox hb))
        go_ret
        exact ⟨rfl, HB.out⟩
      · have hk3 : (k == 3) = false := by rw [beq_eq_false_iff_ne]; exact h3
        clear h3
        by_cases h1 : k = 1 ∨ k = 2
        · rcases h1 with rfl | rfl
          · simp only [↓reduceIte, Int.reduceEq]
            go_enter Tryz.func19, Tryz.ntmps19
            go_wp2_with (first
              | ((with_reducible refine gate_dst (N := 1) rfl ?_); refine box_event ?hg (N := 1) ?hd (cs := #[.int .i64 1, .int .i64 i, .float .f64 f, .string s, .slice A n c]) (t := 25) ?hr ?_; (case hd => rfl); (case hg => rfl); (case hr => first | (go_simp; done) | (go_simp; rfl)); intro gb hg w1 hbox hb; have HB := Aside0.mk hb; have KB := Aside0.mk hbox; have b0 : w1.cell? ⟨gb, 0, none⟩ = some (.int .i64 1) := blk_cell hbox 0; clear hg hbox hb))
            go_ret
            exact ⟨rfl, HB.out⟩
          · simp only [↓reduceIte, Int.reduceEq]
            go_enter Tryz.func19, Tryz.ntmps19
            go_wp2_with (first
              | ((with_reducible refine gate_dst (N := 1) rfl ?_); refine box_event ?hg (N := 1) ?hd (cs := #[.int .i64 2, .int .i64 i, .float .f64 f, .string s, .slice A n c]) (t := 25) ?hr ?_; (case hd => rfl); (case hg => rfl); (case hr => first | (go_simp; done) | (go_simp; rfl)); intro gb hg w1 hbox hb; have HB := Aside0.mk hb; have KB := Aside0.mk hbox; have b0 : w1.cell? ⟨gb, 0, none⟩ = some (.int .i64 2) := blk_cell hbox 0; clear hg hbox hb))
            go_ret
            exact ⟨rfl, HB.out⟩
        · have hk1 : (k == 1) = false := by rw [beq_eq_false_iff_ne]; omega
          have hk2 : (k == 2) = false := by rw [beq_eq_false_iff_ne]; omega
          rw [if_neg (by omega), if_neg (by omega), if_neg (by rintro rfl; exact absurd hk3 (by decide)), if_neg (by rintro rfl; exact absurd hk5 (by decide))]
          clear h1
          go_enter Tryz.func19, Tryz.ntmps19
          go_wp2_with (first
              | ((with_reducible refine gate_dst (N := 1) rfl ?_); refine box_event ?hg (N := 1) ?hd (cs := #[.int .i64 k, .int .i64 i, .float .f64 f, .string s, .slice A n c]) (t := 25) ?hr ?_; (case hd => rfl); (case hg => rfl); (case hr => first | (go_simp; done) | (go_simp; rfl)); intro gb hg w1 hbox hb; have HB := Aside0.mk hb; have KB := Aside0.mk hbox; have b0 : w1.cell? ⟨gb, 0, none⟩ = some (.int .i64 k) := blk_cell hbox 0; clear hg hbox hb))
          go_ret
          exact ⟨rfl, HB.out⟩
end Go.Proofs.YtejfmghjmhiodaaGreatDoor.Vz
namespace Go.Proofs.YtejfmghjmhiodaaGreatDoor.Vz
open Go.RowKit Go.Proofs.YtejfmghjmhiodaaGreatDoorW.PrintWords
set_option linter.unusedVariables false
set_option linter.unusedSimpArgs false
attribute [local go_sem] store_float

def CompareC : Prop := ∀ (a b : ByteArray) (w : World), Calls Tryz.prog 34 #[.string a, .string b] w fun e w' => e = .returned (.int .i64 (Lib.compareBytes a.data.toList b.data.toList)) ∧ w' = w
theorem tenO {W w : World} {ga gb : Nat} {k i : Int} {f : Nat} {s : ByteArray} {l : List Val} {A : Option Addr} {c : Nat} {k2 i2 : Int} {f2 : Nat} {s2 : ByteArray} {l2 : List Val} {A2 : Option Addr} {c2 : Nat} (KA : W.heap[ga]? = some (.cells #[.int .i64 k, .int .i64 i, .float .f64 f, .string s, .slice A l.length c] 25 (0, 0))) (KB : W.heap[gb]? = some (.cells #[.int .i64 k2, .int .i64 i2, .float .f64 f2, .string s2, .slice A2 l2.length c2] 25 (0, 0))) (h : Below W.heap.size W w) : w.cell? ⟨ga, 0, none⟩ = some (.int .i64 k) ∧ w.cell? ⟨ga, 1, none⟩ = some (.int .i64 i) ∧ w.cell? ⟨ga, 2, none⟩ = some (.float .f64 f) ∧ w.cell? ⟨ga, 3, none⟩ = some (.string s) ∧ w.cell? ⟨ga, 4, none⟩ = some (.slice A l.length c) ∧ w.cell? ⟨gb, 0, none⟩ = some (.int .i64 k2) ∧ w.cell? ⟨gb, 1, none⟩ = some (.int .i64 i2) ∧ w.cell? ⟨gb, 2, none⟩ = some (.float .f64 f2) ∧ w.cell? ⟨gb, 3, none⟩ = some (.string s2) ∧ w.cell? ⟨gb, 4, none⟩ = some (.slice A2 l2.length c2) :=
  ⟨blk_cell (blk_below KA h) 0, blk_cell (blk_below KA h) 1, blk_cell (blk_below KA h) 2, blk_cell (blk_below KA h) 3, blk_cell (blk_below KA h) 4, blk_cell (blk_below KB h) 0, blk_cell (blk_below KB h) 1, blk_cell (blk_below KB h) 2, blk_cell (blk_below KB h) 3, blk_cell (blk_below KB h) 4⟩

set_option maxHeartbeats 8000000 in
set_option maxRecDepth 100000 in
theorem order11_ne (k i : Int) (f : Nat) (s : ByteArray) (l : List Val) (A : Option Addr) (c : Nat) (k2 i2 : Int) (f2 : Nat) (s2 : ByteArray) (l2 : List Val) (A2 : Option Addr) (c2 : Nat) (W : World) (ok ok2 : Nat → Prop)
    (hR : RV W ok (.mk k i f s l) #[.int .i64 k, .int .i64 i, .float .f64 f, .string s, .slice A l.length c]) (hR2 : RV W ok2 (.mk k2 i2 f2 s2 l2) #[.int .i64 k2, .int .i64 i2, .float .f64 f2, .string s2, .slice A2 l2.length c2]) (hc0 : cmpI (kindV k) (kindV k2) ≠ 0) :
    Calls Tryz.prog 11 #[.agg #[.int .i64 k, .int .i64 i, .float .f64 f, .string s, .slice A l.length c], .agg #[.int .i64 k2, .int .i64 i2, .float .f64 f2, .string s2, .slice A2 l2.length c2]] W fun e w' => e = .returned (.int .i64 (cmpI (kindV k) (kindV k2))) ∧ Below W.heap.size W w' := by
  have HR := Aside0.mk hR
  have HR2 := Aside0.mk hR2
  clear hR hR2
  obtain ⟨K, hK⟩ : ∃ K, kindV k = K := ⟨_, rfl⟩
  obtain ⟨K2, hK2⟩ : ∃ K2, kindV k2 = K2 := ⟨_, rfl⟩
  have h31 := fun W => kind31 k i f s A l.length c W
  have h31b := fun W => kind31 k2 i2 f2 s2 A2 l2.length c2 W
  rw [hK] at h31
  rw [hK2] at h31b
  have h30 := fun W => cmp30 K K2 W
  obtain ⟨C, hC⟩ : ∃ C, cmpI K K2 = C := ⟨_, rfl⟩
  have HCC := Aside0.mk hC
  rw [hC] at h30
  have H30 := Aside0.mk h30
  clear h30
  have H31 := Aside0.mk h31
  have H31b := Aside0.mk h31b
  have HK := Aside0.mk hK
  have HK2 := Aside0.mk hK2
  clear h31 h31b
  rw [hK, hK2, hC] at hc0
  have HC0 := Aside0.mk hc0
  clear hK hK2 hC hc0
  go_enter Tryz.func11, Tryz.ntmps11
  go_upto_region 1 with (first
    | ((with_reducible refine gate_dst (N := 2) rfl ?_); refine box_event ?hg (N := 2) ?hd (cs := #[.int .i64 k, .int .i64 i, .float .f64 f, .string s, .slice A l.length c]) (t := 25) ?hr ?_; (case hd => rfl); (case hg => rfl); (case hr => first | (go_simp; done) | (go_simp; rfl)); intro ga hg w1 hbox hb; have HB := Aside0.mk hb; have KA := Aside0.mk hbox; clear hg hbox hb)
    | ((with_reducible refine gate_dst (N := 3) rfl ?_); refine box_event ?hg (N := 3) ?hd (cs := #[.int .i64 k2, .int .i64 i2, .float .f64 f2, .string s2, .slice A2 l2.length c2]) (t := 25) ?hr ?_; (case hd => rfl); (case hg => rfl); (case hr => first | (go_simp; done) | (go_simp; rfl)); intro gb hg w2 hbox hb; have KA := Aside0.mk (blk_below KA.out hb); have KB := Aside0.mk hbox; have HB := Aside0.mk (below_step HB.out hb); clear hg hbox hb))
  have a0 : w2.cell? ⟨ga, 0, none⟩ = some (.int .i64 k) := blk_cell KA.out 0
  have a1 : w2.cell? ⟨ga, 1, none⟩ = some (.int .i64 i) := blk_cell KA.out 1
  have a2 : w2.cell? ⟨ga, 2, none⟩ = some (.float .f64 f) := blk_cell KA.out 2
  have a3 : w2.cell? ⟨ga, 3, none⟩ = some (.string s) := blk_cell KA.out 3
  have a4 : w2.cell? ⟨ga, 4, none⟩ = some (.slice A l.length c) := blk_cell KA.out 4
  have b0 : w2.cell? ⟨gb, 0, none⟩ = some (.int .i64 k2) := blk_cell KB.out 0
  have b1 : w2.cell? ⟨gb, 1, none⟩ = some (.int .i64 i2) := blk_cell KB.out 1
  have b2 : w2.cell? ⟨gb, 2, none⟩ = some (.float .f64 f2) := blk_cell KB.out 2
  have b3 : w2.cell? ⟨gb, 3, none⟩ = some (.string s2) := blk_cell KB.out 3
  have b4 : w2.cell? ⟨gb, 4, none⟩ = some (.slice A2 l2.length c2) := blk_cell KB.out 4
  go_region_held3 (fun w' => w'.cell? ⟨ga, 0, none⟩ = some (.int .i64 k) ∧ w'.cell? ⟨ga, 1, none⟩ = some (.int .i64 i) ∧ w'.cell? ⟨ga, 2, none⟩ = some (.float .f64 f) ∧ w'.cell? ⟨ga, 3, none⟩ = some (.string s) ∧ w'.cell? ⟨ga, 4, none⟩ = some (.slice A l.length c) ∧ w'.cell? ⟨gb, 0, none⟩ = some (.int .i64 k2) ∧ w'.cell? ⟨gb, 1, none⟩ = some (.int .i64 i2) ∧ w'.cell? ⟨gb, 2, none⟩ = some (.float .f64 f2) ∧ w'.cell? ⟨gb, 3, none⟩ = some (.string s2) ∧ w'.cell? ⟨gb, 4, none⟩ = some (.slice A2 l2.length c2)) (first | exact tenO (W := w2.drew) KA.out KB.out (below_step hb1 hb2) | exact tenO (W := w2.drew) KA.out KB.out hb1 | exact ⟨a0, a1, a2, a3, a4, b0, b1, b2, b3, b4⟩)
    (first
      | (go_at_call 30; refine (H30.out _).mono ?_; rintro e w5 ⟨rfl, rfl⟩)
      | (go_at_call 31; have tok := hb1; refine (H31b.out _).mono ?_; clear tok; rintro e w4 ⟨rfl, hb2⟩)
      | (go_at_call 31; refine (H31.out _).mono ?_; rintro e w3 ⟨rfl, hb1⟩))
  have HB4 := Aside0.mk (below_step (below_step HB.out.drew hb1) hb2)
  have KA4 := Aside0.mk (blk_below (w := w2.drew) KA.out (below_step hb1 hb2))
  have KB4 := Aside0.mk (blk_below (w := w2.drew) KB.out (below_step hb1 hb2))
  have H31c := Aside0.mk H31.out
  (try clear hHeld)
  clear hb1 hb2 a0 a1 a2 a3 a4 b0 b1 b2 b3 b4 KA KB HB
  have hc1 : (C != 0) = true := bne_iff_ne.2 HC0.out
  go_wp2
  go_ret
  exact ⟨by rw [HK.out, HK2.out, HCC.out]; rfl, HB4.out⟩

set_option maxHeartbeats 8000000 in
set_option maxRecDepth 100000 in
theorem order11_1 (k i : Int) (f : Nat) (s : ByteArray) (l : List Val) (A : Option Addr) (c : Nat) (k2 i2 : Int) (f2 : Nat) (s2 : ByteArray) (l2 : List Val) (A2 : Option Addr) (c2 : Nat) (W : World) (ok ok2 : Nat → Prop)
    (hR : RV W ok (.mk k i f s l) #[.int .i64 k, .int .i64 i, .float .f64 f, .string s, .slice A l.length c]) (hR2 : RV W ok2 (.mk k2 i2 f2 s2 l2) #[.int .i64 k2, .int .i64 i2, .float .f64 f2, .string s2, .slice A2 l2.length c2]) (hc0 : cmpI (kindV k) (kindV k2) = 0) (hkn : kindV k = 1) :
    Calls Tryz.prog 11 #[.agg #[.int .i64 k, .int .i64 i, .float .f64 f, .string s, .slice A l.length c], .agg #[.int .i64 k2, .int .i64 i2, .float .f64 f2, .string s2, .slice A2 l2.length c2]] W fun e w' => e = .returned (.int .i64 (cmpI i i2)) ∧ Below W.heap.size W w' := by
  have HR := Aside0.mk hR
  have HR2 := Aside0.mk hR2
  clear hR hR2
  obtain ⟨K, hK⟩ : ∃ K, kindV k = K := ⟨_, rfl⟩
  obtain ⟨K2, hK2⟩ : ∃ K2, kindV k2 = K2 := ⟨_, rfl⟩
  have h31 := fun W => kind31 k i f s A l.length c W
  have h31b := fun W => kind31 k2 i2 f2 s2 A2 l2.length c2 W
  rw [hK] at h31
  rw [hK2] at h31b
  have h30 := fun W => cmp30 K K2 W
  obtain ⟨C, hC⟩ : ∃ C, cmpI K K2 = C := ⟨_, rfl⟩
  have HCC := Aside0.mk hC
  rw [hC] at h30
  have H30 := Aside0.mk h30
  clear h30
  have H31 := Aside0.mk h31
  have H31b := Aside0.mk h31b
  have HK := Aside0.mk hK
  have HK2 := Aside0.mk hK2
  clear h31 h31b
  rw [hK, hK2, hC] at hc0
  have HC0 := Aside0.mk hc0
  clear hK hK2 hC hc0
  go_enter Tryz.func11, Tryz.ntmps11
  go_upto_region 1 with (first
    | ((with_reducible refine gate_dst (N := 2) rfl ?_); refine box_event ?hg (N := 2) ?hd (cs := #[.int .i64 k, .int .i64 i, .float .f64 f, .string s, .slice A l.length c]) (t := 25) ?hr ?_; (case hd => rfl); (case hg => rfl); (case hr => first | (go_simp; done) | (go_simp; rfl)); intro ga hg w1 hbox hb; have HB := Aside0.mk hb; have KA := Aside0.mk hbox; clear hg hbox hb)
    | ((with_reducible refine gate_dst (N := 3) rfl ?_); refine box_event ?hg (N := 3) ?hd (cs := #[.int .i64 k2, .int .i64 i2, .float .f64 f2, .string s2, .slice A2 l2.length c2]) (t := 25) ?hr ?_; (case hd => rfl); (case hg => rfl); (case hr => first | (go_simp; done) | (go_simp; rfl)); intro gb hg w2 hbox hb; have KA := Aside0.mk (blk_below KA.out hb); have KB := Aside0.mk hbox; have HB := Aside0.mk (below_step HB.out hb); clear hg hbox hb))
  have a0 : w2.cell? ⟨ga, 0, none⟩ = some (.int .i64 k) := blk_cell KA.out 0
  have a1 : w2.cell? ⟨ga, 1, none⟩ = some (.int .i64 i) := blk_cell KA.out 1
  have a2 : w2.cell? ⟨ga, 2, none⟩ = some (.float .f64 f) := blk_cell KA.out 2
  have a3 : w2.cell? ⟨ga, 3, none⟩ = some (.string s) := blk_cell KA.out 3
  have a4 : w2.cell? ⟨ga, 4, none⟩ = some (.slice A l.length c) := blk_cell KA.out 4
  have b0 : w2.cell? ⟨gb, 0, none⟩ = some (.int .i64 k2) := blk_cell KB.out 0
  have b1 : w2.cell? ⟨gb, 1, none⟩ = some (.int .i64 i2) := blk_cell KB.out 1
  have b2 : w2.cell? ⟨gb, 2, none⟩ = some (.float .f64 f2) := blk_cell KB.out 2
  have b3 : w2.cell? ⟨gb, 3, none⟩ = some (.string s2) := blk_cell KB.out 3
  have b4 : w2.cell? ⟨gb, 4, none⟩ = some (.slice A2 l2.length c2) := blk_cell KB.out 4
  go_region_held3 (fun w' => w'.cell? ⟨ga, 0, none⟩ = some (.int .i64 k) ∧ w'.cell? ⟨ga, 1, none⟩ = some (.int .i64 i) ∧ w'.cell? ⟨ga, 2, none⟩ = some (.float .f64 f) ∧ w'.cell? ⟨ga, 3, none⟩ = some (.string s) ∧ w'.cell? ⟨ga, 4, none⟩ = some (.slice A l.length c) ∧ w'.cell? ⟨gb, 0, none⟩ = some (.int .i64 k2) ∧ w'.cell? ⟨gb, 1, none⟩ = some (.int .i64 i2) ∧ w'.cell? ⟨gb, 2, none⟩ = some (.float .f64 f2) ∧ w'.cell? ⟨gb, 3, none⟩ = some (.string s2) ∧ w'.cell? ⟨gb, 4, none⟩ = some (.slice A2 l2.length c2)) (first | exact tenO (W := w2.drew) KA.out KB.out (below_step hb1 hb2) | exact tenO (W := w2.drew) KA.out KB.out hb1 | exact ⟨a0, a1, a2, a3, a4, b0, b1, b2, b3, b4⟩)
    (first
      | (go_at_call 30; refine (H30.out _).mono ?_; rintro e w5 ⟨rfl, rfl⟩)
      | (go_at_call 31; have tok := hb1; refine (H31b.out _).mono ?_; clear tok; rintro e w4 ⟨rfl, hb2⟩)
      | (go_at_call 31; refine (H31.out _).mono ?_; rintro e w3 ⟨rfl, hb1⟩))
  have HB4 := Aside0.mk (below_step (below_step HB.out.drew hb1) hb2)
  have KA4 := Aside0.mk (blk_below (w := w2.drew) KA.out (below_step hb1 hb2))
  have KB4 := Aside0.mk (blk_below (w := w2.drew) KB.out (below_step hb1 hb2))
  have H31c := Aside0.mk H31.out
  (try clear hHeld)
  clear hb1 hb2 a0 a1 a2 a3 a4 b0 b1 b2 b3 b4 KA KB HB
  have hc1 : (C != 0) = false := by rw [HC0.out]; rfl
  have a0 : w5.cell? ⟨ga, 0, none⟩ = some (.int .i64 k) := blk_cell KA4.out 0
  have a1 : w5.cell? ⟨ga, 1, none⟩ = some (.int .i64 i) := blk_cell KA4.out 1
  have a2 : w5.cell? ⟨ga, 2, none⟩ = some (.float .f64 f) := blk_cell KA4.out 2
  have a3 : w5.cell? ⟨ga, 3, none⟩ = some (.string s) := blk_cell KA4.out 3
  have a4 : w5.cell? ⟨ga, 4, none⟩ = some (.slice A l.length c) := blk_cell KA4.out 4
  have b0 : w5.cell? ⟨gb, 0, none⟩ = some (.int .i64 k2) := blk_cell KB4.out 0
  have b1 : w5.cell? ⟨gb, 1, none⟩ = some (.int .i64 i2) := blk_cell KB4.out 1
  have b2 : w5.cell? ⟨gb, 2, none⟩ = some (.float .f64 f2) := blk_cell KB4.out 2
  have b3 : w5.cell? ⟨gb, 3, none⟩ = some (.string s2) := blk_cell KB4.out 3
  have b4 : w5.cell? ⟨gb, 4, none⟩ = some (.slice A2 l2.length c2) := blk_cell KB4.out 4
  go_upto_region 5 with (first
    | (go_at_call 31; refine (H31c.out _).mono ?_; rintro e w6 ⟨rfl, hb⟩; have HB6 := Aside0.mk (below_step HB4.out hb); have KA6 := Aside0.mk (blk_below KA4.out hb); have KB6 := Aside0.mk (blk_below KB4.out hb); clear hb))
  clear a0 a1 a2 a3 a4 b0 b1 b2 b3 b4
  have a0 : w6.cell? ⟨ga, 0, none⟩ = some (.int .i64 k) := blk_cell KA6.out 0
  have a1 : w6.cell? ⟨ga, 1, none⟩ = some (.int .i64 i) := blk_cell KA6.out 1
  have a2 : w6.cell? ⟨ga, 2, none⟩ = some (.float .f64 f) := blk_cell KA6.out 2
  have a3 : w6.cell? ⟨ga, 3, none⟩ = some (.string s) := blk_cell KA6.out 3
  have a4 : w6.cell? ⟨ga, 4, none⟩ = some (.slice A l.length c) := blk_cell KA6.out 4
  have b0 : w6.cell? ⟨gb, 0, none⟩ = some (.int .i64 k2) := blk_cell KB6.out 0
  have b1 : w6.cell? ⟨gb, 1, none⟩ = some (.int .i64 i2) := blk_cell KB6.out 1
  have b2 : w6.cell? ⟨gb, 2, none⟩ = some (.float .f64 f2) := blk_cell KB6.out 2
  have b3 : w6.cell? ⟨gb, 3, none⟩ = some (.string s2) := blk_cell KB6.out 3
  have b4 : w6.cell? ⟨gb, 4, none⟩ = some (.slice A2 l2.length c2) := blk_cell KB6.out 4
  obtain rfl : K = 1 := HK.out.symm.trans hkn
  clear hkn
  go_wp2_with (go_at_call 32; refine (cmp32 i i2 _).mono ?_; rintro e w7 ⟨rfl, rfl⟩)
  go_ret
  exact ⟨rfl, HB6.out⟩

set_option maxHeartbeats 8000000 in
set_option maxRecDepth 100000 in
theorem order11_2 (k i : Int) (f : Nat) (s : ByteArray) (l : List Val) (A : Option Addr) (c : Nat) (k2 i2 : Int) (f2 : Nat) (s2 : ByteArray) (l2 : List Val) (A2 : Option Addr) (c2 : Nat) (W : World) (ok ok2 : Nat → Prop)
    (hR : RV W ok (.mk k i f s l) #[.int .i64 k, .int .i64 i, .float .f64 f, .string s, .slice A l.length c]) (hR2 : RV W ok2 (.mk k2 i2 f2 s2 l2) #[.int .i64 k2, .int .i64 i2, .float .f64 f2, .string s2, .slice A2 l2.length c2]) (hc0 : cmpI (kindV k) (kindV k2) = 0) (hkn : kindV k = 2) :
    Calls Tryz.prog 11 #[.agg #[.int .i64 k, .int .i64 i, .float .f64 f, .string s, .slice A l.length c], .agg #[.int .i64 k2, .int .i64 i2, .float .f64 f2, .string s2, .slice A2 l2.length c2]] W fun e w' => e = .returned (.int .i64 (floatsV f f2)) ∧ Below W.heap.size W w' := by
  obtain ⟨F, hF⟩ : ∃ F, floatsV f f2 = F := ⟨_, rfl⟩
  have h33 := Aside0.mk (fun W => floats33 f f2 W)
  rw [hF] at h33 ⊢
  clear hF
  have HR := Aside0.mk hR
  have HR2 := Aside0.mk hR2
  clear hR hR2
  obtain ⟨K, hK⟩ : ∃ K, kindV k = K := ⟨_, rfl⟩
  obtain ⟨K2, hK2⟩ : ∃ K2, kindV k2 = K2 := ⟨_, rfl⟩
  have h31 := fun W => kind31 k i f s A l.length c W
  have h31b := fun W => kind31 k2 i2 f2 s2 A2 l2.length c2 W
  rw [hK] at h31
  rw [hK2] at h31b
  have h30 := fun W => cmp30 K K2 W
  obtain ⟨C, hC⟩ : ∃ C, cmpI K K2 = C := ⟨_, rfl⟩
  have HCC := Aside0.mk hC
  rw [hC] at h30
  have H30 := Aside0.mk h30
  clear h30
  have H31 := Aside0.mk h31
  have H31b := Aside0.mk h31b
  have HK := Aside0.mk hK
  have HK2 := Aside0.mk hK2
  clear h31 h31b
  rw [hK, hK2, hC] at hc0
  have HC0 := Aside0.mk hc0
  clear hK hK2 hC hc0
  go_enter Tryz.func11, Tryz.ntmps11
  go_upto_region 1 with (first
    | ((with_reducible refine gate_dst (N := 2) rfl ?_); refine box_event ?hg (N := 2) ?hd (cs := #[.int .i64 k, .int .i64 i, .float .f64 f, .string s, .slice A l.length c]) (t := 25) ?hr ?_; (case hd => rfl); (case hg => rfl); (case hr => first | (go_simp; done) | (go_simp; rfl)); intro ga hg w1 hbox hb; have HB := Aside0.mk hb; have KA := Aside0.mk hbox; clear hg hbox hb)
    | ((with_reducible refine gate_dst (N := 3) rfl ?_); refine box_event ?hg (N := 3) ?hd (cs := #[.int .i64 k2, .int .i64 i2, .float .f64 f2, .string s2, .slice A2 l2.length c2]) (t := 25) ?hr ?_; (case hd => rfl); (case hg => rfl); (case hr => first | (go_simp; done) | (go_simp; rfl)); intro gb hg w2 hbox hb; have KA := Aside0.mk (blk_below KA.out hb); have KB := Aside0.mk hbox; have HB := Aside0.mk (below_step HB.out hb); clear hg hbox hb))
  have a0 : w2.cell? ⟨ga, 0, none⟩ = some (.int .i64 k) := blk_cell KA.out 0
  have a1 : w2.cell? ⟨ga, 1, none⟩ = some (.int .i64 i) := blk_cell KA.out 1
  have a2 : w2.cell? ⟨ga, 2, none⟩ = some (.float .f64 f) := blk_cell KA.out 2
  have a3 : w2.cell? ⟨ga, 3, none⟩ = some (.string s) := blk_cell KA.out 3
  have a4 : w2.cell? ⟨ga, 4, none⟩ = some (.slice A l.length c) := blk_cell KA.out 4
  have b0 : w2.cell? ⟨gb, 0, none⟩ = some (.int .i64 k2) := blk_cell KB.out 0
  have b1 : w2.cell? ⟨gb, 1, none⟩ = some (.int .i64 i2) := blk_cell KB.out 1
  have b2 : w2.cell? ⟨gb, 2, none⟩ = some (.float .f64 f2) := blk_cell KB.out 2
  have b3 : w2.cell? ⟨gb, 3, none⟩ = some (.string s2) := blk_cell KB.out 3
  have b4 : w2.cell? ⟨gb, 4, none⟩ = some (.slice A2 l2.length c2) := blk_cell KB.out 4
  go_region_held3 (fun w' => w'.cell? ⟨ga, 0, none⟩ = some (.int .i64 k) ∧ w'.cell? ⟨ga, 1, none⟩ = some (.int .i64 i) ∧ w'.cell? ⟨ga, 2, none⟩ = some (.float .f64 f) ∧ w'.cell? ⟨ga, 3, none⟩ = some (.string s) ∧ w'.cell? ⟨ga, 4, none⟩ = some (.slice A l.length c) ∧ w'.cell? ⟨gb, 0, none⟩ = some (.int .i64 k2) ∧ w'.cell? ⟨gb, 1, none⟩ = some (.int .i64 i2) ∧ w'.cell? ⟨gb, 2, none⟩ = some (.float .f64 f2) ∧ w'.cell? ⟨gb, 3, none⟩ = some (.string s2) ∧ w'.cell? ⟨gb, 4, none⟩ = some (.slice A2 l2.length c2)) (first | exact tenO (W := w2.drew) KA.out KB.out (below_step hb1 hb2) | exact tenO (W := w2.drew) KA.out KB.out hb1 | exact ⟨a0, a1, a2, a3, a4, b0, b1, b2, b3, b4⟩)
    (first
      | (go_at_call 30; refine (H30.out _).mono ?_; rintro e w5 ⟨rfl, rfl⟩)
      | (go_at_call 31; have tok := hb1; refine (H31b.out _).mono ?_; clear tok; rintro e w4 ⟨rfl, hb2⟩)
      | (go_at_call 31; refine (H31.out _).mono ?_; rintro e w3 ⟨rfl, hb1⟩))
  have HB4 := Aside0.mk (below_step (below_step HB.out.drew hb1) hb2)
  have KA4 := Aside0.mk (blk_below (w := w2.drew) KA.out (below_step hb1 hb2))
  have KB4 := Aside0.mk (blk_below (w := w2.drew) KB.out (below_step hb1 hb2))
  have H31c := Aside0.mk H31.out
  (try clear hHeld)
  clear hb1 hb2 a0 a1 a2 a3 a4 b0 b1 b2 b3 b4 KA KB HB
  have hc1 : (C != 0) = false := by rw [HC0.out]; rfl
  have a0 : w5.cell? ⟨ga, 0, none⟩ = some (.int .i64 k) := blk_cell KA4.out 0
  have a1 : w5.cell? ⟨ga, 1, none⟩ = some (.int .i64 i) := blk_cell KA4.out 1
  have a2 : w5.cell? ⟨ga, 2, none⟩ = some (.float .f64 f) := blk_cell KA4.out 2
  have a3 : w5.cell? ⟨ga, 3, none⟩ = some (.string s) := blk_cell KA4.out 3
  have a4 : w5.cell? ⟨ga, 4, none⟩ = some (.slice A l.length c) := blk_cell KA4.out 4
  have b0 : w5.cell? ⟨gb, 0, none⟩ = some (.int .i64 k2) := blk_cell KB4.out 0
  have b1 : w5.cell? ⟨gb, 1, none⟩ = some (.int .i64 i2) := blk_cell KB4.out 1
  have b2 : w5.cell? ⟨gb, 2, none⟩ = some (.float .f64 f2) := blk_cell KB4.out 2
  have b3 : w5.cell? ⟨gb, 3, none⟩ = some (.string s2) := blk_cell KB4.out 3
  have b4 : w5.cell? ⟨gb, 4, none⟩ = some (.slice A2 l2.length c2) := blk_cell KB4.out 4
  go_upto_region 5 with (first
    | (go_at_call 31; refine (H31c.out _).mono ?_; rintro e w6 ⟨rfl, hb⟩; have HB6 := Aside0.mk (below_step HB4.out hb); have KA6 := Aside0.mk (blk_below KA4.out hb); have KB6 := Aside0.mk (blk_below KB4.out hb); clear hb))
  clear a0 a1 a2 a3 a4 b0 b1 b2 b3 b4
  have a0 : w6.cell? ⟨ga, 0, none⟩ = some (.int .i64 k) := blk_cell KA6.out 0
  have a1 : w6.cell? ⟨ga, 1, none⟩ = some (.int .i64 i) := blk_cell KA6.out 1
  have a2 : w6.cell? ⟨ga, 2, none⟩ = some (.float .f64 f) := blk_cell KA6.out 2
  have a3 : w6.cell? ⟨ga, 3, none⟩ = some (.string s) := blk_cell KA6.out 3
  have a4 : w6.cell? ⟨ga, 4, none⟩ = some (.slice A l.length c) := blk_cell KA6.out 4
  have b0 : w6.cell? ⟨gb, 0, none⟩ = some (.int .i64 k2) := blk_cell KB6.out 0
  have b1 : w6.cell? ⟨gb, 1, none⟩ = some (.int .i64 i2) := blk_cell KB6.out 1
  have b2 : w6.cell? ⟨gb, 2, none⟩ = some (.float .f64 f2) := blk_cell KB6.out 2
  have b3 : w6.cell? ⟨gb, 3, none⟩ = some (.string s2) := blk_cell KB6.out 3
  have b4 : w6.cell? ⟨gb, 4, none⟩ = some (.slice A2 l2.length c2) := blk_cell KB6.out 4
  obtain rfl : K = 2 := HK.out.symm.trans hkn
  clear hkn
  go_wp2_with (go_at_call 33; refine (h33.out _).mono ?_; rintro e w7 ⟨rfl, rfl⟩)
  go_ret
  exact ⟨rfl, HB6.out⟩

set_option maxHeartbeats 8000000 in
set_option maxRecDepth 100000 in
theorem order11_3 (k i : Int) (f : Nat) (s : ByteArray) (l : List Val) (A : Option Addr) (c : Nat) (k2 i2 : Int) (f2 : Nat) (s2 : ByteArray) (l2 : List Val) (A2 : Option Addr) (c2 : Nat) (W : World) (ok ok2 : Nat → Prop)
    (hR : RV W ok (.mk k i f s l) #[.int .i64 k, .int .i64 i, .float .f64 f, .string s, .slice A l.length c]) (hR2 : RV W ok2 (.mk k2 i2 f2 s2 l2) #[.int .i64 k2, .int .i64 i2, .float .f64 f2, .string s2, .slice A2 l2.length c2]) (hc0 : cmpI (kindV k) (kindV k2) = 0) (hkn : kindV k = 3) (hS : CompareC) :
    Calls Tryz.prog 11 #[.agg #[.int .i64 k, .int .i64 i, .float .f64 f, .string s, .slice A l.length c], .agg #[.int .i64 k2, .int .i64 i2, .float .f64 f2, .string s2, .slice A2 l2.length c2]] W fun e w' => e = .returned (.int .i64 (Lib.compareBytes s.data.toList s2.data.toList)) ∧ Below W.heap.size W w' := by
  obtain ⟨F, hF⟩ : ∃ F, Lib.compareBytes s.data.toList s2.data.toList = F := ⟨_, rfl⟩
  have h34 := Aside0.mk (fun W => hS s s2 W)
  rw [hF] at h34 ⊢
  clear hF hS
  have HR := Aside0.mk hR
  have HR2 := Aside0.mk hR2
  clear hR hR2
  obtain ⟨K, hK⟩ : ∃ K, kindV k = K := ⟨_, rfl⟩
  obtain ⟨K2, hK2⟩ : ∃ K2, kindV k2 = K2 := ⟨_, rfl⟩
  have h31 := fun W => kind31 k i f s A l.length c W
  have h31b := fun W => kind31 k2 i2 f2 s2 A2 l2.length c2 W
  rw [hK] at h31
  rw [hK2] at h31b
  have h30 := fun W => cmp30 K K2 W
  obtain ⟨C, hC⟩ : ∃ C, cmpI K K2 = C := ⟨_, rfl⟩
  have HCC := Aside0.mk hC
  rw [hC] at h30
  have H30 := Aside0.mk h30
  clear h30
  have H31 := Aside0.mk h31
  have H31b := Aside0.mk h31b
  have HK := Aside0.mk hK
  have HK2 := Aside0.mk hK2
  clear h31 h31b
  rw [hK, hK2, hC] at hc0
  have HC0 := Aside0.mk hc0
  clear hK hK2 hC hc0
  go_enter Tryz.func11, Tryz.ntmps11
  go_upto_region 1 with (first
    | ((with_reducible refine gate_dst (N := 2) rfl ?_); refine box_event ?hg (N := 2) ?hd (cs := #[.int .i64 k, .int .i64 i, .float .f64 f, .string s, .slice A l.length c]) (t := 25) ?hr ?_; (case hd => rfl); (case hg => rfl); (case hr => first | (go_simp; done) | (go_simp; rfl)); intro ga hg w1 hbox hb; have HB := Aside0.mk hb; have KA := Aside0.mk hbox; clear hg hbox hb)
    | ((with_reducible refine gate_dst (N := 3) rfl ?_); refine box_event ?hg (N := 3) ?hd (cs := #[.int .i64 k2, .int .i64 i2, .float .f64 f2, .string s2, .slice A2 l2.length c2]) (t := 25) ?hr ?_; (case hd => rfl); (case hg => rfl); (case hr => first | (go_simp; done) | (go_simp; rfl)); intro gb hg w2 hbox hb; have KA := Aside0.mk (blk_below KA.out hb); have KB := Aside0.mk hbox; have HB := Aside0.mk (below_step HB.out hb); clear hg hbox hb))
  have a0 : w2.cell? ⟨ga, 0, none⟩ = some (.int .i64 k) := blk_cell KA.out 0
  have a1 : w2.cell? ⟨ga, 1, none⟩ = some (.int .i64 i) := blk_cell KA.out 1
  have a2 : w2.cell? ⟨ga, 2, none⟩ = some (.float .f64 f) := blk_cell KA.out 2
  have a3 : w2.cell? ⟨ga, 3, none⟩ = some (.string s) := blk_cell KA.out 3
  have a4 : w2.cell? ⟨ga, 4, none⟩ = some (.slice A l.length c) := blk_cell KA.out 4
  have b0 : w2.cell? ⟨gb, 0, none⟩ = some (.int .i64 k2) := blk_cell KB.out 0
  have b1 : w2.cell? ⟨gb, 1, none⟩ = some (.int .i64 i2) := blk_cell KB.out 1
  have b2 : w2.cell? ⟨gb, 2, none⟩ = some (.float .f64 f2) := blk_cell KB.out 2
  have b3 : w2.cell? ⟨gb, 3, none⟩ = some (.string s2) := blk_cell KB.out 3
  have b4 : w2.cell? ⟨gb, 4, none⟩ = some (.slice A2 l2.length c2) := blk_cell KB.out 4
  go_region_held3 (fun w' => w'.cell? ⟨ga, 0, none⟩ = some (.int .i64 k) ∧ w'.cell? ⟨ga, 1, none⟩ = some (.int .i64 i) ∧ w'.cell? ⟨ga, 2, none⟩ = some (.float .f64 f) ∧ w'.cell? ⟨ga, 3, none⟩ = some (.string s) ∧ w'.cell? ⟨ga, 4, none⟩ = some (.slice A l.length c) ∧ w'.cell? ⟨gb, 0, none⟩ = some (.int .i64 k2) ∧ w'.cell? ⟨gb, 1, none⟩ = some (.int .i64 i2) ∧ w'.cell? ⟨gb, 2, none⟩ = some (.float .f64 f2) ∧ w'.cell? ⟨gb, 3, none⟩ = some (.string s2) ∧ w'.cell? ⟨gb, 4, none⟩ = some (.slice A2 l2.length c2)) (first | exact tenO (W := w2.drew) KA.out KB.out (below_step hb1 hb2) | exact tenO (W := w2.drew) KA.out KB.out hb1 | exact ⟨a0, a1, a2, a3, a4, b0, b1, b2, b3, b4⟩)
    (first
      | (go_at_call 30; refine (H30.out _).mono ?_; rintro e w5 ⟨rfl, rfl⟩)
      | (go_at_call 31; have tok := hb1; refine (H31b.out _).mono ?_; clear tok; rintro e w4 ⟨rfl, hb2⟩)
      | (go_at_call 31; refine (H31.out _).mono ?_; rintro e w3 ⟨rfl, hb1⟩))
  have HB4 := Aside0.mk (below_step (below_step HB.out.drew hb1) hb2)
  have KA4 := Aside0.mk (blk_below (w := w2.drew) KA.out (below_step hb1 hb2))
  have KB4 := Aside0.mk (blk_below (w := w2.drew) KB.out (below_step hb1 hb2))
  have H31c := Aside0.mk H31.out
  (try clear hHeld)
  clear hb1 hb2 a0 a1 a2 a3 a4 b0 b1 b2 b3 b4 KA KB HB
  have hc1 : (C != 0) = false := by rw [HC0.out]; rfl
  have a0 : w5.cell? ⟨ga, 0, none⟩ = some (.int .i64 k) := blk_cell KA4.out 0
  have a1 : w5.cell? ⟨ga, 1, none⟩ = some (.int .i64 i) := blk_cell KA4.out 1
  have a2 : w5.cell? ⟨ga, 2, none⟩ = some (.float .f64 f) := blk_cell KA4.out 2
  have a3 : w5.cell? ⟨ga, 3, none⟩ = some (.string s) := blk_cell KA4.out 3
  have a4 : w5.cell? ⟨ga, 4, none⟩ = some (.slice A l.length c) := blk_cell KA4.out 4
  have b0 : w5.cell? ⟨gb, 0, none⟩ = some (.int .i64 k2) := blk_cell KB4.out 0
  have b1 : w5.cell? ⟨gb, 1, none⟩ = some (.int .i64 i2) := blk_cell KB4.out 1
  have b2 : w5.cell? ⟨gb, 2, none⟩ = some (.float .f64 f2) := blk_cell KB4.out 2
  have b3 : w5.cell? ⟨gb, 3, none⟩ = some (.string s2) := blk_cell KB4.out 3
  have b4 : w5.cell? ⟨gb, 4, none⟩ = some (.slice A2 l2.length c2) := blk_cell KB4.out 4
  go_upto_region 5 with (first
    | (go_at_call 31; refine (H31c.out _).mono ?_; rintro e w6 ⟨rfl, hb⟩; have HB6 := Aside0.mk (below_step HB4.out hb); have KA6 := Aside0.mk (blk_below KA4.out hb); have KB6 := Aside0.mk (blk_below KB4.out hb); clear hb))
  clear a0 a1 a2 a3 a4 b0 b1 b2 b3 b4
  have a0 : w6.cell? ⟨ga, 0, none⟩ = some (.int .i64 k) := blk_cell KA6.out 0
  have a1 : w6.cell? ⟨ga, 1, none⟩ = some (.int .i64 i) := blk_cell KA6.out 1
  have a2 : w6.cell? ⟨ga, 2, none⟩ = some (.float .f64 f) := blk_cell KA6.out 2
  have a3 : w6.cell? ⟨ga, 3, none⟩ = some (.string s) := blk_cell KA6.out 3
  have a4 : w6.cell? ⟨ga, 4, none⟩ = some (.slice A l.length c) := blk_cell KA6.out 4
  have b0 : w6.cell? ⟨gb, 0, none⟩ = some (.int .i64 k2) := blk_cell KB6.out 0
  have b1 : w6.cell? ⟨gb, 1, none⟩ = some (.int .i64 i2) := blk_cell KB6.out 1
  have b2 : w6.cell? ⟨gb, 2, none⟩ = some (.float .f64 f2) := blk_cell KB6.out 2
  have b3 : w6.cell? ⟨gb, 3, none⟩ = some (.string s2) := blk_cell KB6.out 3
  have b4 : w6.cell? ⟨gb, 4, none⟩ = some (.slice A2 l2.length c2) := blk_cell KB6.out 4
  obtain rfl : K = 3 := HK.out.symm.trans hkn
  clear hkn
  go_wp2_with (go_at_call 34; refine (h34.out _).mono ?_; rintro e w7 ⟨rfl, rfl⟩)
  go_ret
  exact ⟨rfl, HB6.out⟩

set_option maxHeartbeats 8000000 in
set_option maxRecDepth 100000 in
theorem order11_4 (k i : Int) (f : Nat) (s : ByteArray) (l : List Val) (A : Option Addr) (c : Nat) (k2 i2 : Int) (f2 : Nat) (s2 : ByteArray) (l2 : List Val) (A2 : Option Addr) (c2 : Nat) (W : World) (ok ok2 : Nat → Prop)
    (hR : RV W ok (.mk k i f s l) #[.int .i64 k, .int .i64 i, .float .f64 f, .string s, .slice A l.length c]) (hR2 : RV W ok2 (.mk k2 i2 f2 s2 l2) #[.int .i64 k2, .int .i64 i2, .float .f64 f2, .string s2, .slice A2 l2.length c2]) (hc0 : cmpI (kindV k) (kindV k2) = 0) (hkn : kindV k = 4) (hE : ∀ (j : Nat) (hj : j < l.length), OrdC l[j]) :
    Calls Tryz.prog 11 #[.agg #[.int .i64 k, .int .i64 i, .float .f64 f, .string s, .slice A l.length c], .agg #[.int .i64 k2, .int .i64 i2, .float .f64 f2, .string s2, .slice A2 l2.length c2]] W fun e w' => e = .returned (.int .i64 (orders l l2)) ∧ Below W.heap.size W w' := by
  obtain ⟨F, hF⟩ : ∃ F, orders l l2 = F := ⟨_, rfl⟩
  have h35 := Aside0.mk (fun (W' : World) (hb : Below W.heap.size W W') => compare35 k i f s l k2 i2 f2 s2 l2 hE W' ok ok2 _ _ _ _ _ _ _ _ A A2 c c2 (hR.kept hb) (hR2.kept hb))
  rw [hF] at h35 ⊢
  clear hF hE
  have HR := Aside0.mk hR
  have HR2 := Aside0.mk hR2
  clear hR hR2
  obtain ⟨K, hK⟩ : ∃ K, kindV k = K := ⟨_, rfl⟩
  obtain ⟨K2, hK2⟩ : ∃ K2, kindV k2 = K2 := ⟨_, rfl⟩
  have h31 := fun W => kind31 k i f s A l.length c W
  have h31b := fun W => kind31 k2 i2 f2 s2 A2 l2.length c2 W
  rw [hK] at h31
  rw [hK2] at h31b
  have h30 := fun W => cmp30 K K2 W
  obtain ⟨C, hC⟩ : ∃ C, cmpI K K2 = C := ⟨_, rfl⟩
  have HCC := Aside0.mk hC
  rw [hC] at h30
  have H30 := Aside0.mk h30
  clear h30
  have H31 := Aside0.mk h31
  have H31b := Aside0.mk h31b
  have HK := Aside0.mk hK
  have HK2 := Aside0.mk hK2
  clear h31 h31b
  rw [hK, hK2, hC] at hc0
  have HC0 := Aside0.mk hc0
  clear hK hK2 hC hc0
  go_enter Tryz.func11, Tryz.ntmps11
  go_upto_region 1 with (first
    | ((with_reducible refine gate_dst (N := 2) rfl ?_); refine box_event ?hg (N := 2) ?hd (cs := #[.int .i64 k, .int .i64 i, .float .f64 f, .string s, .slice A l.length c]) (t := 25) ?hr ?_; (case hd => rfl); (case hg => rfl); (case hr => first | (go_simp; done) | (go_simp; rfl)); intro ga hg w1 hbox hb; have HB := Aside0.mk hb; have KA := Aside0.mk hbox; clear hg hbox hb)
    | ((with_reducible refine gate_dst (N := 3) rfl ?_); refine box_event ?hg (N := 3) ?hd (cs := #[.int .i64 k2, .int .i64 i2, .float .f64 f2, .string s2, .slice A2 l2.length c2]) (t := 25) ?hr ?_; (case hd => rfl); (case hg => rfl); (case hr => first | (go_simp; done) | (go_simp; rfl)); intro gb hg w2 hbox hb; have KA := Aside0.mk (blk_below KA.out hb); have KB := Aside0.mk hbox; have HB := Aside0.mk (below_step HB.out hb); clear hg hbox hb))
  have a0 : w2.cell? ⟨ga, 0, none⟩ = some (.int .i64 k) := blk_cell KA.out 0
  have a1 : w2.cell? ⟨ga, 1, none⟩ = some (.int .i64 i) := blk_cell KA.out 1
  have a2 : w2.cell? ⟨ga, 2, none⟩ = some (.float .f64 f) := blk_cell KA.out 2
  have a3 : w2.cell? ⟨ga, 3, none⟩ = some (.string s) := blk_cell KA.out 3
  have a4 : w2.cell? ⟨ga, 4, none⟩ = some (.slice A l.length c) := blk_cell KA.out 4
  have b0 : w2.cell? ⟨gb, 0, none⟩ = some (.int .i64 k2) := blk_cell KB.out 0
  have b1 : w2.cell? ⟨gb, 1, none⟩ = some (.int .i64 i2) := blk_cell KB.out 1
  have b2 : w2.cell? ⟨gb, 2, none⟩ = some (.float .f64 f2) := blk_cell KB.out 2
  have b3 : w2.cell? ⟨gb, 3, none⟩ = some (.string s2) := blk_cell KB.out 3
  have b4 : w2.cell? ⟨gb, 4, none⟩ = some (.slice A2 l2.length c2) := blk_cell KB.out 4
  go_region_held3 (fun w' => w'.cell? ⟨ga, 0, none⟩ = some (.int .i64 k) ∧ w'.cell? ⟨ga, 1, none⟩ = some (.int .i64 i) ∧ w'.cell? ⟨ga, 2, none⟩ = some (.float .f64 f) ∧ w'.cell? ⟨ga, 3, none⟩ = some (.string s) ∧ w'.cell? ⟨ga, 4, none⟩ = some (.slice A l.length c) ∧ w'.cell? ⟨gb, 0, none⟩ = some (.int .i64 k2) ∧ w'.cell? ⟨gb, 1, none⟩ = some (.int .i64 i2) ∧ w'.cell? ⟨gb, 2, none⟩ = some (.float .f64 f2) ∧ w'.cell? ⟨gb, 3, none⟩ = some (.string s2) ∧ w'.cell? ⟨gb, 4, none⟩ = some (.slice A2 l2.length c2)) (first | exact tenO (W := w2.drew) KA.out KB.out (below_step hb1 hb2) | exact tenO (W := w2.drew) KA.out KB.out hb1 | exact ⟨a0, a1, a2, a3, a4, b0, b1, b2, b3, b4⟩)
    (first
      | (go_at_call 30; refine (H30.out _).mono ?_; rintro e w5 ⟨rfl, rfl⟩)
      | (go_at_call 31; have tok := hb1; refine (H31b.out _).mono ?_; clear tok; rintro e w4 ⟨rfl, hb2⟩)
      | (go_at_call 31; refine (H31.out _).mono ?_; rintro e w3 ⟨rfl, hb1⟩))
  have HB4 := Aside0.mk (below_step (below_step HB.out.drew hb1) hb2)
  have KA4 := Aside0.mk (blk_below (w := w2.drew) KA.out (below_step hb1 hb2))
  have KB4 := Aside0.mk (blk_below (w := w2.drew) KB.out (below_step hb1 hb2))
  have H31c := Aside0.mk H31.out
  (try clear hHeld)
  clear hb1 hb2 a0 a1 a2 a3 a4 b0 b1 b2 b3 b4 KA KB HB
  have hc1 : (C != 0) = false := by rw [HC0.out]; rfl
  have a0 : w5.cell? ⟨ga, 0, none⟩ = some (.int .i64 k) := blk_cell KA4.out 0
  have a1 : w5.cell? ⟨ga, 1, none⟩ = some (.int .i64 i) := blk_cell KA4.out 1
  have a2 : w5.cell? ⟨ga, 2, none⟩ = some (.float .f64 f) := blk_cell KA4.out 2
  have a3 : w5.cell? ⟨ga, 3, none⟩ = some (.string s) := blk_cell KA4.out 3
  have a4 : w5.cell? ⟨ga, 4, none⟩ = some (.slice A l.length c) := blk_cell KA4.out 4
  have b0 : w5.cell? ⟨gb, 0, none⟩ = some (.int .i64 k2) := blk_cell KB4.out 0
  have b1 : w5.cell? ⟨gb, 1, none⟩ = some (.int .i64 i2) := blk_cell KB4.out 1
  have b2 : w5.cell? ⟨gb, 2, none⟩ = some (.float .f64 f2) := blk_cell KB4.out 2
  have b3 : w5.cell? ⟨gb, 3, none⟩ = some (.string s2) := blk_cell KB4.out 3
  have b4 : w5.cell? ⟨gb, 4, none⟩ = some (.slice A2 l2.length c2) := blk_cell KB4.out 4
  go_upto_region 5 with (first
    | (go_at_call 31; refine (H31c.out _).mono ?_; rintro e w6 ⟨rfl, hb⟩; have HB6 := Aside0.mk (below_step HB4.out hb); have KA6 := Aside0.mk (blk_below KA4.out hb); have KB6 := Aside0.mk (blk_below KB4.out hb); clear hb))
  clear a0 a1 a2 a3 a4 b0 b1 b2 b3 b4
  have a0 : w6.cell? ⟨ga, 0, none⟩ = some (.int .i64 k) := blk_cell KA6.out 0
  have a1 : w6.cell? ⟨ga, 1, none⟩ = some (.int .i64 i) := blk_cell KA6.out 1
  have a2 : w6.cell? ⟨ga, 2, none⟩ = some (.float .f64 f) := blk_cell KA6.out 2
  have a3 : w6.cell? ⟨ga, 3, none⟩ = some (.string s) := blk_cell KA6.out 3
  have a4 : w6.cell? ⟨ga, 4, none⟩ = some (.slice A l.length c) := blk_cell KA6.out 4
  have b0 : w6.cell? ⟨gb, 0, none⟩ = some (.int .i64 k2) := blk_cell KB6.out 0
  have b1 : w6.cell? ⟨gb, 1, none⟩ = some (.int .i64 i2) := blk_cell KB6.out 1
  have b2 : w6.cell? ⟨gb, 2, none⟩ = some (.float .f64 f2) := blk_cell KB6.out 2
  have b3 : w6.cell? ⟨gb, 3, none⟩ = some (.string s2) := blk_cell KB6.out 3
  have b4 : w6.cell? ⟨gb, 4, none⟩ = some (.slice A2 l2.length c2) := blk_cell KB6.out 4
  obtain rfl : K = 4 := HK.out.symm.trans hkn
  clear hkn
  go_wp2_with (go_at_call 35; refine (h35.out _ HB6.out).mono ?_; rintro e w7 ⟨rfl, hb⟩; have HB6 := Aside0.mk (below_step HB6.out hb); clear hb)
  go_ret
  exact ⟨rfl, HB6.out⟩

set_option maxHeartbeats 8000000 in
set_option maxRecDepth 100000 in
theorem order11_0 (k i : Int) (f : Nat) (s : ByteArray) (l : List Val) (A : Option Addr) (c : Nat) (k2 i2 : Int) (f2 : Nat) (s2 : ByteArray) (l2 : List Val) (A2 : Option Addr) (c2 : Nat) (W : World) (ok ok2 : Nat → Prop)
    (hR : RV W ok (.mk k i f s l) #[.int .i64 k, .int .i64 i, .float .f64 f, .string s, .slice A l.length c]) (hR2 : RV W ok2 (.mk k2 i2 f2 s2 l2) #[.int .i64 k2, .int .i64 i2, .float .f64 f2, .string s2, .slice A2 l2.length c2]) (hc0 : cmpI (kindV k) (kindV k2) = 0) (hk1 : kindV k ≠ 1) (hk2 : kindV k ≠ 2) (hk3 : kindV k ≠ 3) (hk4 : kindV k ≠ 4) :
    Calls Tryz.prog 11 #[.agg #[.int .i64 k, .int .i64 i, .float .f64 f, .string s, .slice A l.length c], .agg #[.int .i64 k2, .int .i64 i2, .float .f64 f2, .string s2, .slice A2 l2.length c2]] W fun e w' => e = .returned (.int .i64 (0)) ∧ Below W.heap.size W w' := by
  have HR := Aside0.mk hR
  have HR2 := Aside0.mk hR2
  clear hR hR2
  obtain ⟨K, hK⟩ : ∃ K, kindV k = K := ⟨_, rfl⟩
  obtain ⟨K2, hK2⟩ : ∃ K2, kindV k2 = K2 := ⟨_, rfl⟩
  have h31 := fun W => kind31 k i f s A l.length c W
  have h31b := fun W => kind31 k2 i2 f2 s2 A2 l2.length c2 W
  rw [hK] at h31
  rw [hK2] at h31b
  have h30 := fun W => cmp30 K K2 W
  obtain ⟨C, hC⟩ : ∃ C, cmpI K K2 = C := ⟨_, rfl⟩
  have HCC := Aside0.mk hC
  rw [hC] at h30
  have H30 := Aside0.mk h30
  clear h30
  have H31 := Aside0.mk h31
  have H31b := Aside0.mk h31b
  have HK := Aside0.mk hK
  have HK2 := Aside0.mk hK2
  clear h31 h31b
  rw [hK, hK2, hC] at hc0
  have HC0 := Aside0.mk hc0
  clear hK hK2 hC hc0
  go_enter Tryz.func11, Tryz.ntmps11
  go_upto_region 1 with (first
    | ((with_reducible refine gate_dst (N := 2) rfl ?_); refine box_event ?hg (N := 2) ?hd (cs := #[.int .i64 k, .int .i64 i, .float .f64 f, .string s, .slice A l.length c]) (t := 25) ?hr ?_; (case hd => rfl); (case hg => rfl); (case hr => first | (go_simp; done) | (go_simp; rfl)); intro ga hg w1 hbox hb; have HB := Aside0.mk hb; have KA := Aside0.mk hbox; clear hg hbox hb)
    | ((with_reducible refine gate_dst (N := 3) rfl ?_); refine box_event ?hg (N := 3) ?hd (cs := #[.int .i64 k2, .int .i64 i2, .float .f64 f2, .string s2, .slice A2 l2.length c2]) (t := 25) ?hr ?_; (case hd => rfl); (case hg => rfl); (case hr => first | (go_simp; done) | (go_simp; rfl)); intro gb hg w2 hbox hb; have KA := Aside0.mk (blk_below KA.out hb); have KB := Aside0.mk hbox; have HB := Aside0.mk (below_step HB.out hb); clear hg hbox hb))
  have a0 : w2.cell? ⟨ga, 0, none⟩ = some (.int .i64 k) := blk_cell KA.out 0
  have a1 : w2.cell? ⟨ga, 1, none⟩ = some (.int .i64 i) := blk_cell KA.out 1
  have a2 : w2.cell? ⟨ga, 2, none⟩ = some (.float .f64 f) := blk_cell KA.out 2
  have a3 : w2.cell? ⟨ga, 3, none⟩ = some (.string s) := blk_cell KA.out 3
  have a4 : w2.cell? ⟨ga, 4, none⟩ = some (.slice A l.length c) := blk_cell KA.out 4
  have b0 : w2.cell? ⟨gb, 0, none⟩ = some (.int .i64 k2) := blk_cell KB.out 0
  have b1 : w2.cell? ⟨gb, 1, none⟩ = some (.int .i64 i2) := blk_cell KB.out 1
  have b2 : w2.cell? ⟨gb, 2, none⟩ = some (.float .f64 f2) := blk_cell KB.out 2
  have b3 : w2.cell? ⟨gb, 3, none⟩ = some (.string s2) := blk_cell KB.out 3
  have b4 : w2.cell? ⟨gb, 4, none⟩ = some (.slice A2 l2.length c2) := blk_cell KB.out 4
  go_region_held3 (fun w' => w'.cell? ⟨ga, 0, none⟩ = some (.int .i64 k) ∧ w'.cell? ⟨ga, 1, none⟩ = some (.int .i64 i) ∧ w'.cell? ⟨ga, 2, none⟩ = some (.float .f64 f) ∧ w'.cell? ⟨ga, 3, none⟩ = some (.string s) ∧ w'.cell? ⟨ga, 4, none⟩ = some (.slice A l.length c) ∧ w'.cell? ⟨gb, 0, none⟩ = some (.int .i64 k2) ∧ w'.cell? ⟨gb, 1, none⟩ = some (.int .i64 i2) ∧ w'.cell? ⟨gb, 2, none⟩ = some (.float .f64 f2) ∧ w'.cell? ⟨gb, 3, none⟩ = some (.string s2) ∧ w'.cell? ⟨gb, 4, none⟩ = some (.slice A2 l2.length c2)) (first | exact tenO (W := w2.drew) KA.out KB.out (below_step hb1 hb2) | exact tenO (W := w2.drew) KA.out KB.out hb1 | exact ⟨a0, a1, a2, a3, a4, b0, b1, b2, b3, b4⟩)
    (first
      | (go_at_call 30; refine (H30.out _).mono ?_; rintro e w5 ⟨rfl, rfl⟩)
      | (go_at_call 31; have tok := hb1; refine (H31b.out _).mono ?_; clear tok; rintro e w4 ⟨rfl, hb2⟩)
      | (go_at_call 31; refine (H31.out _).mono ?_; rintro e w3 ⟨rfl, hb1⟩))
  have HB4 := Aside0.mk (below_step (below_step HB.out.drew hb1) hb2)
  have KA4 := Aside0.mk (blk_below (w := w2.drew) KA.out (below_step hb1 hb2))
  have KB4 := Aside0.mk (blk_below (w := w2.drew) KB.out (below_step hb1 hb2))
  have H31c := Aside0.mk H31.out
  (try clear hHeld)
  clear hb1 hb2 a0 a1 a2 a3 a4 b0 b1 b2 b3 b4 KA KB HB
  have hc1 : (C != 0) = false := by rw [HC0.out]; rfl
  have a0 : w5.cell? ⟨ga, 0, none⟩ = some (.int .i64 k) := blk_cell KA4.out 0
  have a1 : w5.cell? ⟨ga, 1, none⟩ = some (.int .i64 i) := blk_cell KA4.out 1
  have a2 : w5.cell? ⟨ga, 2, none⟩ = some (.float .f64 f) := blk_cell KA4.out 2
  have a3 : w5.cell? ⟨ga, 3, none⟩ = some (.string s) := blk_cell KA4.out 3
  have a4 : w5.cell? ⟨ga, 4, none⟩ = some (.slice A l.length c) := blk_cell KA4.out 4
  have b0 : w5.cell? ⟨gb, 0, none⟩ = some (.int .i64 k2) := blk_cell KB4.out 0
  have b1 : w5.cell? ⟨gb, 1, none⟩ = some (.int .i64 i2) := blk_cell KB4.out 1
  have b2 : w5.cell? ⟨gb, 2, none⟩ = some (.float .f64 f2) := blk_cell KB4.out 2
  have b3 : w5.cell? ⟨gb, 3, none⟩ = some (.string s2) := blk_cell KB4.out 3
  have b4 : w5.cell? ⟨gb, 4, none⟩ = some (.slice A2 l2.length c2) := blk_cell KB4.out 4
  go_upto_region 5 with (first
    | (go_at_call 31; refine (H31c.out _).mono ?_; rintro e w6 ⟨rfl, hb⟩; have HB6 := Aside0.mk (below_step HB4.out hb); have KA6 := Aside0.mk (blk_below KA4.out hb); have KB6 := Aside0.mk (blk_below KB4.out hb); clear hb))
  clear a0 a1 a2 a3 a4 b0 b1 b2 b3 b4
  have a0 : w6.cell? ⟨ga, 0, none⟩ = some (.int .i64 k) := blk_cell KA6.out 0
  have a1 : w6.cell? ⟨ga, 1, none⟩ = some (.int .i64 i) := blk_cell KA6.out 1
  have a2 : w6.cell? ⟨ga, 2, none⟩ = some (.float .f64 f) := blk_cell KA6.out 2
  have a3 : w6.cell? ⟨ga, 3, none⟩ = some (.string s) := blk_cell KA6.out 3
  have a4 : w6.cell? ⟨ga, 4, none⟩ = some (.slice A l.length c) := blk_cell KA6.out 4
  have b0 : w6.cell? ⟨gb, 0, none⟩ = some (.int .i64 k2) := blk_cell KB6.out 0
  have b1 : w6.cell? ⟨gb, 1, none⟩ = some (.int .i64 i2) := blk_cell KB6.out 1
  have b2 : w6.cell? ⟨gb, 2, none⟩ = some (.float .f64 f2) := blk_cell KB6.out 2
  have b3 : w6.cell? ⟨gb, 3, none⟩ = some (.string s2) := blk_cell KB6.out 3
  have b4 : w6.cell? ⟨gb, 4, none⟩ = some (.slice A2 l2.length c2) := blk_cell KB6.out 4
  have e1 : (K == 1) = false := beq_eq_false_iff_ne.2 (by rw [← HK.out]; exact hk1)
  have e2 : (K == 2) = false := beq_eq_false_iff_ne.2 (by rw [← HK.out]; exact hk2)
  have e3 : (K == 3) = false := beq_eq_false_iff_ne.2 (by rw [← HK.out]; exact hk3)
  have e4 : (K == 4) = false := beq_eq_false_iff_ne.2 (by rw [← HK.out]; exact hk4)
  clear hk1 hk2 hk3 hk4
  go_wp2
  go_ret
  exact ⟨rfl, HB6.out⟩
/-- Order. -/
theorem order11 (hS : CompareC) (v : Val) : OrdC v := by
  induction v using Val.ind with
  | h k i f s l ih =>
    intro W ok cs hR v2 ok2 cs2 hR2
    cases v2 with
    | mk k2 i2 f2 s2 l2 =>
      obtain ⟨A, c, rfl, _⟩ := hR.len
      obtain ⟨A2, c2, rfl, _⟩ := hR2.len
      unfold order
      by_cases h0 : cmpI (kindV k) (kindV k2) = 0
      · rw [if_pos h0]
        by_cases h1 : kindV k = 1
        · rw [if_pos h1]; exact order11_1 k i f s l A c k2 i2 f2 s2 l2 A2 c2 W ok ok2 hR hR2 h0 h1
        · rw [if_neg h1]
          by_cases h2 : kindV k = 2
          · rw [if_pos h2]; exact order11_2 k i f s l A c k2 i2 f2 s2 l2 A2 c2 W ok ok2 hR hR2 h0 h2
          · rw [if_neg h2]
            by_cases h3 : kindV k = 3
            · rw [if_pos h3]; exact order11_3 k i f s l A c k2 i2 f2 s2 l2 A2 c2 W ok ok2 hR hR2 h0 h3 hS
            · rw [if_neg h3]
              by_cases h4 : kindV k = 4
              · rw [if_pos h4]; exact order11_4 k i f s l A c k2 i2 f2 s2 l2 A2 c2 W ok ok2 hR hR2 h0 h4 ih
              · rw [if_neg h4]; exact order11_0 k i f s l A c k2 i2 f2 s2 l2 A2 c2 W ok ok2 hR hR2 h0 h1 h2 h3 h4
      · rw [if_neg h0]; exact order11_ne k i f s l A c k2 i2 f2 s2 l2 A2 c2 W ok ok2 hR hR2 h0
end Go.Proofs.YtejfmghjmhiodaaGreatDoor.Vz
namespace Go.Proofs.YtejfmghjmhiodaaGreatDoor.Vz
open Go.RowKit Go.Proofs.YtejfmghjmhiodaaGreatDoorW.PrintWords
set_option linter.unusedVariables false
set_option linter.unusedSimpArgs false
attribute [local go_sem] store_float

def eqF (f f2 : Nat) : Bool := if feq f f2 = true then true else if isNan f = true then isNan f2 else false
mutual
def equalV : Val → Val → Bool
  | .mk k i f s l, .mk k2 i2 f2 s2 l2 => if kindV k = kindV k2 then (if kindV k = 1 then decide (i = i2) else if kindV k = 2 then eqF f f2 else if kindV k = 3 then (s == s2) else if kindV k = 4 then equals l l2 else true) else false
def equals : List Val → List Val → Bool
  | [], [] => true
  | [], _ :: _ => false
  | _ :: _, [] => false
  | x :: r, y :: t => if equalV x y = true then equals r t else false
end
theorem equals_cons (x y : Val) (r t : List Val) : equals (x :: r) (y :: t) = if equalV x y = true then equals r t else false := rfl
theorem equals_len : ∀ (l l2 : List Val), l.length ≠ l2.length → equals l l2 = false
  | [], [], h => absurd rfl h
  | [], _ :: _, _ => rfl
  | _ :: _, [], _ => rfl
  | x :: r, y :: t, h => by
    rw [equals_cons, equals_len r t (fun e => h (by simp [e]))]
    split <;> rfl
def EqC (v : Val) : Prop := ∀ (W : World) (ok : Nat → Prop) (cs : Array Value), RV W ok v cs → ∀ (v2 : Val) (ok2 : Nat → Prop) (cs2 : Array Value), RV W ok2 v2 cs2 → Calls Tryz.prog 13 #[.agg cs, .agg cs2] W fun e w' => e = .returned (.bool (equalV v v2)) ∧ Below W.heap.size W w'
theorem enters13 (args : Array Value) (W : World) : (callFunc 13 args).run Tryz.prog W = .ok (.enter 13 args) W := by kernel_rfl

set_option maxHeartbeats 8000000 in
set_option maxRecDepth 100000 in
theorem equal37 (k i : Int) (f : Nat) (s : ByteArray) (l : List Val) (kb ib : Int) (fb : Nat) (sb : ByteArray) (l2 : List Val) (hE : ∀ (j : Nat) (hj : j < l.length), EqC l[j]) (W : World) (ok ok2 : Nat → Prop) (x0 x1 x2 x3 y0 y1 y2 y3 : Value) (A A2 : Option Addr) (c c2 : Nat)
    (hR : RV W ok (.mk k i f s l) #[x0, x1, x2, x3, .slice A l.length c]) (hR2 : RV W ok2 (.mk kb ib fb sb l2) #[y0, y1, y2, y3, .slice A2 l2.length c2]) :
    Calls Tryz.prog 37 #[.slice A l.length c, .slice A2 l2.length c2, .func (.func 13) #[] #[]] W fun e w' => e = .returned (.bool (equals l l2)) ∧ Below W.heap.size W w' := by
  obtain ⟨A0, c0, e0, wk, wi, wf, ws, wc, wb⟩ := hR.len
  by_cases hlen : l.length = l2.length
  rotate_left
  · rw [equals_len l l2 hlen]
    have h1 : ((l.length : Int) != (l2.length : Int)) = true := bne_iff_ne.2 (by omega)
    clear hE hR hR2 wk wi wf ws wc wb e0
    generalize l.length = n at *
    generalize l2.length = m at *
    go_enter Tryz.func37, Tryz.ntmps37
    go_wp2
    go_ret
    exact ⟨rfl, Below.refl _ _⟩
  have HI := Aside0.mk hE
  have HR := Aside0.mk hR
  have HR2 := Aside0.mk hR2
  have HWB := Aside0.mk (show (l.length : Int) * 64 ≤ 140737488351232 by omega)
  have hnn : (0 : Int) ≤ (l.length : Int) := by omega
  have hent := enters13
  clear hE hR hR2 wk wi wf ws wc wb e0
  obtain ⟨n, hn⟩ : ∃ n, l.length = n := ⟨_, rfl⟩
  have hm : l2.length = n := by rw [← hlen, hn]
  have HNL := Aside0.mk hn
  have HML := Aside0.mk hm
  rw [hn] at HR HWB hnn ⊢
  rw [hm] at HR2 ⊢
  clear hn hm hlen
  obtain ⟨O, hO⟩ : ∃ O, equals l l2 = O := ⟨_, rfl⟩
  rw [hO]
  have HO := Aside0.mk hO
  clear hO
  go_enter Tryz.func37, Tryz.ntmps37
  go_wp2
  go_loopw [17] (fun ix wr => ∃ j : Nat, j ≤ n ∧ ix = .int .i64 (j : Int) ∧ Aside0 (Below W.heap.size W wr) ∧ Aside0 (equals (l.drop j) (l2.drop j) = O)) (fun ix _ => n - (intOf ix).toNat)
  case atStart => exact ⟨0, by omega, rfl, Aside0.mk (Below.refl _ _), HO⟩
  case round =>
    obtain ⟨j, hj, rfl, HB', HOj⟩ := hrel
    by_cases hlt : j < n
    · have hji : (j : Int) < (n : Int) := by omega
      have hj0 : (0 : Int) ≤ (j : Int) := by omega
      have hjl : j < l.length := by rw [HNL.out]; exact hlt
      obtain ⟨g, off, k', i', f', s', A', n', c', rfl, hg1, hg2, hsub, p0, p1, p2, p3, p4⟩ := (HR.out.kept HB'.out).elem j hjl
      have hih := HI.out j hjl
      have hd := drop_at l j hjl
      obtain ⟨x, hx⟩ : ∃ x, l[j] = x := ⟨_, rfl⟩
      rw [hx] at hsub hih hd
      have HSub := Aside0.mk hsub
      have HIx := Aside0.mk hih
      have HD := Aside0.mk hd
      have hwk : IntKind.i64.wrap ((j : Int) + 1) = ((j + 1 : Nat) : Int) := by have := HWB.out; rw [IntKind.wrap_i64]; omega
      clear hsub hih hd hx hjl hg1 hg2
      have hjl2 : j < l2.length := by rw [HML.out]; exact hlt
      obtain ⟨g2, off2, k2, i2, f2, s2, A2', n2', c2', rfl, _, _, hsub2, r0, r1, r2, r3, r4⟩ := (HR2.out.kept HB'.out).elem j hjl2
      have hd2 := drop_at l2 j hjl2
      obtain ⟨y, hy⟩ : ∃ y, l2[j] = y := ⟨_, rfl⟩
      rw [hy] at hsub2 hd2
      have HSub2 := Aside0.mk hsub2
      have HD2 := Aside0.mk hd2
      clear hsub2 hd2 hy hjl2
      obtain ⟨o, ho⟩ : ∃ o, equalV x y = o := ⟨_, rfl⟩
      have HOo := Aside0.mk ho
      clear ho
      have HOj2 := Aside0.mk HOj.out
      rw [HD.out, HD2.out, equals_cons, HOo.out] at HOj2
      go_upto_region 6 with (first
        | ((with_reducible refine gate_dst (N := 8) rfl ?_); refine box_event ?hg (N := 8) ?hd (cs := #[.int .i64 0, .int .i64 0, .float .f64 0, .string ⟨#[]⟩, .slice none 0 0]) (t := 25) ?hr ?_; (case hd => rfl); (case hg => rfl); (case hr => first | (go_simp; done) | (go_simp; rfl)); intro g8 hg w2 hbox hb; have H2 := Aside0.mk hb; have K8 := Aside0.mk hbox; have P := Aside0.mk (cell5_below ⟨p0, p1, p2, p3, p4⟩ hb); have R2 := Aside0.mk (cell5_below ⟨r0, r1, r2, r3, r4⟩ hb); have HG8 := Aside0.mk (show wr.heap.size ≤ g8 by omega); clear hg hbox hb)
        | ((with_reducible refine gate_store (t := 25) (p := 8) rfl ?_); refine put_eventU ?hg (t := 25) (p := 8) (v := .tmp 21) ?ho ?hN (g := g8) (u := .agg #[.int .i64 k', .int .i64 i', .float .f64 f', .string s', .slice A' n' c']) (cs := #[.int .i64 k', .int .i64 i', .float .f64 f', .string s', .slice A' n' c']) ?hp ?hv K8.out ?hs ?hi ?h1 ?hc ?_; (case hs => rfl); (case hi => kernel_rfl); (case h1 => simp [Value.oneCell']); (case hc => simp [Value.cells]); (case hg => rfl); (case ho => rfl); (case hN => rfl); (case hp => rfl); (case hv => rfl); intro w3 hk hs; have H3 := Aside0.mk (below_keep H2.out HG8.out hs); have K8 := Aside0.mk hk; have R3 := Aside0.mk (cell5_below ⟨r0, r1, r2, r3, r4⟩ H3.out); clear hk hs))
      clear p0 p1 p2 p3 p4 r0 r1 r2 r3 r4
      have r0 := R3.out.1
      have r1 := R3.out.2.1
      have r2 := R3.out.2.2.1
      have r3 := R3.out.2.2.2.1
      have r4 := R3.out.2.2.2.2
      go_upto_region 7 with (first
        | ((with_reducible refine gate_dst (N := 9) rfl ?_); refine box_event ?hg (N := 9) ?hd (cs := #[.int .i64 0, .int .i64 0, .float .f64 0, .string ⟨#[]⟩, .slice none 0 0]) (t := 25) ?hr ?_; (case hd => rfl); (case hg => rfl); (case hr => first | (go_simp; done) | (go_simp; rfl)); intro g9 hg w4 hbox hb; have HG9 := Aside0.mk (show wr.heap.size ≤ g9 ∧ g8 ≠ g9 by (have h1_ := H3.out.size; have h2_ := blk_lt K8.out; omega)); have R4 := Aside0.mk (cell5_below R3.out hb); have H4 := Aside0.mk (below_step H3.out hb); have K8 := Aside0.mk (blk_below K8.out hb); have K9 := Aside0.mk hbox; clear r0 r1 r2 r3 r4; have r0 := R4.out.1; have r1 := R4.out.2.1; have r2 := R4.out.2.2.1; have r3 := R4.out.2.2.2.1; have r4 := R4.out.2.2.2.2; clear hg hbox hb)
        | ((with_reducible refine gate_store (t := 25) (p := 9) rfl ?_); refine put_eventU ?hg (t := 25) (p := 9) (v := .tmp 25) ?ho ?hN (g := g9) (u := .agg #[.int .i64 k2, .int .i64 i2, .float .f64 f2, .string s2, .slice A2' n2' c2']) (cs := #[.int .i64 k2, .int .i64 i2, .float .f64 f2, .string s2, .slice A2' n2' c2']) ?hp ?hv K9.out ?hs ?hi ?h1 ?hc ?_; (case hs => rfl); (case hi => kernel_rfl); (case h1 => simp [Value.oneCell']); (case hc => simp [Value.cells]); (case hg => rfl); (case ho => rfl); (case hN => rfl); (case hp => rfl); (case hv => rfl); intro w5 hk hs; have H5 := Aside0.mk (below_keep H4.out HG9.out.1 hs); have K8 := Aside0.mk (hs.blk K8.out HG9.out.2); have K9 := Aside0.mk hk; clear hk hs))
      clear r0 r1 r2 r3 r4
      have a0 : w5.cell? ⟨g8, 0, none⟩ = some (.int .i64 k') := blk_cell K8.out 0
      have a1 : w5.cell? ⟨g8, 1, none⟩ = some (.int .i64 i') := blk_cell K8.out 1
      have a2 : w5.cell? ⟨g8, 2, none⟩ = some (.float .f64 f') := blk_cell K8.out 2
      have a3 : w5.cell? ⟨g8, 3, none⟩ = some (.string s') := blk_cell K8.out 3
      have a4 : w5.cell? ⟨g8, 4, none⟩ = some (.slice A' n' c') := blk_cell K8.out 4
      have b0 : w5.cell? ⟨g9, 0, none⟩ = some (.int .i64 k2) := blk_cell K9.out 0
      have b1 : w5.cell? ⟨g9, 1, none⟩ = some (.int .i64 i2) := blk_cell K9.out 1
      have b2 : w5.cell? ⟨g9, 2, none⟩ = some (.float .f64 f2) := blk_cell K9.out 2
      have b3 : w5.cell? ⟨g9, 3, none⟩ = some (.string s2) := blk_cell K9.out 3
      have b4 : w5.cell? ⟨g9, 4, none⟩ = some (.slice A2' n2' c2') := blk_cell K9.out 4
      have HS1 := Aside0.mk (HSub.out.kept H5.out)
      have HS2 := Aside0.mk (HSub2.out.kept H5.out)
      cases o
      · have HN := Aside0.mk (show false = O by have := HOj2.out; rwa [if_neg (by decide)] at this)
        go_wp2_with (first
          | (go_at_call 13; refine (HIx.out _ _ _ HS1.out _ _ _ HS2.out).mono ?_; rw [HOo.out]; rintro e w6 ⟨rfl, hb⟩; have H6 := Aside0.mk (below_step HB'.out (below_step H5.out hb)); clear hb))
        go_ret
        exact ⟨by rw [← HN.out]; rfl, H6.out⟩
      · have HN := Aside0.mk (show equals (l.drop (j + 1)) (l2.drop (j + 1)) = O by have := HOj2.out; rwa [if_pos rfl] at this)
        go_wp2_with (first
          | (go_at_call 13; refine (HIx.out _ _ _ HS1.out _ _ _ HS2.out).mono ?_; rw [HOo.out]; rintro e w6 ⟨rfl, hb⟩; have H6 := Aside0.mk (below_step HB'.out (below_step H5.out hb)); clear hb))
        go_roundw
        case rel => exact ⟨j + 1, by omega, by go_num, H6, HN⟩
        case measure => simp [intOf]; omega
    · obtain rfl : j = n := by omega
      have HOj2 := Aside0.mk HOj.out
      rw [show l.drop j = [] from List.drop_eq_nil_of_le (by rw [HNL.out]; omega), show l2.drop j = [] from List.drop_eq_nil_of_le (by rw [HML.out]; omega)] at HOj2
      go_wp2
      go_ret
      exact ⟨by rw [← HOj2.out]; rfl, HB'.out⟩
end Go.Proofs.YtejfmghjmhiodaaGreatDoor.Vz
