/- Lemmas of the proof, part 2 of 3. -/
import Derived.Lib.PrintData
import Derived.Test.YtejfmghjmhiodaaGreatDoorRows
import Derived.ProofKit
import Derived.SizedLaws
import Derived.HandedShaped
import Derived.LaidLaws
import Derived.MakeChecks
import Derived.LaidMore
import Derived.Stop.LaidErr
import Derived.Lib.LaidTab
import Derived.Lib.LaidPrint
import Derived.Lay
import Derived.Lib.LaidU8T
import Derived.Deep.Slices
import GoSem.ClaimJoined
import Derived.Deep.RegionHeld3
import Derived.Lib.Bytealg
import Derived.ArgAppend
import Derived.StillTailTactics
import Derived.Laws.StructEq
import Derived.Test.YtejfmghjmhiodaaGreatDoorPkClones1
namespace Go.Proofs.YtejfmghjmhiodaaGreatDoor.Vz
open Go.RowKit Go.Proofs.YtejfmghjmhiodaaGreatDoorW.PrintWords
set_option linter.unusedVariables false
set_option linter.unusedSimpArgs false
attribute [local go_sem] store_float

mutual
def sizeV : Val → Int
  | .mk k _ _ s l => if k = 1 then 9 else if k = 2 then 9 else if k = 3 then 3 + s.size else if k = 4 then sizes 2 l else 1
def sizes : Int → List Val → Int
  | z, [] => z
  | z, x :: r => sizes (wrap64 (z + sizeV x)) r
end
theorem sizes_nil (z : Int) : sizes z [] = z := by rw [sizes]
theorem sizes_cons (z : Int) (x : Val) (r : List Val) : sizes z (x :: r) = sizes (wrap64 (z + sizeV x)) r := by rw [sizes]
theorem dropAt (l : List Val) (j : Nat) (h : j < l.length) : l.drop j = l[j] :: l.drop (j + 1) := (List.getElem_cons_drop (h := h)).symm
def SizeC (v : Val) : Prop := ∀ (W : World) (ok : Nat → Prop) (cs : Array Value), RV W ok v cs → Calls Tryz.prog 18 #[.agg cs] W fun e w' => e = .returned (.int .i64 (sizeV v)) ∧ Below W.heap.size W w'

set_option maxHeartbeats 8000000 in
set_option maxRecDepth 100000 in
theorem size18 (v : Val) : SizeC v := by
  induction v using Val.ind with
  | h k i f s l ih =>
    intro W ok cs hR
    obtain ⟨A, c, rfl, wk, wi, wf, ws, wc, wb⟩ := hR.len
    have HI := Aside0.mk ih
    have HR := Aside0.mk hR
    have HWB := Aside0.mk (show (l.length : Int) * 64 ≤ 140737488351232 ∧ l.length ≤ c by omega)
    have hnn : (0 : Int) ≤ (l.length : Int) := by omega
    have hs1 : wrap64 (2 + (s.size : Int)) = 2 + (s.size : Int) := by unfold wrap64; omega
    have hs2 : wrap64 (1 + (2 + (s.size : Int))) = 3 + (s.size : Int) := by unfold wrap64; omega
    clear ih hR wk wi wf ws wc wb
    unfold sizeV
    obtain ⟨n, hn⟩ : ∃ n, l.length = n := ⟨_, rfl⟩
    have HNL := Aside0.mk hn
    rw [hn] at HR HWB hnn ⊢
    clear hn
    by_cases h1 : k = 1
    · subst h1
      rw [if_pos rfl]
      go_enter Tryz.func18, Tryz.ntmps18
      go_wp2_with (first
        | ((with_reducible refine gate_dst (N := 1) rfl ?_); refine box_event ?hg (N := 1) ?hd (cs := #[.int .i64 1, .int .i64 i, .float .f64 f, .string s, .slice A n c]) (t := 25) ?hr ?_; (case hd => rfl); (case hg => rfl); (case hr => first | (go_simp; done) | (go_simp; rfl)); intro gb hg w1 hbox hb; have HB := Aside0.mk hb; have KB := Aside0.mk hbox; have b0 : w1.cell? ⟨gb, 0, none⟩ = some (.int .i64 1) := blk_cell hbox 0; clear hg hbox hb))
      go_ret
      exact ⟨rfl, HB.out⟩
    · rw [if_neg h1]
      have e1 : (k == 1) = false := beq_eq_false_iff_ne.2 h1
      clear h1
      by_cases h2 : k = 2
      · subst h2
        rw [if_pos rfl]
        go_enter Tryz.func18, Tryz.ntmps18
        go_wp2_with (first
          | ((with_reducible refine gate_dst (N := 1) rfl ?_); refine box_event ?hg (N := 1) ?hd (cs := #[.int .i64 2, .int .i64 i, .float .f64 f, .string s, .slice A n c]) (t := 25) ?hr ?_; (case hd => rfl); (case hg => rfl); (case hr => first | (go_simp; done) | (go_simp; rfl)); intro gb hg w1 hbox hb; have HB := Aside0.mk hb; have KB := Aside0.mk hbox; have b0 : w1.cell? ⟨gb, 0, none⟩ = some (.int .i64 2) := blk_cell hbox 0; clear hg hbox hb))
        go_ret
        exact ⟨rfl, HB.out⟩
      · rw [if_neg h2]
        have e2 : (k == 2) = false := beq_eq_false_iff_ne.2 h2
        clear h2
        by_cases h3 : k = 3
        · subst h3
          rw [if_pos rfl]
          go_enter Tryz.func18, Tryz.ntmps18
          go_wp2_with (first
            | ((with_reducible refine gate_dst (N := 1) rfl ?_); refine box_event ?hg (N := 1) ?hd (cs := #[.int .i64 3, .int .i64 i, .float .f64 f, .string s, .slice A n c]) (t := 25) ?hr ?_; (case hd => rfl); (case hg => rfl); (case hr => first | (go_simp; done) | (go_simp; rfl)); intro gb hg w1 hbox hb; have HB := Aside0.mk hb; have KB := Aside0.mk hbox; have b0 : w1.cell? ⟨gb, 0, none⟩ = some (.int .i64 3) := blk_cell hbox 0; have b3 : w1.cell? ⟨gb, 3, none⟩ = some (.string s) := blk_cell hbox 3; clear hg hbox hb))
          go_ret
          exact ⟨by show Ending.returned (.int .i64 (wrap64 (1 + (2 + (s.size : Int))))) = _; rw [hs2], HB.out⟩
        · rw [if_neg h3]
          have e3 : (k == 3) = false := beq_eq_false_iff_ne.2 h3
          clear h3
          by_cases h4 : k = 4
          · subst h4
            rw [if_pos rfl]
            obtain ⟨O, hO⟩ : ∃ O, sizes 2 l = O := ⟨_, rfl⟩
            rw [hO]
            have HO := Aside0.mk hO
            clear hO hs1 hs2
            go_enter Tryz.func18, Tryz.ntmps18
            go_upto_region 10 with (first
              | ((with_reducible refine gate_dst (N := 1) rfl ?_); refine box_event ?hg (N := 1) ?hd (cs := #[.int .i64 4, .int .i64 i, .float .f64 f, .string s, .slice A n c]) (t := 25) ?hr ?_; (case hd => rfl); (case hg => rfl); (case hr => first | (go_simp; done) | (go_simp; rfl)); intro gb hg w1 hbox hb; have HB := Aside0.mk hb; have KB := Aside0.mk hbox; have b0 : w1.cell? ⟨gb, 0, none⟩ = some (.int .i64 4) := blk_cell hbox 0; clear hg hbox hb))
            clear b0
            have b4 : w1.cell? ⟨gb, 4, none⟩ = some (.slice A n c) := blk_cell KB.out 4
            go_wp2
            clear b4
            go_loopw [3, 28] (fun sx ix wr => ∃ (j : Nat) (z : Int), j ≤ n ∧ sx = .int .i64 z ∧ ix = .int .i64 (j : Int) ∧ Aside0 (Below W.heap.size W wr) ∧ Aside0 (sizes z (l.drop j) = O)) (fun _ ix _ => n - (intOf ix).toNat)
            case atStart => exact ⟨0, _, by omega, rfl, rfl, HB, HO⟩
            case round =>
              obtain ⟨j, z, hj, rfl, rfl, HB', HOj⟩ := hrel
              by_cases hlt : j < n
              · have hji : (j : Int) < (n : Int) := by omega
                have hj0 : (0 : Int) ≤ (j : Int) := by omega
                have hjl : j < l.length := by rw [HNL.out]; exact hlt
                obtain ⟨g, off, k', i', f', s', A', n', c', rfl, hg1, hg2, hsub, p0, p1, p2, p3, p4⟩ := (HR.out.kept HB'.out).elem j hjl
                have hih := HI.out j hjl
                have HOj2 := Aside0.mk HOj.out
                rw [dropAt l j hjl, sizes_cons] at HOj2
                generalize l[j] = x at hsub hih HOj2
                have HSub := Aside0.mk hsub
                have HIx := Aside0.mk hih
                have hwk : IntKind.i64.wrap ((j : Int) + 1) = ((j + 1 : Nat) : Int) := by have := HWB.out; rw [IntKind.wrap_i64]; omega
                clear hsub hih hjl hg1 hg2
                go_wp2_with (first
                  | ((with_reducible refine gate_dst (N := 5) rfl ?_); refine box_event ?hg (N := 5) ?hd (cs := #[.int .i64 0, .int .i64 0, .float .f64 0, .string ⟨#[]⟩, .slice none 0 0]) (t := 25) ?hr ?_; (case hd => rfl); (case hg => rfl); (case hr => first | (go_simp; done) | (go_simp; rfl)); intro g5 hg w2 hbox hb; have H2 := Aside0.mk hb; have K5 := Aside0.mk hbox; have HG5 := Aside0.mk (show wr.heap.size ≤ g5 by omega); clear hg hbox hb)
                  | ((with_reducible refine gate_store (t := 25) (p := 5) rfl ?_); refine put_eventU ?hg (t := 25) (p := 5) (v := .tmp 31) ?ho ?hN (g := g5) (u := .agg #[.int .i64 k', .int .i64 i', .float .f64 f', .string s', .slice A' n' c']) (cs := #[.int .i64 k', .int .i64 i', .float .f64 f', .string s', .slice A' n' c']) ?hp ?hv K5.out ?hs ?hi ?h1 ?hc ?_; (case hs => rfl); (case hi => kernel_rfl); (case h1 => simp [Value.oneCell']); (case hc => simp [Value.cells]); (case hg => rfl); (case ho => rfl); (case hN => rfl); (case hp => rfl); (case hv => rfl); intro w3 hk hs; have H3 := Aside0.mk (below_keep H2.out HG5.out hs); have HS := Aside0.mk (HSub.out.kept H3.out); have a0 : w3.cell? ⟨g5, 0, none⟩ = some (.int .i64 k') := blk_cell hk 0; have a1 : w3.cell? ⟨g5, 1, none⟩ = some (.int .i64 i') := blk_cell hk 1; have a2 : w3.cell? ⟨g5, 2, none⟩ = some (.float .f64 f') := blk_cell hk 2; have a3 : w3.cell? ⟨g5, 3, none⟩ = some (.string s') := blk_cell hk 3; have a4 : w3.cell? ⟨g5, 4, none⟩ = some (.slice A' n' c') := blk_cell hk 4; clear hk hs)
                  | (go_at_call 18; refine (HIx.out _ _ _ HS.out).mono ?_; rintro e w4 ⟨rfl, hb⟩; have HB2 := Aside0.mk (below_step HB'.out (below_step H3.out hb)); clear hb))
                go_roundw
                case rel => exact ⟨j + 1, _, by omega, rfl, by go_num, HB2, HOj2⟩
                case measure => simp [intOf]; omega
              · obtain rfl : j = n := by omega
                have HOj2 := Aside0.mk HOj.out
                rw [show l.drop j = [] from List.drop_eq_nil_of_le (by rw [HNL.out]; omega), sizes_nil] at HOj2
                go_wp2
                go_ret
                exact ⟨by rw [← HOj2.out]; rfl, HB'.out⟩
          · rw [if_neg h4]
            have e4 : (k == 4) = false := beq_eq_false_iff_ne.2 h4
            clear h4
            go_enter Tryz.func18, Tryz.ntmps18
            go_wp2_with (first
              | ((with_reducible refine gate_dst (N := 1) rfl ?_); refine box_event ?hg (N := 1) ?hd (cs := #[.int .i64 k, .int .i64 i, .float .f64 f, .string s, .slice A n c]) (t := 25) ?hr ?_; (case hd => rfl); (case hg => rfl); (case hr => first | (go_simp; done) | (go_simp; rfl)); intro gb hg w1 hbox hb; have HB := Aside0.mk hb; have KB := Aside0.mk hbox; have b0 : w1.cell? ⟨gb, 0, none⟩ = some (.int .i64 k) := blk_cell hbox 0; clear hg hbox hb))
            go_ret
            exact ⟨rfl, HB.out⟩
end Go.Proofs.YtejfmghjmhiodaaGreatDoor.Vz
namespace Go.Proofs.YtejfmghjmhiodaaGreatDoor.Vz
open Go.RowKit Go.Proofs.YtejfmghjmhiodaaGreatDoorW.PrintWords
set_option linter.unusedVariables false
set_option linter.unusedSimpArgs false
attribute [local go_sem] store_float

/-- What writing reads of the library's tables. -/
structure Tabs3 (W : World) : Prop where
  tabs : Tabs W
  pt : Lib.PrintTabsAt 8 9 10 11 Lib.goPrintTabs W
  ut : Lib.Utf8Tabs 6 7 W
theorem Tabs3.below {W W' : World} (h : Tabs3 W) (hb : Below W.heap.size W W') : Tabs3 W' := ⟨h.tabs.below hb, printTabs_below h.pt hb, Utf8Tabs_below h.ut hb⟩
theorem info9 : (Tryz.prog.info? 9).map (fun i => (i.zero, i.size, i.bytes)) = some (some (.string ⟨#[]⟩), 1, 16) := by kernel_rfl
def TxtC (v : Val) (t : ByteArray) : Prop := ∀ (W : World) (ok : Nat → Prop) (cs : Array Value), Tabs3 W → RV W ok v cs → Calls Tryz.prog 22 #[.agg cs] W fun e w' => e = .returned (.string t) ∧ Below W.heap.size W w'

set_option maxHeartbeats 8000000 in
set_option maxRecDepth 100000 in
theorem txt_int1 (f : Nat) (s : ByteArray) (l : List Val) : TxtC (.mk 1 1 f s l) ⟨#[49]⟩ := by
  intro W ok cs T hR
  obtain ⟨A, c, rfl, _⟩ := hR.len
  have c1 : ∀ w, Calls Tryz.prog 44 #[.int .i64 1, .int .i64 10] w (fun e w' => e = .returned (.string ⟨#[49]⟩) ∧ w' = w) := fun w => by
    have h := Tryz.strconv_FormatInt_10_small 1 (by decide) w
    rwa [show Lib.decDigits 1 = [49] by decide +kernel] at h
  clear hR T
  generalize l.length = n
  go_enter Tryz.func22, Tryz.ntmps22
  go_wp2_with (first
    | ((with_reducible refine gate_dst (N := 1) rfl ?_); refine box_event ?hg (N := 1) ?hd (cs := #[.int .i64 1, .int .i64 1, .float .f64 f, .string s, .slice A n c]) (t := 25) ?hr ?_; (case hd => rfl); (case hg => rfl); (case hr => first | (go_simp; done) | (go_simp; rfl)); intro gb hg w1 hbox hb; have HB := Aside0.mk hb; have KB := Aside0.mk hbox; have b0 : w1.cell? ⟨gb, 0, none⟩ = some (.int .i64 1) := blk_cell hbox 0; have b1 : w1.cell? ⟨gb, 1, none⟩ = some (.int .i64 1) := blk_cell hbox 1; clear hg hbox hb)
    | (go_at_call 44; refine (c1 _).mono ?_; rintro e w2 ⟨rfl, hw⟩; rw [hw]; clear hw w2))
  go_ret
  exact ⟨rfl, HB.out⟩

set_option maxHeartbeats 8000000 in
set_option maxRecDepth 100000 in
theorem txt_half (i : Int) (s : ByteArray) (l : List Val) : TxtC (.mk 2 i 4602678819172646912 s l) ⟨#[48, 46, 53]⟩ := by
  intro W ok cs T hR
  obtain ⟨A, c, rfl, _⟩ := hR.len
  have HT := Aside0.mk T
  clear hR T
  generalize l.length = n
  go_enter Tryz.func22, Tryz.ntmps22
  go_wp2_with (first
    | ((with_reducible refine gate_dst (N := 1) rfl ?_); refine box_event ?hg (N := 1) ?hd (cs := #[.int .i64 2, .int .i64 i, .float .f64 4602678819172646912, .string s, .slice A n c]) (t := 25) ?hr ?_; (case hd => rfl); (case hg => rfl); (case hr => first | (go_simp; done) | (go_simp; rfl)); intro gb hg w1 hbox hb; have HB := Aside0.mk hb; have KB := Aside0.mk hbox; have b0 : w1.cell? ⟨gb, 0, none⟩ = some (.int .i64 2) := blk_cell hbox 0; have b2 : w1.cell? ⟨gb, 2, none⟩ = some (.float .f64 4602678819172646912) := blk_cell hbox 2; clear hg hbox hb)
    | (go_at_call 45; refine (float_half _ (HT.out.tabs.below HB.out)).mono ?_; rintro e w2 ⟨rfl, hb⟩; have HB := Aside0.mk (below_step HB.out hb); clear hb))
  go_ret
  exact ⟨rfl, HB.out⟩

set_option maxHeartbeats 8000000 in
set_option maxRecDepth 100000 in
theorem txt_two (i : Int) (s : ByteArray) (l : List Val) : TxtC (.mk 2 i 4611686018427387904 s l) ⟨#[50, 46, 48]⟩ := by
  intro W ok cs T hR
  obtain ⟨A, c, rfl, _⟩ := hR.len
  have HT := Aside0.mk T
  clear hR T
  generalize l.length = n
  go_enter Tryz.func22, Tryz.ntmps22
  go_wp2_with (first
    | ((with_reducible refine gate_dst (N := 1) rfl ?_); refine box_event ?hg (N := 1) ?hd (cs := #[.int .i64 2, .int .i64 i, .float .f64 4611686018427387904, .string s, .slice A n c]) (t := 25) ?hr ?_; (case hd => rfl); (case hg => rfl); (case hr => first | (go_simp; done) | (go_simp; rfl)); intro gb hg w1 hbox hb; have HB := Aside0.mk hb; have KB := Aside0.mk hbox; have b0 : w1.cell? ⟨gb, 0, none⟩ = some (.int .i64 2) := blk_cell hbox 0; have b2 : w1.cell? ⟨gb, 2, none⟩ = some (.float .f64 4611686018427387904) := blk_cell hbox 2; clear hg hbox hb)
    | (go_at_call 45; refine (float_two _ (HT.out.tabs.below HB.out)).mono ?_; rintro e w2 ⟨rfl, hb⟩; have HB := Aside0.mk (below_step HB.out hb); clear hb))
  go_ret
  exact ⟨rfl, HB.out⟩

set_option maxHeartbeats 8000000 in
set_option maxRecDepth 100000 in
theorem txt_a (i : Int) (f : Nat) (l : List Val) : TxtC (.mk 3 i f ⟨#[97]⟩ l) ⟨#[34, 97, 34]⟩ := by
  intro W ok cs T hR
  obtain ⟨A, c, rfl, _⟩ := hR.len
  have HC := Aside0.mk (show ∀ w, Tabs3 w → Calls Tryz.prog 46 #[.string ⟨#[97]⟩] w (fun e w' => e = .returned (.string ⟨#[34, 97, 34]⟩) ∧ Below w.heap.size w w') from fun w T => by
    have h := Tryz.strconv_Quote Lib.goPrintTabs ⟨#[97]⟩ w (by decide) T.pt T.ut
    rwa [show strOfNums (Lib.quoteZ Lib.goPrintTabs ⟨#[97]⟩) = ⟨#[34, 97, 34]⟩ by decide +kernel] at h)
  have HT := Aside0.mk T
  clear hR T
  generalize l.length = n
  go_enter Tryz.func22, Tryz.ntmps22
  go_wp2_with (first
    | ((with_reducible refine gate_dst (N := 1) rfl ?_); refine box_event ?hg (N := 1) ?hd (cs := #[.int .i64 3, .int .i64 i, .float .f64 f, .string ⟨#[97]⟩, .slice A n c]) (t := 25) ?hr ?_; (case hd => rfl); (case hg => rfl); (case hr => first | (go_simp; done) | (go_simp; rfl)); intro gb hg w1 hbox hb; have HB := Aside0.mk hb; have KB := Aside0.mk hbox; have b0 : w1.cell? ⟨gb, 0, none⟩ = some (.int .i64 3) := blk_cell hbox 0; have b3 : w1.cell? ⟨gb, 3, none⟩ = some (.string ⟨#[97]⟩) := blk_cell hbox 3; clear hg hbox hb)
    | (go_at_call 46; refine (HC.out _ (HT.out.below HB.out)).mono ?_; rintro e w2 ⟨rfl, hb⟩; have HB := Aside0.mk (below_step HB.out hb); clear hb))
  go_ret
  exact ⟨rfl, HB.out⟩
end Go.Proofs.YtejfmghjmhiodaaGreatDoor.Vz
namespace Go.Proofs.YtejfmghjmhiodaaGreatDoor.VzRow
open Go.ChangeShapes Go.WideShapes Go.ChangeAt Go.RowKit
set_option linter.unusedVariables false

/-- The plain row's builder: a condition beside the row, and the world's shape. -/
theorem returns_and_shaped {H : Type} {enc : TypeId × Value → H} {a : Assume} {C : Checked} {os : Os} {f : FuncId} {fn : Func} {s : ChangeSpec} {conds : List PathCond} {apart fresh handsOn again : Bool} {X : World → Array Value → Prop}
    (hX : ∀ (w w' : World) (args : Array Value), w.heap = w'.heap → X w args → X w' args)
    (own : ownKnob C.prog.godebug = none) (started : os.Started) (noInit : C.prog.inits.idxOf? f = none) (hfn : C.prog.funcs[f]? = some fn)
    (witness : ∃ (w : World) (tape : Tape) (i : Input), w.os = os ∧ (w.forCall tape i).Shaped C.prog ∧ i.vars = [] ∧ Input.okWide C.prog (w.forCall tape i) .any w.heap.size f i ∧
      ((s.pre enc C.prog fn conds apart (w.forCall tape i).memory i.args ∧ X (w.forCall tape i).memory i.args) ∧ sizedMet enc C.prog fn (OpenSpec.ofChange s) apart (w.forCall tape i).memory i.args) ∧ a.holds C.prog (lone (Frame.enter C.prog f i.args .normal) [] (w.forCall tape i)))
    (contract : ∀ (W : World) (base : Nat) (args : Array Value) (ds gs : List (DataW H)) (before : List MemPlace),
      (∀ (j : Nat) t v, fn.params[j]? = some t → args[j]? = some v → Value.okWide C.prog W .any base t v) →
      DataW.Whole enc C.prog fn.params.toList s.vars apart W args.toList ds gs before →
      X W args → W.ShapedOpen C.prog → (DataW.weightsEach C.prog (fn.params.toList ++ s.plain.varTypes C.prog) (ds ++ gs)).all (· ≤ reachBytes) = true →
      Calls C.prog f args W fun e W' => ∃ v, e = .returned v ∧ s.post enc C.prog fn apart fresh handsOn again W args v W') :
    ReturnsInHanded a C os f .any (fun w args => (s.pre enc C.prog fn conds apart w args ∧ X w args) ∧ sizedMet enc C.prog fn (OpenSpec.ofChange s) apart w args) (s.post enc C.prog fn apart fresh handsOn again) := by
  refine returnsInHanded_of_calls own started noInit witness ?_
  intro w tape i _ hsh _ hok hpre _
  obtain ⟨_, _, _, fn', hfn', _, _, _, _, hval⟩ := hok
  have e : fn' = fn := Option.some.inj (hfn'.symm.trans hfn)
  subst e
  obtain ⟨⟨⟨ds, gs, before, hw, _⟩, hx⟩, hz⟩ := hpre
  have hw' := DataW.Whole.of_heap (w' := w.forCall tape i) (by rfl) hw
  refine (contract (w.forCall tape i) w.heap.size i.args ds gs before hval hw' (hX _ _ _ (by rfl) hx) hsh (hz.weights hw)).mono fun e W' ⟨v, he, hp⟩ => ?_
  subst he
  exact ChangeSpec.post_blind hp

def laid5 : List (String × DataW Unit) := [("math/bits.deBruijn32tab", Rows.laid_math_bits_deBruijn32tab), ("math/bits.deBruijn64tab", Rows.laid_math_bits_deBruijn64tab), ("internal/strconv.optimize", Rows.laid_internal_strconv_optimize), ("internal/strconv.uint64pow10", Rows.laid_internal_strconv_uint64pow10), ("unicode/utf8.acceptRanges", Rows.laid_unicode_utf8_acceptRanges), ("internal/strconv.leftcheats", Rows.laid_internal_strconv_leftcheats), ("internal/strconv.pow10Tab", Rows.laid_internal_strconv_pow10Tab), ("strconv.isGraphic", Rows.laid_strconv_isGraphic), ("strconv.isNotPrint16", Rows.laid_strconv_isNotPrint16), ("strconv.isNotPrint32", Rows.laid_strconv_isNotPrint32), ("strconv.isPrint16", Rows.laid_strconv_isPrint16), ("strconv.isPrint32", Rows.laid_strconv_isPrint32), ("unicode/utf8.first", Rows.laid_unicode_utf8_first)]

theorem own : ownKnob Tryz.prog.godebug = none := by kernel_rfl
theorem printExtra : PrintExtra Tryz.prog Tryz.lays339_ren := {
  n20 := by kernel_rfl
  n21 := by kernel_rfl
  n22 := by kernel_rfl
  n23 := by kernel_rfl
  y20 := by kernel_rfl
  y21 := by kernel_rfl
  y22 := by kernel_rfl
  y23 := by kernel_rfl
  c49 := by kernel_rfl
  c51 := by kernel_rfl }
theorem u8Extra : U8Extra Tryz.prog Tryz.lays260_ren := {
  n3 := by kernel_rfl
  n4 := by kernel_rfl
  y3 := by kernel_rfl
  y4 := by kernel_rfl
  c5 := by kernel_rfl
  c119 := by kernel_rfl
  c138 := by kernel_rfl }
theorem p16 : Rows.laid_strconv_isPrint16 = Go.Lib.sliceData .u16 Go.Lib.goPrintTabs.p16 := by kernel_rfl
theorem n16 : Rows.laid_strconv_isNotPrint16 = Go.Lib.sliceData .u16 Go.Lib.goPrintTabs.n16 := by kernel_rfl
theorem p32 : Rows.laid_strconv_isPrint32 = Go.Lib.sliceData .u32 Go.Lib.goPrintTabs.p32 := by kernel_rfl
theorem n32 : Rows.laid_strconv_isNotPrint32 = Go.Lib.sliceData .u16 Go.Lib.goPrintTabs.n32 := by kernel_rfl
theorem u8f : Rows.laid_unicode_utf8_first = Go.Lib.firstData := by kernel_rfl
theorem u8a : (Rows.laid_unicode_utf8_acceptRanges : DataW Unit) = Go.Lib.acceptData := by kernel_rfl
theorem p10 : (Rows.laid_internal_strconv_uint64pow10 : DataW Unit) = Go.Lib.tabData .u64 Go.Lib.pow10Tab := by kernel_rfl
theorem und155 : ∃ n1 n2 : Field, Tryz.prog.underlying 155 = some (.struct #[n1, n2]) ∧ (n1.type = 32 ∧ n1.offset = 0) ∧ (n2.type = 32 ∧ n2.offset = 1) := ⟨_, _, Tryz.underlying155, ⟨rfl, rfl⟩, ⟨rfl, rfl⟩⟩

theorem rowCells {W : World} (h : Go.Lib.VarReads Tryz.prog W "internal/strconv.pow10Tab" Go.Pinned.pow10Tab) (i hi lo : Nat) (hl : i < 696) (he : (Go.Pinned.pow10Rows.map fun x => (DataW.agg [.lit (.int .u64 x.1), .lit (.int .u64 x.2)] : DataW Unit))[i]? = some (.agg [.lit (.int .u64 hi), .lit (.int .u64 lo)])) :
    W.cell? ⟨13, 2 * i, none⟩ = some (.int .u64 (hi : Int)) ∧ W.cell? ⟨13, 2 * i + 1, none⟩ = some (.int .u64 (lo : Int)) := by
  obtain ⟨g, t, cs, fuel, p, hg, hty, hvar, hd⟩ := h
  obtain rfl : g = 13 := Option.some.inj (hg.symm.trans (by kernel_rfl))
  obtain rfl : t = 156 := Option.some.inj (hty.symm.trans (by kernel_rfl))
  obtain ⟨fuel', d, q, hdi, hx⟩ := Go.Lib.array_elem Tryz.underlying156 hd i hl
  rw [he] at hdi
  obtain rfl := Option.some.inj hdi
  have c155 : Tryz.prog.cellsOf 155 = 2 := by kernel_rfl
  rw [c155] at hx
  obtain ⟨n1, n2, hu, ⟨ht1, ho1⟩, ht2, ho2⟩ := und155
  have hcs := Go.Lib.ints_of_struct (k := .u64) (zs := [(hi : Int), (lo : Int)]) hu (fun j f hj => by
    match j, hj with
    | 0, hj => simp at hj; subst hj; rw [ht1, ho1]; exact ⟨Tryz.underlying32, rfl, by kernel_rfl⟩
    | 1, hj => simp at hj; subst hj; rw [ht2, ho2]; exact ⟨Tryz.underlying32, rfl, by kernel_rfl⟩
    | j + 2, hj => simp at hj) (by rw [c155]; rfl) hx
  have e0 := congrArg (·[0]?) hcs
  have e1 := congrArg (·[1]?) hcs
  simp only [List.getElem?_take, List.getElem?_drop] at e0 e1
  constructor
  · rw [World.var?_cell hg hvar (2 * i), ← Array.getElem?_toList]
    simpa [Nat.mul_comm] using e0
  · rw [World.var?_cell hg hvar (2 * i + 1), ← Array.getElem?_toList]
    simpa [Nat.mul_comm] using e1
set_option maxRecDepth 100000 in
/-- What the listed variables give. -/
theorem ok_of_laid {W : World} (h : laidMetH Tryz.prog laid5 W) (hsh : W.ShapedOpen Tryz.prog) : Vz.Tabs3 W := by
  rw [MakeChecks.laidMetH_plain _ _ _ (by kernel_rfl)] at h
  have r1 := (Go.Lib.laidMet.reads h (n := "internal/strconv.pow10Tab") (d := Rows.laid_internal_strconv_pow10Tab) (by exact List.Mem.tail _ (List.Mem.tail _ (List.Mem.tail _ (List.Mem.tail _ (List.Mem.tail _ (List.Mem.tail _ (List.Mem.head _))))))))
  have a := rowCells r1 364 10240000000000000000 0 (by decide) (by kernel_rfl)
  have b := rowCells r1 365 12800000000000000000 0 (by decide) (by kernel_rfl)
  have r2 := (Go.Lib.laidMet.reads h (n := "internal/strconv.uint64pow10") (d := Rows.laid_internal_strconv_uint64pow10) (by exact List.Mem.tail _ (List.Mem.tail _ (List.Mem.tail _ (List.Mem.head _)))))
  rw [p10] at r2
  have r3 := (Go.Lib.laidMet.reads h (n := "strconv.isPrint16") (d := Rows.laid_strconv_isPrint16) (by exact List.Mem.tail _ (List.Mem.tail _ (List.Mem.tail _ (List.Mem.tail _ (List.Mem.tail _ (List.Mem.tail _ (List.Mem.tail _ (List.Mem.tail _ (List.Mem.tail _ (List.Mem.tail _ (List.Mem.head _))))))))))))
  rw [p16] at r3
  have r4 := (Go.Lib.laidMet.reads h (n := "strconv.isNotPrint16") (d := Rows.laid_strconv_isNotPrint16) (by exact List.Mem.tail _ (List.Mem.tail _ (List.Mem.tail _ (List.Mem.tail _ (List.Mem.tail _ (List.Mem.tail _ (List.Mem.tail _ (List.Mem.tail _ (List.Mem.head _))))))))))
  rw [n16] at r4
  have r5 := (Go.Lib.laidMet.reads h (n := "strconv.isPrint32") (d := Rows.laid_strconv_isPrint32) (by exact List.Mem.tail _ (List.Mem.tail _ (List.Mem.tail _ (List.Mem.tail _ (List.Mem.tail _ (List.Mem.tail _ (List.Mem.tail _ (List.Mem.tail _ (List.Mem.tail _ (List.Mem.tail _ (List.Mem.tail _ (List.Mem.head _)))))))))))))
  rw [p32] at r5
  have r6 := (Go.Lib.laidMet.reads h (n := "strconv.isNotPrint32") (d := Rows.laid_strconv_isNotPrint32) (by exact List.Mem.tail _ (List.Mem.tail _ (List.Mem.tail _ (List.Mem.tail _ (List.Mem.tail _ (List.Mem.tail _ (List.Mem.tail _ (List.Mem.tail _ (List.Mem.tail _ (List.Mem.head _)))))))))))
  rw [n32] at r6
  have r7 := (Go.Lib.laidMet.reads h (n := "unicode/utf8.first") (d := Rows.laid_unicode_utf8_first) (by exact List.Mem.tail _ (List.Mem.tail _ (List.Mem.tail _ (List.Mem.tail _ (List.Mem.tail _ (List.Mem.tail _ (List.Mem.tail _ (List.Mem.tail _ (List.Mem.tail _ (List.Mem.tail _ (List.Mem.tail _ (List.Mem.tail _ (List.Mem.head _))))))))))))))
  rw [u8f] at r7
  have r8 := (Go.Lib.laidMet.reads h (n := "unicode/utf8.acceptRanges") (d := Rows.laid_unicode_utf8_acceptRanges) (by exact List.Mem.tail _ (List.Mem.tail _ (List.Mem.tail _ (List.Mem.tail _ (List.Mem.head _))))))
  rw [u8a] at r8
  have ht : Go.Lib.TabIs Tryz.prog W "internal/strconv.uint64pow10" .u64 Go.Lib.pow10Tab := by
    obtain ⟨g, t, cs, fuel, p, hg, hty, hvar, hd⟩ := r2
    obtain rfl : g = 2 := Option.some.inj (hg.symm.trans (by kernel_rfl))
    obtain rfl : t = 96 := Option.some.inj (hty.symm.trans (by kernel_rfl))
    have hcs := Go.Lib.cells_of_tab (n := 20) Tryz.underlying96 Tryz.underlying32 (by kernel_rfl) (by kernel_rfl) hd
    unfold Go.Lib.TabIs
    rw [hvar, ← hcs]
  exact ⟨⟨a.1, a.2, b.1, b.2, ht⟩, printTabs_of_reads Tryz.lays339 printExtra r3 r4 r5 r6, utf8Tabs_of_readsT (U8Types.of260 Tryz.lays260) u8Extra r7 r8⟩

/-- The listed variables laid. -/
theorem door_met (os : Os) (args : Array Value) : laidMetH Tryz.prog laid5 ((World.laidAll Tryz.prog os laid5).forCall (fun _ _ => 0) ⟨#[], args, []⟩).memory := by
  rw [MakeChecks.laidMetH_plain _ _ _ (by kernel_rfl)]; exact laidMet_laidAll _ (by kernel_rfl) (by kernel_rfl)
end Go.Proofs.YtejfmghjmhiodaaGreatDoor.VzRow
namespace Go.Proofs.YtejfmghjmhiodaaGreatDoor.Vz
open Go.RowKit Go.Proofs.YtejfmghjmhiodaaGreatDoorW.PrintWords
set_option linter.unusedVariables false
set_option linter.unusedSimpArgs false
attribute [local go_sem] store_float
open Go
variable {H : Type} {enc : TypeId × Value → H}
theorem trod_float {P : Program} {w : World} {base : Nat} {spare : Nat → Bool} {held : Bool} {fuel : Nat} {t : TypeId} {cs : List Value} {x : DataW H × List MemPlace} {k : FloatKind} (ht : P.underlying t = some (.float k)) (h : DataW.trod enc P w base spare held fuel t cs = some x) : ∃ n, cs = [.float k n] ∧ x = (.lit (.float k n), []) ∧ (Lit.float k n).wf = true := by
  cases fuel with
  | zero => simp [DataW.trod] at h
  | succ n =>
    unfold DataW.trod at h
    rw [ht] at h
    split at h <;> simp_all
theorem mem_weightsAll {P : Program} {e : TypeId} : ∀ {l : List (DataW H)} {d : DataW H} {n : Nat}, d ∈ l → n ∈ d.weights P e → n ∈ DataW.weightsAll P e l
  | [], _, _, h, _ => by cases h
  | d' :: r, d, n, h, hn => by
    rw [DataW.weightsAll, List.mem_append]
    rcases List.mem_cons.1 h with rfl | h
    · exact .inl hn
    · exact .inr (mem_weightsAll h hn)
theorem cells25 : Tryz.prog.cellsOf 25 = 5 := by kernel_rfl
theorem bytes25 : Tryz.prog.bytesOf 25 = 64 := by kernel_rfl
theorem cs3 : Tryz.prog.cellsOf 3 = 1 := by kernel_rfl
theorem cs2 : Tryz.prog.cellsOf 2 = 1 := by kernel_rfl
theorem cs28 : Tryz.prog.cellsOf 22 = 1 := by kernel_rfl
theorem cs9 : Tryz.prog.cellsOf 9 = 1 := by kernel_rfl
theorem cs29 : Tryz.prog.cellsOf 23 = 1 := by kernel_rfl
theorem take1 {n : Nat} (h : n = 1) {c v : Value} {l : List Value} (e : List.take n (c :: l) = [v]) : c = v := by subst h; simpa using e
set_option maxRecDepth 100000 in
/-- A value that came in, opened. -/
theorem open_val (W : World) (base : Nat) (spare : Nat → Bool) (held : Bool) : ∀ (fuel : Nat) (cs : List Value) (x : DataW H × List MemPlace), DataW.trod enc Tryz.prog W base spare held fuel 25 cs = some x → (∀ n ∈ x.1.weights Tryz.prog 25, n ≤ reachBytes) → ∃ v, RV W (fun _ => True) v cs.toArray := by
  intro fuel
  induction fuel using Nat.strongRecOn with
  | _ fuel ih =>
    intro cs x hx hw
    obtain ⟨xs, n, hfu, rfl, hl, hxl, hf⟩ := DataW.trod_struct Tryz.underlying25 hx
    rw [cells25] at hl
    obtain ⟨c0, c1, c2, c3, c4, rfl⟩ : ∃ c0 c1 c2 c3 c4, cs = [c0, c1, c2, c3, c4] := by
      match cs, hl with
      | [c0, c1, c2, c3, c4], _ => exact ⟨c0, c1, c2, c3, c4, rfl⟩
    obtain ⟨y0, y1, y2, y3, y4, rfl⟩ : ∃ y0 y1 y2 y3 y4, xs = [y0, y1, y2, y3, y4] := by
      match xs, hxl with
      | [y0, y1, y2, y3, y4], _ => exact ⟨y0, y1, y2, y3, y4, rfl⟩
    have f0 := hf 0 _ rfl
    have f1 := hf 1 _ rfl
    have f2 := hf 2 _ rfl
    have f3 := hf 3 _ rfl
    have f4 := hf 4 _ rfl
    simp only [List.getElem?_cons_zero, List.getElem?_cons_succ] at f0 f1 f2 f3 f4
    obtain ⟨k, e0, _, wk⟩ := DataW.trod_int Tryz.underlying3 f0
    obtain ⟨i, e1, _, wi⟩ := DataW.trod_int Tryz.underlying2 f1
    obtain ⟨f, e2, _, wf⟩ := trod_float Tryz.underlying22 f2
    obtain ⟨s, e3, hy3, ws⟩ := DataW.trod_string Tryz.underlying9 f3
    obtain rfl : c0 = .int .i64 k := take1 cs3 e0
    obtain rfl : c1 = .int .i64 i := take1 cs2 e1
    obtain rfl : c2 = .float .f64 f := take1 cs28 e2
    obtain rfl : c3 = .string s := take1 cs9 e3
    subst hy3
    have hw' : ∀ n ∈ DataW.weightsEach Tryz.prog [3, 2, 22, 9, 23] [y0.1, y1.1, y2.1, .lit (.string s.data.toList), y4.1], n ≤ reachBytes := by
      intro n hn
      refine hw n ?_
      simp only [List.map_cons, List.map_nil]
      rw [DataW.weights, Tryz.underlying25]
      exact hn
    simp only [DataW.weightsEach, DataW.weights, List.append_nil] at hw'
    have hs : s.size ≤ 140737488351232 := by
      have := hw' s.data.toList.length (by simp)
      simpa [reachBytes] using this
    rcases DataW.trod_slice Tryz.underlying23 f4 with ⟨e4, _⟩ | ⟨a, len, cap, elems, rest, m, hm, e4, rfl, _, hle, hcap, hel, hget, _, _⟩
    · obtain rfl : c4 = .slice none 0 0 := take1 cs29 e4
      exact ⟨_, RV.flat wk wi wf hs⟩
    · obtain rfl : c4 = .slice (some a) len cap := take1 cs29 e4
      have hb : len * 64 ≤ 140737488351232 := by
        have := hw' ((elems.length + rest.length) * Tryz.prog.bytesOf 25) (by
          simp only [List.mem_append]
          refine .inr (.inr (.inr (.inr ?_)))
          rw [DataW.weights, Tryz.underlying23]
          simp)
        rw [bytes25, hel] at this
        have h2 : len * 64 ≤ (len + rest.length) * 64 := Nat.mul_le_mul_right _ (Nat.le_add_right _ _)
        exact Nat.le_trans h2 this
      have hch : ∀ j : Nat, ∃ p : Val × Array Value, j < len → (∀ q, q < 5 → W.cell? ((a.add (j * 5)).add q) = p.2[q]?) ∧ RV W (fun _ => True) p.1 p.2 := by
        intro j
        by_cases hj : j < len
        · have hg := hget j hj
          rw [cells25] at hg
          obtain ⟨e, he⟩ : ∃ e, elems[j]? = some e := ⟨elems[j]'(by omega), by simp [hel, hj]⟩
          rw [he] at hg
          obtain ⟨cs', hc1, hc2⟩ := Option.bind_eq_some_iff.1 hg
          obtain ⟨_, hlen, hcell⟩ := World.cells?_some hc1
          obtain ⟨v, hv⟩ := ih m (by omega) cs' e hc2 (fun n hn => hw' n (by
            simp only [List.mem_append]
            refine .inr (.inr (.inr (.inr ?_)))
            rw [DataW.weights, Tryz.underlying23]
            simp only [List.mem_cons, List.mem_append]
            refine .inr (.inl (mem_weightsAll (d := e.1) ?_ hn))
            exact List.mem_map_of_mem (List.mem_of_getElem? he)))
          exact ⟨(v, cs'.toArray), fun _ => ⟨fun q hq => by rw [hcell q hq]; simp, hv⟩⟩
        · exact ⟨(.mk 0 0 0 ⟨#[]⟩ [], #[]), fun h => absurd h hj⟩
      obtain ⟨F, hF⟩ := Classical.axiomOfChoice hch
      have hl' : ((List.range len).map fun j => (F j).1).length = len := by simp
      refine ⟨.mk k i f s ((List.range len).map fun j => (F j).1), ?_⟩
      by_cases hp : 0 < len
      · obtain ⟨b, off, spot⟩ := a
        have h0 := (hF 0 hp).1 0 (by decide)
        obtain ⟨_, _, _, _, _, _, _, e⟩ := (hF 0 hp).2.form
        rw [e] at h0
        have hspot : spot = none := by simpa [Addr.add] using World.cell?_spot h0
        subst hspot
        have := RV.mk (W := W) (ok := fun _ => True) k i f s ((List.range len).map fun j => (F j).1) (some ⟨b, off, none⟩) cap b off (fun j => (F j).2) wk wi wf hs (by rw [hl']; exact hle) (by rw [hl']; exact hb) (fun _ => ⟨rfl, trivial⟩) (fun j hj q hq => ?_) (fun j hj => ?_)
        · rw [hl'] at this; exact this
        · rw [hl'] at hj
          rw [← (hF j hj).1 q hq, Go.WideShapes.add_plain, Go.WideShapes.add_plain]
        · have hj' : j < len := by rw [hl'] at hj; exact hj
          simpa using (hF j hj').2
      · have e : len = 0 := by omega
        subst e
        exact RV.flat wk wi wf hs
theorem mem_weightsEach {P : Program} {n : Nat} {t : TypeId} {d : DataW H} (hn : n ∈ d.weights P t) : ∀ (j : Nat) (ts : List TypeId) (ds : List (DataW H)), ts[j]? = some t → ds[j]? = some d → n ∈ DataW.weightsEach P ts ds
  | 0, t' :: ts, d' :: ds, ht, hd => by
    simp only [List.getElem?_cons_zero, Option.some.injEq] at ht hd
    subst ht hd
    rw [DataW.weightsEach, List.mem_append]
    exact .inl hn
  | j + 1, t' :: ts, d' :: ds, ht, hd => by
    simp only [List.getElem?_cons_succ] at ht hd
    rw [DataW.weightsEach, List.mem_append]
    exact .inr (mem_weightsEach hn j ts ds ht hd)
  | _, [], _, ht, _ => by simp at ht
  | _, _ :: _, [], _, hd => by simp at hd
end Go.Proofs.YtejfmghjmhiodaaGreatDoor.Vz
namespace Go.Proofs.YtejfmghjmhiodaaGreatDoor.Vz
open Go.RowKit Go.Proofs.YtejfmghjmhiodaaGreatDoorW.PrintWords
set_option linter.unusedVariables false
set_option linter.unusedSimpArgs false
open Go
variable {H : Type} {enc : TypeId × Value → H}
set_option maxRecDepth 100000 in
/-- A slice of values that came in, opened. -/
theorem open_vals (W : World) (base : Nat) (spare : Nat → Bool) (held : Bool) (fuel : Nat) (v : Value) (x : DataW H × List MemPlace) (f4 : DataW.trod enc Tryz.prog W base spare held fuel 23 [v] = some x) (hw' : ∀ n ∈ x.1.weights Tryz.prog 23, n ≤ reachBytes) :
    ∃ (l : List Val) (A : Option Addr) (c : Nat), v = .slice A l.length c ∧ RV W (fun _ => True) (.mk 4 0 0 ⟨#[]⟩ l) #[.int .i64 4, .int .i64 0, .float .f64 0, .string ⟨#[]⟩, .slice A l.length c] := by
  have wk : (Lit.int .i64 4).wf = true := by decide
  have wi : (Lit.int .i64 0).wf = true := by decide
  have wf : (Lit.float .f64 0).wf = true := by decide
  have hs : (⟨#[]⟩ : ByteArray).size ≤ 140737488351232 := by decide
  rcases DataW.trod_slice Tryz.underlying23 f4 with ⟨e4, _⟩ | ⟨a, len, cap, elems, rest, m, hm, e4, rfl, _, hle, hcap, hel, hget, _, _⟩
  · obtain rfl : v = .slice none 0 0 := by simpa using e4
    exact ⟨[], none, 0, rfl, RV.flat wk wi wf hs⟩
  · obtain rfl : v = .slice (some a) len cap := by simpa using e4
    have hb : len * 64 ≤ 140737488351232 := by
      have := hw' ((elems.length + rest.length) * Tryz.prog.bytesOf 25) (by
        rw [DataW.weights, Tryz.underlying23]
        simp)
      rw [bytes25, hel] at this
      have h2 : len * 64 ≤ (len + rest.length) * 64 := Nat.mul_le_mul_right _ (Nat.le_add_right _ _)
      exact Nat.le_trans h2 this
    have hch : ∀ j : Nat, ∃ p : Val × Array Value, j < len → (∀ q, q < 5 → W.cell? ((a.add (j * 5)).add q) = p.2[q]?) ∧ RV W (fun _ => True) p.1 p.2 := by
      intro j
      by_cases hj : j < len
      · have hg := hget j hj
        rw [cells25] at hg
        obtain ⟨e, he⟩ : ∃ e, elems[j]? = some e := ⟨elems[j]'(by omega), by simp [hel, hj]⟩
        rw [he] at hg
        obtain ⟨cs', hc1, hc2⟩ := Option.bind_eq_some_iff.1 hg
        obtain ⟨_, hlen, hcell⟩ := World.cells?_some hc1
        obtain ⟨v, hv⟩ := open_val W base _ _ m cs' e hc2 (fun n hn => hw' n (by
          rw [DataW.weights, Tryz.underlying23]
          simp only [List.mem_cons, List.mem_append]
          refine .inr (.inl (mem_weightsAll (d := e.1) ?_ hn))
          exact List.mem_map_of_mem (List.mem_of_getElem? he)))
        exact ⟨(v, cs'.toArray), fun _ => ⟨fun q hq => by rw [hcell q hq]; simp, hv⟩⟩
      · exact ⟨(.mk 0 0 0 ⟨#[]⟩ [], #[]), fun h => absurd h hj⟩
    obtain ⟨F, hF⟩ := Classical.axiomOfChoice hch
    have hl' : ((List.range len).map fun j => (F j).1).length = len := by simp
    refine ⟨(List.range len).map fun j => (F j).1, some a, cap, by rw [hl'], ?_⟩
    by_cases hp : 0 < len
    · obtain ⟨b, off, spot⟩ := a
      have h0 := (hF 0 hp).1 0 (by decide)
      obtain ⟨_, _, _, _, _, _, _, e⟩ := (hF 0 hp).2.form
      rw [e] at h0
      have hspot : spot = none := by simpa [Addr.add] using World.cell?_spot h0
      subst hspot
      refine RV.mk (W := W) (ok := fun _ => True) 4 0 0 ⟨#[]⟩ ((List.range len).map fun j => (F j).1) (some ⟨b, off, none⟩) cap b off (fun j => (F j).2) wk wi wf hs (by rw [hl']; exact hle) (by rw [hl']; exact hb) (fun _ => ⟨rfl, trivial⟩) (fun j hj q hq => ?_) (fun j hj => ?_)
      · rw [hl'] at hj
        rw [← (hF j hj).1 q hq, Go.WideShapes.add_plain, Go.WideShapes.add_plain]
      · have hj' : j < len := by rw [hl'] at hj; exact hj
        simpa using (hF j hj').2
    · have e : len = 0 := by omega
      subst e
      exact RV.flat wk wi wf hs
end Go.Proofs.YtejfmghjmhiodaaGreatDoor.Vz
namespace Go.Proofs.YtejfmghjmhiodaaGreatDoor.Vz
open Go.RowKit Go.Proofs.YtejfmghjmhiodaaGreatDoorW.PrintWords
set_option linter.unusedVariables false
set_option linter.unusedSimpArgs false
attribute [local go_sem] store_float

mutual
def order : Val → Val → Int
  | .mk k i f s l, .mk k2 i2 f2 s2 l2 => if cmpI (kindV k) (kindV k2) = 0 then (if kindV k = 1 then cmpI i i2 else if kindV k = 2 then floatsV f f2 else if kindV k = 3 then Lib.compareBytes s.data.toList s2.data.toList else if kindV k = 4 then orders l l2 else 0) else cmpI (kindV k) (kindV k2)
def orders : List Val → List Val → Int
  | [], [] => 0
  | [], _ :: _ => -1
  | _ :: _, [] => 1
  | x :: r, y :: t => if order x y = 0 then orders r t else order x y
end
theorem orders_nil (l : List Val) : orders [] l = if 0 < l.length then -1 else 0 := by cases l <;> rfl
theorem orders_end (l : List Val) (h : 0 < l.length) : orders l [] = 1 := by
  cases l with
  | nil => cases h
  | cons x r => rfl
theorem orders_cons (x y : Val) (r t : List Val) : orders (x :: r) (y :: t) = if order x y = 0 then orders r t else order x y := rfl
theorem drop_at (l : List Val) (j : Nat) (h : j < l.length) : l.drop j = l[j] :: l.drop (j + 1) := (List.getElem_cons_drop (h := h)).symm
theorem cell5_below {W w : World} {g o : Nat} {x0 x1 x2 x3 x4 : Value} (h : W.cell? ⟨g, o, none⟩ = some x0 ∧ W.cell? ⟨g, o + 1, none⟩ = some x1 ∧ W.cell? ⟨g, o + 2, none⟩ = some x2 ∧ W.cell? ⟨g, o + 3, none⟩ = some x3 ∧ W.cell? ⟨g, o + 4, none⟩ = some x4) (hb : Below W.heap.size W w) :
    w.cell? ⟨g, o, none⟩ = some x0 ∧ w.cell? ⟨g, o + 1, none⟩ = some x1 ∧ w.cell? ⟨g, o + 2, none⟩ = some x2 ∧ w.cell? ⟨g, o + 3, none⟩ = some x3 ∧ w.cell? ⟨g, o + 4, none⟩ = some x4 := by
  have hl := cell_in h.1
  exact ⟨(hb.cell (p := ⟨g, o, none⟩) hl).trans h.1, (hb.cell (p := ⟨g, o + 1, none⟩) hl).trans h.2.1, (hb.cell (p := ⟨g, o + 2, none⟩) hl).trans h.2.2.1, (hb.cell (p := ⟨g, o + 3, none⟩) hl).trans h.2.2.2.1, (hb.cell (p := ⟨g, o + 4, none⟩) hl).trans h.2.2.2.2⟩
/-- What Order tells. -/
def OrdC (v : Val) : Prop := ∀ (W : World) (ok : Nat → Prop) (cs : Array Value), RV W ok v cs → ∀ (v2 : Val) (ok2 : Nat → Prop) (cs2 : Array Value), RV W ok2 v2 cs2 → Calls Tryz.prog 11 #[.agg cs, .agg cs2] W fun e w' => e = .returned (.int .i64 (order v v2)) ∧ Below W.heap.size W w'
theorem enters11 (args : Array Value) (W : World) : (callFunc 11 args).run Tryz.prog W = .ok (.enter 11 args) W := by kernel_rfl

set_option maxHeartbeats 8000000 in
set_option maxRecDepth 100000 in
theorem compare35 (k i : Int) (f : Nat) (s : ByteArray) (l : List Val) (kb ib : Int) (fb : Nat) (sb : ByteArray) (l2 : List Val) (hE : ∀ (j : Nat) (hj : j < l.length), OrdC l[j]) (W : World) (ok ok2 : Nat → Prop) (x0 x1 x2 x3 y0 y1 y2 y3 : Value) (A A2 : Option Addr) (c c2 : Nat)
    (hR : RV W ok (.mk k i f s l) #[x0, x1, x2, x3, .slice A l.length c]) (hR2 : RV W ok2 (.mk kb ib fb sb l2) #[y0, y1, y2, y3, .slice A2 l2.length c2]) :
    Calls Tryz.prog 35 #[.slice A l.length c, .slice A2 l2.length c2, .func (.func 11) #[] #[]] W fun e w' => e = .returned (.int .i64 (orders l l2)) ∧ Below W.heap.size W w' := by
  obtain ⟨A0, c0, e0, wk, wi, wf, ws, wc, wb⟩ := hR.len
  obtain ⟨A02, c02, e02, wk2, wi2, wf2, ws2, wc2, wb2⟩ := hR2.len
  have HI := Aside0.mk hE
  have HR := Aside0.mk hR
  have HR2 := Aside0.mk hR2
  have HWB := Aside0.mk (show (l.length : Int) * 64 ≤ 140737488351232 ∧ (l2.length : Int) * 64 ≤ 140737488351232 by omega)
  have hnn : (0 : Int) ≤ (l.length : Int) := by omega
  have hnn2 : (0 : Int) ≤ (l2.length : Int) := by omega
  have hent := enters11
  clear hE hR hR2 wk wi wf ws wc wb e0 wk2 wi2 wf2 ws2 wc2 wb2 e02
  obtain ⟨n, hn⟩ : ∃ n, l.length = n := ⟨_, rfl⟩
  obtain ⟨m, hm⟩ : ∃ m, l2.length = m := ⟨_, rfl⟩
  have HNL := Aside0.mk hn
  have HML := Aside0.mk hm
  rw [hn] at HR HWB hnn ⊢
  rw [hm] at HR2 HWB hnn2 ⊢
  clear hn hm
  obtain ⟨O, hO⟩ : ∃ O, orders l l2 = O := ⟨_, rfl⟩
  rw [hO]
  have HO := Aside0.mk hO
  clear hO
  go_enter Tryz.func35, Tryz.ntmps35
  go_wp2
  go_loopw [13] (fun ix wr => ∃ j : Nat, j ≤ n ∧ j ≤ m ∧ ix = .int .i64 (j : Int) ∧ Aside0 (Below W.heap.size W wr) ∧ Aside0 (orders (l.drop j) (l2.drop j) = O)) (fun ix _ => n - (intOf ix).toNat)
  case atStart => exact ⟨0, by omega, by omega, rfl, Aside0.mk (Below.refl _ _), HO⟩
  case round =>
    obtain ⟨j, hj, hjm, rfl, HB', HOj⟩ := hrel
    by_cases hlt : j < n
    · have hji : (j : Int) < (n : Int) := by omega
      have hj0 : (0 : Int) ≤ (j : Int) := by omega
      have hjl : j < l.length := by rw [HNL.out]; exact hlt
      obtain ⟨g, off, k', i', f', s', A', n', c', rfl, hg1, hg2, hsub, p0, p1, p2, p3, p4⟩ := (HR.out.kept HB'.out).elem j hjl
      have hih := HI.out j hjl
      have hd := drop_at l j hjl
      obtain ⟨x, hx⟩ : ∃ x, l[j] = x := ⟨_, rfl⟩
      rw [hx] at hsub hih hd
      have HSub := Aside0.mk hsub
      have HIx := Aside0.mk hih
      have HD := Aside0.mk hd
      have hwk : IntKind.i64.wrap ((j : Int) + 1) = ((j + 1 : Nat) : Int) := by have := HWB.out; rw [IntKind.wrap_i64]; omega
      clear hsub hih hd hx hjl hg1 hg2
      by_cases hlm : j < m
      · have hjm' : (j : Int) < (m : Int) := by omega
        have hjl2 : j < l2.length := by rw [HML.out]; exact hlm
        obtain ⟨g2, off2, k2, i2, f2, s2, A2', n2', c2', rfl, _, _, hsub2, r0, r1, r2, r3, r4⟩ := (HR2.out.kept HB'.out).elem j hjl2
        have hd2 := drop_at l2 j hjl2
        obtain ⟨y, hy⟩ : ∃ y, l2[j] = y := ⟨_, rfl⟩
        rw [hy] at hsub2 hd2
        have HSub2 := Aside0.mk hsub2
        have HD2 := Aside0.mk hd2
        clear hsub2 hd2 hy hjl2
        obtain ⟨o, ho⟩ : ∃ o, order x y = o := ⟨_, rfl⟩
        have HOo := Aside0.mk ho
        clear ho
        go_upto_region 4 with (first
          | ((with_reducible refine gate_dst (N := 8) rfl ?_); refine box_event ?hg (N := 8) ?hd (cs := #[.int .i64 0, .int .i64 0, .float .f64 0, .string ⟨#[]⟩, .slice none 0 0]) (t := 25) ?hr ?_; (case hd => rfl); (case hg => rfl); (case hr => first | (go_simp; done) | (go_simp; rfl)); intro g8 hg w2 hbox hb; have H2 := Aside0.mk hb; have K8 := Aside0.mk hbox; have P := Aside0.mk (cell5_below ⟨p0, p1, p2, p3, p4⟩ hb); have R2 := Aside0.mk (cell5_below ⟨r0, r1, r2, r3, r4⟩ hb); have HG8 := Aside0.mk (show wr.heap.size ≤ g8 by omega); clear hg hbox hb)
          | ((with_reducible refine gate_store (t := 25) (p := 8) rfl ?_); refine put_eventU ?hg (t := 25) (p := 8) (v := .tmp 17) ?ho ?hN (g := g8) (u := .agg #[.int .i64 k', .int .i64 i', .float .f64 f', .string s', .slice A' n' c']) (cs := #[.int .i64 k', .int .i64 i', .float .f64 f', .string s', .slice A' n' c']) ?hp ?hv K8.out ?hs ?hi ?h1 ?hc ?_; (case hs => rfl); (case hi => kernel_rfl); (case h1 => simp [Value.oneCell']); (case hc => simp [Value.cells]); (case hg => rfl); (case ho => rfl); (case hN => rfl); (case hp => rfl); (case hv => rfl); intro w3 hk hs; have H3 := Aside0.mk (below_keep H2.out HG8.out hs); have K8 := Aside0.mk hk; have R3 := Aside0.mk (cell5_below ⟨r0, r1, r2, r3, r4⟩ H3.out); clear hk hs))
        clear p0 p1 p2 p3 p4 r0 r1 r2 r3 r4
        have r0 := R3.out.1
        have r1 := R3.out.2.1
        have r2 := R3.out.2.2.1
        have r3 := R3.out.2.2.2.1
        have r4 := R3.out.2.2.2.2
        go_upto_region 7 with (first
          | ((with_reducible refine gate_dst (N := 9) rfl ?_); refine box_event ?hg (N := 9) ?hd (cs := #[.int .i64 0, .int .i64 0, .float .f64 0, .string ⟨#[]⟩, .slice none 0 0]) (t := 25) ?hr ?_; (case hd => rfl); (case hg => rfl); (case hr => first | (go_simp; done) | (go_simp; rfl)); intro g9 hg w4 hbox hb; have HG9 := Aside0.mk (show wr.heap.size ≤ g9 ∧ g8 ≠ g9 by (have h1_ := H3.out.size; have h2_ := blk_lt K8.out; omega)); have R4 := Aside0.mk (cell5_below R3.out hb); have H4 := Aside0.mk (below_step H3.out hb); have K8 := Aside0.mk (blk_below K8.out hb); have K9 := Aside0.mk hbox; clear r0 r1 r2 r3 r4; have r0 := R4.out.1; have r1 := R4.out.2.1; have r2 := R4.out.2.2.1; have r3 := R4.out.2.2.2.1; have r4 := R4.out.2.2.2.2; clear hg hbox hb)
          | ((with_reducible refine gate_store (t := 25) (p := 9) rfl ?_); refine put_eventU ?hg (t := 25) (p := 9) (v := .tmp 25) ?ho ?hN (g := g9) (u := .agg #[.int .i64 k2, .int .i64 i2, .float .f64 f2, .string s2, .slice A2' n2' c2']) (cs := #[.int .i64 k2, .int .i64 i2, .float .f64 f2, .string s2, .slice A2' n2' c2']) ?hp ?hv K9.out ?hs ?hi ?h1 ?hc ?_; (case hs => rfl); (case hi => kernel_rfl); (case h1 => simp [Value.oneCell']); (case hc => simp [Value.cells]); (case hg => rfl); (case ho => rfl); (case hN => rfl); (case hp => rfl); (case hv => rfl); intro w5 hk hs; have H5 := Aside0.mk (below_keep H4.out HG9.out.1 hs); have K8 := Aside0.mk (hs.blk K8.out HG9.out.2); have K9 := Aside0.mk hk; clear hk hs))
        clear r0 r1 r2 r3 r4
        have a0 : w5.cell? ⟨g8, 0, none⟩ = some (.int .i64 k') := blk_cell K8.out 0
        have a1 : w5.cell? ⟨g8, 1, none⟩ = some (.int .i64 i') := blk_cell K8.out 1
        have a2 : w5.cell? ⟨g8, 2, none⟩ = some (.float .f64 f') := blk_cell K8.out 2
        have a3 : w5.cell? ⟨g8, 3, none⟩ = some (.string s') := blk_cell K8.out 3
        have a4 : w5.cell? ⟨g8, 4, none⟩ = some (.slice A' n' c') := blk_cell K8.out 4
        have b0 : w5.cell? ⟨g9, 0, none⟩ = some (.int .i64 k2) := blk_cell K9.out 0
        have b1 : w5.cell? ⟨g9, 1, none⟩ = some (.int .i64 i2) := blk_cell K9.out 1
        have b2 : w5.cell? ⟨g9, 2, none⟩ = some (.float .f64 f2) := blk_cell K9.out 2
        have b3 : w5.cell? ⟨g9, 3, none⟩ = some (.string s2) := blk_cell K9.out 3
        have b4 : w5.cell? ⟨g9, 4, none⟩ = some (.slice A2' n2' c2') := blk_cell K9.out 4
        have HS1 := Aside0.mk (HSub.out.kept H5.out)
        have HS2 := Aside0.mk (HSub2.out.kept H5.out)
        go_upto_region 8 with (first
          | (go_at_call 11; refine (HIx.out _ _ _ HS1.out _ _ _ HS2.out).mono ?_; rw [HOo.out]; rintro e w6 ⟨rfl, hb⟩; have H6 := Aside0.mk (below_step HB'.out (below_step H5.out hb)); clear hb))
        clear a0 a1 a2 a3 a4 b0 b1 b2 b3 b4
        have HOj2 := Aside0.mk HOj.out
        rw [HD.out, HD2.out, orders_cons, HOo.out] at HOj2
        by_cases ho : o = 0
        · subst ho
          have HN := Aside0.mk (show orders (l.drop (j + 1)) (l2.drop (j + 1)) = O by have := HOj2.out; rwa [if_pos rfl] at this)
          go_wp2
          go_roundw
          case rel => exact ⟨j + 1, by omega, by omega, by go_num, H6, HN⟩
          case measure => simp [intOf]; omega
        · have ho1 : (o != 0) = true := bne_iff_ne.2 ho
          have HN := Aside0.mk (show o = O by have := HOj2.out; rwa [if_neg ho] at this)
          clear ho
          go_wp2
          go_ret
          exact ⟨by rw [← HN.out]; rfl, H6.out⟩
      · have hmj : (m : Int) ≤ (j : Int) := by omega
        have HOj2 := Aside0.mk HOj.out
        rw [HD.out, show l2.drop j = [] from List.drop_eq_nil_of_le (by rw [HML.out]; omega), orders_end _ (by simp)] at HOj2
        go_wp2_with (first
          | ((with_reducible refine gate_dst (N := 8) rfl ?_); refine box_event ?hg (N := 8) ?hd (cs := #[.int .i64 0, .int .i64 0, .float .f64 0, .string ⟨#[]⟩, .slice none 0 0]) (t := 25) ?hr ?_; (case hd => rfl); (case hg => rfl); (case hr => first | (go_simp; done) | (go_simp; rfl)); intro g8 hg w2 hbox hb; have H2 := Aside0.mk hb; have K8 := Aside0.mk hbox; have P := Aside0.mk (cell5_below ⟨p0, p1, p2, p3, p4⟩ hb); have HG8 := Aside0.mk (show wr.heap.size ≤ g8 by omega); clear hg hbox hb)
          | ((with_reducible refine gate_store (t := 25) (p := 8) rfl ?_); refine put_eventU ?hg (t := 25) (p := 8) (v := .tmp 17) ?ho ?hN (g := g8) (u := .agg #[.int .i64 k', .int .i64 i', .float .f64 f', .string s', .slice A' n' c']) (cs := #[.int .i64 k', .int .i64 i', .float .f64 f', .string s', .slice A' n' c']) ?hp ?hv K8.out ?hs ?hi ?h1 ?hc ?_; (case hs => rfl); (case hi => kernel_rfl); (case h1 => simp [Value.oneCell']); (case hc => simp [Value.cells]); (case hg => rfl); (case ho => rfl); (case hN => rfl); (case hp => rfl); (case hv => rfl); intro w3 hk hs; have H3 := Aside0.mk (below_keep H2.out HG8.out hs); clear hk hs))
        go_ret
        exact ⟨by rw [← HOj2.out]; rfl, below_step HB'.out H3.out⟩
    · obtain rfl : j = n := by omega
      have HOj2 := Aside0.mk HOj.out
      rw [show l.drop j = [] from List.drop_eq_nil_of_le (by rw [HNL.out]; omega), orders_nil, List.length_drop, HML.out] at HOj2
      by_cases hjm2 : j < m
      · have hji : (j : Int) < (m : Int) := by omega
        have HN := Aside0.mk (show (-1 : Int) = O by have := HOj2.out; rwa [if_pos (by omega)] at this)
        go_wp2
        go_ret
        exact ⟨by rw [← HN.out]; rfl, HB'.out⟩
      · have hji : ¬ (j : Int) < (m : Int) := by omega
        have HN := Aside0.mk (show (0 : Int) = O by have := HOj2.out; rwa [if_neg (by omega)] at this)
        go_wp2
        go_ret
        exact ⟨by rw [← HN.out]; rfl, HB'.out⟩
end Go.Proofs.YtejfmghjmhiodaaGreatDoor.Vz
namespace Go.Proofs.YtejfmghjmhiodaaGreatDoor.Vz
open Go.RowKit Go.Proofs.YtejfmghjmhiodaaGreatDoorW.PrintWords
set_option linter.unusedVariables false
set_option linter.unusedSimpArgs false
attribute [local go_sem] store_float

/-- A comparator that tells a line. -/
structure Lin {α : Type} (c : α → α → Int) : Prop where
  anti : ∀ x y, c x y = - c y x
  t : ∀ x y z, c x y ≤ 0 → c y z ≤ 0 → c x z ≤ 0 ∧ (c x z = 0 → c x y = 0 ∧ c y z = 0)
  e : ∀ x y z, c x y = 0 → c y z = 0 → c x z = 0
def lex {α : Type} (c d : α → α → Int) (x y : α) : Int := if c x y = 0 then d x y else c x y
theorem lin_cmpI : Lin cmpI where
  anti x y := by unfold cmpI; split <;> split <;> omega
  t x y z := by unfold cmpI; split <;> split <;> split <;> (try split) <;> (try split) <;> (try split) <;> omega
  e x y z := by unfold cmpI; split <;> split <;> split <;> (try split) <;> (try split) <;> (try split) <;> omega
theorem Lin.comap {α β : Type} {c : β → β → Int} (h : Lin c) (f : α → β) : Lin (fun x y => c (f x) (f y)) := ⟨fun x y => h.anti _ _, fun x y z => h.t _ _ _, fun x y z => h.e _ _ _⟩
theorem Lin.lex {α : Type} {c d : α → α → Int} (hc : Lin c) (hd : Lin d) : Lin (lex c d) where
  anti x y := by
    unfold Vz.lex
    have h1 := hc.anti x y
    have h2 := hd.anti x y
    split <;> split <;> omega
  t x y z := by
    unfold Vz.lex
    have h1 := hc.t x y z
    have h2 := hd.t x y z
    have h3 := hc.e x y z
    have h4 := hd.e x y z
    split <;> split <;> split <;> intro ha hb <;> (try have h1' := h1 (by omega) (by omega)) <;> (try have h2' := h2 (by omega) (by omega)) <;> omega
  e x y z := by
    unfold Vz.lex
    have h3 := hc.e x y z
    have h4 := hd.e x y z
    split <;> split <;> split <;> intro ha hb <;> omega
theorem Lin.refl {α : Type} {c : α → α → Int} (h : Lin c) (x : α) : c x x = 0 := by have := h.anti x x; omega
end Go.Proofs.YtejfmghjmhiodaaGreatDoor.Vz
namespace Go.Proofs.YtejfmghjmhiodaaGreatDoor.Vz
open Go.RowKit Go.Proofs.YtejfmghjmhiodaaGreatDoorW.PrintWords
set_option linter.unusedVariables false
set_option linter.unusedSimpArgs false
attribute [local go_sem] store_float

structure LinAt {α : Type} (c : α → α → Int) (x : α) : Prop where
  anti : ∀ y, c x y = - c y x
  t : ∀ y z, c x y ≤ 0 → c y z ≤ 0 → c x z ≤ 0 ∧ (c x z = 0 → c x y = 0 ∧ c y z = 0)
  e : ∀ y z, c x y = 0 → c y z = 0 → c x z = 0
theorem Lin.at {α : Type} {c : α → α → Int} (h : Lin c) (x : α) : LinAt c x := ⟨h.anti x, h.t x, h.e x⟩
theorem lin_of_at {α : Type} {c : α → α → Int} (h : ∀ x, LinAt c x) : Lin c := ⟨fun x => (h x).anti, fun x => (h x).t, fun x => (h x).e⟩
def listc {α : Type} (c : α → α → Int) : List α → List α → Int
  | [], [] => 0
  | [], _ :: _ => -1
  | _ :: _, [] => 1
  | x :: r, y :: t => if c x y = 0 then listc c r t else c x y
theorem linAt_list {α : Type} {c : α → α → Int} (l : List α) (h : ∀ x ∈ l, LinAt c x) : LinAt (listc c) l := by
  induction l with
  | nil =>
    refine ⟨fun y => ?_, fun y z => ?_, fun y z => ?_⟩
    · cases y <;> simp [listc]
    · cases y <;> cases z <;> simp [listc]
    · cases y <;> cases z <;> simp [listc]
  | cons x r ih =>
    have hx := h x (by simp)
    have hr := ih (fun y hy => h y (by simp [hy]))
    refine ⟨fun y => ?_, fun y z => ?_, fun y z => ?_⟩
    · cases y with
      | nil => simp [listc]
      | cons y t =>
        have h1 := hx.anti y
        have h2 := hr.anti t
        simp only [listc]
        split <;> split <;> omega
    · cases y with
      | nil => simp [listc]
      | cons y t =>
        cases z with
        | nil => simp [listc]
        | cons z u =>
          have h1 := hx.t y z
          have h2 := hr.t t u
          have h3 := hx.e y z
          simp only [listc]
          split <;> split <;> split <;> intro ha hb <;> (try have h1' := h1 (by omega) (by omega)) <;> (try have h2' := h2 (by omega) (by omega)) <;> omega
    · cases y with
      | nil => simp [listc]
      | cons y t =>
        cases z with
        | nil => simp [listc]
        | cons z u =>
          have h3 := hx.e y z
          have h4 := hr.e t u
          simp only [listc]
          split <;> split <;> split <;> intro ha hb <;> omega
theorem LinAt.lex {α : Type} {c d : α → α → Int} {x : α} (hc : Lin c) (ha : ∀ y, c x y = 0 → d x y = - d y x) (ht : ∀ y z, c x y = 0 → c y z = 0 → d x y ≤ 0 → d y z ≤ 0 → d x z ≤ 0 ∧ (d x z = 0 → d x y = 0 ∧ d y z = 0))
    (he : ∀ y z, c x y = 0 → c y z = 0 → d x y = 0 → d y z = 0 → d x z = 0) : LinAt (lex c d) x where
  anti y := by
    unfold Vz.lex
    have h1 := hc.anti x y
    have h2 := ha y
    split <;> split <;> omega
  t y z := by
    unfold Vz.lex
    have h1 := hc.t x y z
    have h2 := ht y z
    have h3 := hc.e x y z
    split <;> split <;> split <;> intro ha' hb <;> (try have h1' := h1 (by omega) (by omega)) <;> (try have h2' := h2 (by omega) (by omega) (by omega) (by omega)) <;> omega
  e y z := by
    unfold Vz.lex
    have h3 := hc.e x y z
    have h4 := he y z
    split <;> split <;> split <;> intro ha' hb <;> omega
theorem bytes_list (a b : List UInt8) : Lib.compareBytes a b = listc (fun x y : UInt8 => cmpI x.toNat y.toNat) a b := by
  induction a generalizing b with
  | nil => cases b <;> rfl
  | cons x r ih =>
    cases b with
    | nil => rfl
    | cons y t =>
      show (if x < y then -1 else if y < x then 1 else Lib.compareBytes r t) = if cmpI x.toNat y.toNat = 0 then listc (fun x y : UInt8 => cmpI x.toNat y.toNat) r t else cmpI x.toNat y.toNat
      rw [ih]
      by_cases h1 : x.toNat < y.toNat
      · have e : cmpI (x.toNat : Int) (y.toNat : Int) = -1 := by unfold cmpI; rw [if_pos (by omega)]
        rw [if_pos (UInt8.lt_iff_toNat_lt.2 h1), e, if_neg (by decide)]
      · by_cases h2 : y.toNat < x.toNat
        · have e : cmpI (x.toNat : Int) (y.toNat : Int) = 1 := by unfold cmpI; rw [if_neg (by omega), if_pos (by omega)]
          rw [if_neg (fun h => h1 (UInt8.lt_iff_toNat_lt.1 h)), if_pos (UInt8.lt_iff_toNat_lt.2 h2), e, if_neg (by decide)]
        · have e : cmpI (x.toNat : Int) (y.toNat : Int) = 0 := by unfold cmpI; rw [if_neg (by omega), if_neg (by omega)]
          rw [if_neg (fun h => h1 (UInt8.lt_iff_toNat_lt.1 h)), if_neg (fun h => h2 (UInt8.lt_iff_toNat_lt.1 h)), e, if_pos rfl]
theorem lin_bytes : Lin Lib.compareBytes := by
  have h : Lin (listc (fun x y : UInt8 => cmpI x.toNat y.toNat)) := lin_of_at fun l => linAt_list l fun x _ => (lin_cmpI.comap (fun x : UInt8 => (x.toNat : Int))).at x
  rw [show Lib.compareBytes = listc (fun x y : UInt8 => cmpI x.toNat y.toNat) from funext fun a => funext fun b => bytes_list a b]
  exact h
theorem orders_list (a b : List Val) : orders a b = listc order a b := by
  induction a generalizing b with
  | nil => cases b <;> rfl
  | cons x r ih =>
    cases b with
    | nil => rfl
    | cons y t => rw [orders_cons, listc, ih]
def knd : Val → Int
  | .mk k _ _ _ _ => kindV k
def sub : Val → Val → Int
  | .mk k i f s l, .mk _ i2 f2 s2 l2 => if kindV k = 1 then cmpI i i2 else if kindV k = 2 then floatsV f f2 else if kindV k = 3 then Lib.compareBytes s.data.toList s2.data.toList else if kindV k = 4 then orders l l2 else 0
theorem order_lex (a b : Val) : order a b = lex (fun x y => cmpI (knd x) (knd y)) sub a b := by
  cases a; cases b; rfl
theorem cmpI_eq {a b : Int} (h : cmpI a b = 0) : a = b := by unfold cmpI at h; split at h <;> (try split at h) <;> omega
/-- Order tells a line, where floats do. -/
theorem linAt_order (hF : Lin floatsV) (v : Val) : LinAt order v := by
  rw [show order = lex (fun x y => cmpI (knd x) (knd y)) sub from funext fun a => funext fun b => order_lex a b]
  induction v using Val.ind with
  | h k i f s l ih =>
    have hL : LinAt (listc order) l := linAt_list l fun x hx => by
      obtain ⟨j, hj, rfl⟩ := List.getElem_of_mem hx
      rw [show order = lex (fun x y => cmpI (knd x) (knd y)) sub from funext fun a => funext fun b => order_lex a b]
      exact ih j hj
    refine LinAt.lex (lin_cmpI.comap knd) (fun y hy => ?_) (fun y z hy hz => ?_) (fun y z hy hz => ?_)
    · cases y with
      | mk k2 i2 f2 s2 l2 =>
        have e : kindV k = kindV k2 := cmpI_eq hy
        simp only [sub, e]
        split
        · exact lin_cmpI.anti _ _
        · split
          · exact hF.anti _ _
          · split
            · exact lin_bytes.anti _ _
            · split
              · rw [orders_list, orders_list]; exact hL.anti _
              · rfl
    · cases y with
      | mk k2 i2 f2 s2 l2 =>
        cases z with
        | mk k3 i3 f3 s3 l3 =>
          have e : kindV k = kindV k2 := cmpI_eq hy
          simp only [sub, e]
          split
          · exact lin_cmpI.t _ _ _
          · split
            · exact hF.t _ _ _
            · split
              · exact lin_bytes.t _ _ _
              · split
                · rw [orders_list, orders_list, orders_list]; exact hL.t _ _
                · intro _ _; exact ⟨Int.le_refl _, fun _ => ⟨rfl, rfl⟩⟩
    · cases y with
      | mk k2 i2 f2 s2 l2 =>
        cases z with
        | mk k3 i3 f3 s3 l3 =>
          have e : kindV k = kindV k2 := cmpI_eq hy
          simp only [sub, e]
          split
          · exact lin_cmpI.e _ _ _
          · split
            · exact hF.e _ _ _
            · split
              · exact lin_bytes.e _ _ _
              · split
                · rw [orders_list, orders_list, orders_list]; exact hL.e _ _
                · intro _ _; rfl
end Go.Proofs.YtejfmghjmhiodaaGreatDoor.Vz
namespace Go.Proofs.YtejfmghjmhiodaaGreatDoor.Vz
open Go.RowKit Go.Proofs.YtejfmghjmhiodaaGreatDoorW.PrintWords
set_option linter.unusedVariables false
set_option linter.unusedSimpArgs false
attribute [local go_sem] store_float
open Ieee
def LP : Int := FloatKind.f64.format.leastPlace
def dkey : Datum → Int × Int
  | .number s m i => (0, signed s m (i - LP).toNat)
  | .infinity s => (if s then -1 else 1, 0)
  | .nan _ _ => (0, 0)
def cmpO (p q : Int × Int) : Ordering := if p.1 < q.1 then .lt else if q.1 < p.1 then .gt else if p.2 < q.2 then .lt else if q.2 < p.2 then .gt else .eq
theorem signed_add (s : Bool) (m u k : Nat) : signed s m (u + k) = signed s m u * 2 ^ k := by
  unfold signed
  have e : ((m <<< (u + k) : Nat) : Int) = (m <<< u : Nat) * 2 ^ k := by
    rw [Nat.shiftLeft_add, Nat.shiftLeft_eq (m <<< u) k]; push_cast; rfl
  cases s <;> simp only [Bool.false_eq_true, if_true, if_false, e]
  rw [Int.neg_mul]
theorem compare_cmpO (a b : Int) : compare a b = cmpO (0, a) (0, b) := by
  unfold cmpO
  simp only [Int.lt_irrefl, if_false]
  rw [show compare a b = compareOfLessAndEq a b from rfl]
  unfold compareOfLessAndEq
  split
  · rfl
  · split
    · rw [if_neg (by omega)]
    · rw [if_pos (by omega)]
theorem cmpO_scale (a b : Int) (k : Nat) : cmpO (0, a * 2 ^ k) (0, b * 2 ^ k) = cmpO (0, a) (0, b) := by
  have hk : (0 : Int) < 2 ^ k := Int.pow_pos (by decide)
  unfold cmpO
  simp only [Int.lt_irrefl, if_false]
  have h1 : a * 2 ^ k < b * 2 ^ k ↔ a < b := Int.mul_lt_mul_right hk
  have h2 : b * 2 ^ k < a * 2 ^ k ↔ b < a := Int.mul_lt_mul_right hk
  simp only [h1, h2]
def isN : Datum → Bool
  | .nan _ _ => true
  | _ => false
def high : Datum → Prop
  | .number _ _ i => LP ≤ i
  | _ => True
theorem order_key (d e : Datum) (hd : isN d = false) (he : isN e = false) (pd : high d) (pe : high e) : d.order e = some (cmpO (dkey d) (dkey e)) := by
  cases d with
  | nan => cases hd
  | infinity s =>
    cases e with
    | nan => cases he
    | infinity t => cases s <;> cases t <;> decide
    | number t n j => cases s <;> rfl
  | number s m i =>
    cases e with
    | nan => cases he
    | infinity t => cases t <;> rfl
    | number t n j =>
      have pd' : LP ≤ i := pd
      have pe' : LP ≤ j := pe
      show some (compare (signed s m (i - min i j).toNat) (signed t n (j - min i j).toNat)) = _
      rw [compare_cmpO]
      obtain ⟨k, hk⟩ : ∃ k : Nat, min i j - LP = k := ⟨(min i j - LP).toNat, by omega⟩
      rw [show dkey (.number s m i) = (0, signed s m (i - min i j).toNat * 2 ^ k) by
        show (0, signed s m (i - LP).toNat) = _
        rw [show (i - LP).toNat = (i - min i j).toNat + k by omega, signed_add]]
      rw [show dkey (.number t n j) = (0, signed t n (j - min i j).toNat * 2 ^ k) by
        show (0, signed t n (j - LP).toNat) = _
        rw [show (j - LP).toNat = (j - min i j).toNat + k by omega, signed_add]]
      rw [cmpO_scale]
theorem read_high (f : Nat) : high (FloatKind.f64.format.read f) := by
  unfold Format.read
  simp only
  split
  · exact Int.le_refl _
  · split
    · show LP ≤ LP + _
      omega
    · split <;> trivial
theorem ord_read (a b : Nat) : FloatKind.f64.format.order a b = (FloatKind.f64.format.read a).order (FloatKind.f64.format.read b) := rfl
theorem order_nan_l (d e : Datum) (h : isN d = true) : d.order e = none := by cases d <;> first | (cases h; done) | (cases e <;> rfl)
theorem order_nan_r (d e : Datum) (h : isN e = true) : d.order e = none := by cases e <;> first | (cases h; done) | (cases d <;> rfl)
theorem cmpO_refl (p : Int × Int) : cmpO p p = .eq := by unfold cmpO; simp
theorem isNan_read (f : Nat) : isNan f = isN (FloatKind.f64.format.read f) := by
  unfold isNan
  rw [ord_read]
  cases h : isN (FloatKind.f64.format.read f)
  · rw [order_key _ _ h h (read_high f) (read_high f), cmpO_refl]; rfl
  · rw [order_nan_l _ _ h]; rfl
def rk (f : Nat) : Int × Int := dkey (FloatKind.f64.format.read f)
theorem ord_rk {a b : Nat} (ha : isNan a = false) (hb : isNan b = false) : FloatKind.f64.format.order a b = some (cmpO (rk a) (rk b)) := by
  rw [isNan_read] at ha hb
  exact order_key _ _ ha hb (read_high a) (read_high b)
theorem rk0 : rk 0 = (0, 0) := by decide +kernel
theorem nan0 : isNan 0 = false := by rw [isNan_read]; decide +kernel
theorem cmpO_eq (p q : Int × Int) : (cmpO p q = .eq) ↔ p = q := by
  unfold cmpO
  constructor
  · intro h
    split at h
    · cases h
    · split at h
      · cases h
      · split at h
        · cases h
        · split at h
          · cases h
          · exact Prod.ext (by omega) (by omega)
  · rintro rfl; simp
theorem feq0 {a : Nat} (ha : isNan a = false) : feq a 0 = decide (rk a = (0, 0)) := by
  unfold feq
  rw [ord_rk ha nan0, rk0]
  rw [Bool.eq_iff_iff]
  simp [cmpO_eq]
def KF (f : Nat) : Int × Int × Int × Int := if isNan f then (0, 0, 0, 0) else (1, (rk f).1, (rk f).2, if rk f = (0, 0) then signV f else 0)
def c4 (x y : Int × Int × Int × Int) : Int := lex (fun x y : Int × Int × Int × Int => cmpI x.1 y.1) (lex (fun x y => cmpI x.2.1 y.2.1) (lex (fun x y => cmpI x.2.2.1 y.2.2.1) (fun x y => cmpI x.2.2.2 y.2.2.2))) x y
theorem lin_c4 : Lin c4 := Lin.lex (lin_cmpI.comap _) (Lin.lex (lin_cmpI.comap _) (Lin.lex (lin_cmpI.comap _) (lin_cmpI.comap _)))
theorem cmpI_self (a : Int) : cmpI a a = 0 := by unfold cmpI; simp
theorem cmpF_key {a b : Nat} (ha : isNan a = false) (hb : isNan b = false) (hz : ¬ (rk a = rk b ∧ rk a = (0, 0))) : cmpF a b = if cmpI (rk a).1 (rk b).1 = 0 then (if cmpI (rk a).2 (rk b).2 = 0 then cmpI (if rk a = (0, 0) then signV a else 0) (if rk b = (0, 0) then signV b else 0) else cmpI (rk a).2 (rk b).2) else cmpI (rk a).1 (rk b).1 := by
  have e : cmpF a b = if cmpO (rk a) (rk b) = .lt then -1 else if cmpO (rk a) (rk b) = .gt then 1 else 0 := by
    unfold cmpF flt fgt
    rw [ord_rk ha hb, ha, hb]
    cases cmpO (rk a) (rk b) <;> rfl
  rw [e]
  by_cases h : rk a = rk b
  · rw [h, cmpO_refl, cmpI_self, cmpI_self, if_pos rfl, if_pos rfl]
    have hb0 : ¬ rk b = (0, 0) := fun h2 => hz ⟨h, h.trans h2⟩
    rw [if_neg hb0, if_neg hb0]
    rfl
  · unfold cmpO
    by_cases h1 : (rk a).1 < (rk b).1
    · rw [if_pos h1, show cmpI (rk a).1 (rk b).1 = -1 by unfold cmpI; rw [if_pos h1]]; rfl
    · by_cases h2 : (rk b).1 < (rk a).1
      · rw [if_neg h1, if_pos h2, show cmpI (rk a).1 (rk b).1 = 1 by unfold cmpI; rw [if_neg h1, if_pos h2]]; rfl
      · rw [if_neg h1, if_neg h2, show cmpI (rk a).1 (rk b).1 = 0 by unfold cmpI; rw [if_neg h1, if_neg h2]]
        by_cases h3 : (rk a).2 < (rk b).2
        · rw [if_pos h3, show cmpI (rk a).2 (rk b).2 = -1 by unfold cmpI; rw [if_pos h3]]; rfl
        · by_cases h4 : (rk b).2 < (rk a).2
          · rw [if_neg h3, if_pos h4, show cmpI (rk a).2 (rk b).2 = 1 by unfold cmpI; rw [if_neg h3, if_pos h4]]; rfl
          · exact absurd (Prod.ext (by omega) (by omega)) h
theorem feq_nan {a : Nat} (ha : isNan a = true) (b : Nat) : feq a b = false := by
  rw [isNan_read] at ha
  unfold feq
  rw [ord_read, order_nan_l _ _ ha]; rfl
theorem floats_key (a b : Nat) : floatsV a b = c4 (KF a) (KF b) := by
  unfold c4 lex KF
  cases ha : isNan a
  · cases hb : isNan b
    · simp only [Bool.false_eq_true, if_false, cmpI_self, if_true]
      unfold floatsV
      rw [feq0 ha, feq0 hb]
      by_cases h1 : rk a = (0, 0)
      · by_cases h2 : rk b = (0, 0)
        · rw [h1, h2]; simp [cmpI_self]
        · rw [decide_eq_false h2, Bool.and_false, if_neg (by decide)]
          exact cmpF_key ha hb (fun e => h2 (e.1.symm.trans e.2))
      · rw [decide_eq_false h1, Bool.false_and, if_neg (by decide)]
        exact cmpF_key ha hb (fun e => h1 e.2)
    · have e : floatsV a b = 1 := by
        unfold floatsV cmpF
        rw [feq_nan hb, Bool.and_false, if_neg (by decide), ha, hb]; rfl
      rw [e]; rfl
  · cases hb : isNan b
    · have e : floatsV a b = -1 := by
        unfold floatsV cmpF
        rw [feq_nan ha, Bool.false_and, if_neg (by decide), ha, hb]; rfl
      rw [e]; rfl
    · have e : floatsV a b = 0 := by
        unfold floatsV cmpF
        rw [feq_nan ha, Bool.false_and, if_neg (by decide), ha, hb]; rfl
      rw [e]; rfl
/-- Floats stand in a line. -/
theorem lin_floats : Lin floatsV := by
  rw [show floatsV = fun a b => c4 (KF a) (KF b) from funext fun a => funext fun b => floats_key a b]
  exact lin_c4.comap KF
theorem lin_order : Lin order := lin_of_at fun v => linAt_order lin_floats v
end Go.Proofs.YtejfmghjmhiodaaGreatDoor.Vz
namespace Go.Proofs.YtejfmghjmhiodaaGreatDoor.Vz
open Go.RowKit Go.Proofs.YtejfmghjmhiodaaGreatDoorW.PrintWords
set_option linter.unusedVariables false
set_option linter.unusedSimpArgs false
attribute [local go_sem] store_float

theorem order_refl (x : Val) : order x x = 0 := by have := lin_order.anti x x; omega
theorem orders_take : ∀ (l : List Val) (k : Nat), k ≤ l.length → orders (l.take k) l = if k < l.length then -1 else 0
  | [], k, h => by simp at h; subst h; rfl
  | x :: r, 0, _ => by simp [orders]
  | x :: r, k + 1, h => by
    have ih := orders_take r k (by simpa using h)
    rw [List.take_succ_cons, orders_cons, order_refl, if_pos rfl, ih]
    simp
theorem orders_take2 : ∀ (l : List Val) (k : Nat), k ≤ l.length → orders l (l.take k) = if k < l.length then 1 else 0
  | [], k, h => by simp at h; subst h; rfl
  | x :: r, 0, _ => by simp [orders]
  | x :: r, k + 1, h => by
    have ih := orders_take2 r k (by simpa using h)
    rw [List.take_succ_cons, orders_cons, order_refl, if_pos rfl, ih]
    simp
theorem orders_self (l : List Val) : orders l l = 0 := by
  have := orders_take l l.length (Nat.le_refl _)
  rw [List.take_length] at this
  rw [this, if_neg (by omega)]
theorem orders_set : ∀ (l : List Val) (k : Nat) (v : Val) (h : k < l.length), orders l (l.set k v) = order l[k] v
  | [], k, v, h => by simp at h
  | x :: r, 0, v, h => by
    simp only [List.set_cons_zero, orders_cons, orders_self, List.getElem_cons_zero]
    split
    · rename_i h0; exact h0.symm
    · rfl
  | x :: r, k + 1, v, h => by
    have ih := orders_set r k v (by simpa using h)
    rw [List.set_cons_succ, orders_cons, order_refl, if_pos rfl, ih]
    rfl
/-- The law's facts of the order, over lists. -/
theorem order_lists (l m : List Val) : order (.mk 4 0 0 ⟨#[]⟩ l) (.mk 4 0 0 ⟨#[]⟩ m) = orders l m := by
  unfold order
  simp [kindV, cmpI]

/-- A list's beginning. -/
theorem RV.take {W : World} {ok : Nat → Prop} {k i : Int} {f : Nat} {s : ByteArray} {l : List Val} {x0 x1 x2 x3 : Value} {A : Option Addr} {n c : Nat} (h : RV W ok (.mk k i f s l) #[x0, x1, x2, x3, .slice A n c]) (j : Nat) (hj : j ≤ l.length) :
    RV W ok (.mk 4 0 0 ⟨#[]⟩ (l.take j)) #[.int .i64 4, .int .i64 0, .float .f64 0, .string ⟨#[]⟩, .slice A j c] := by
  cases h with
  | mk k i f s l A c g off cs hk hi hf hs hc hb hA hcell hsub =>
    have hl : (l.take j).length = j := by simp; omega
    have hx := RV.mk (W := W) (ok := ok) 4 0 0 ⟨#[]⟩ (l.take j) A c g off cs (by decide) (by decide) (by decide) (by decide) (by omega) (by omega) (fun hp => hA (by omega)) (fun i hi q hq => hcell i (by omega) q hq) (fun i hi => by
      have := hsub i (by omega)
      rw [List.getElem_take]
      exact this)
    rw [hl] at hx
    exact hx
/-- A list, its header put anew. -/
theorem RV.asList {W : World} {ok : Nat → Prop} {k i : Int} {f : Nat} {s : ByteArray} {l : List Val} {x0 x1 x2 x3 : Value} {A : Option Addr} {n c : Nat} (h : RV W ok (.mk k i f s l) #[x0, x1, x2, x3, .slice A n c]) (hn : n = l.length) :
    RV W ok (.mk 4 0 0 ⟨#[]⟩ l) #[.int .i64 4, .int .i64 0, .float .f64 0, .string ⟨#[]⟩, .slice A n c] := by
  have := h.take l.length (Nat.le_refl _)
  rw [List.take_length] at this
  rw [hn]
  exact this
theorem RV.one {W : World} {ok : Nat → Prop} {v : Val} {cs : Array Value} (h : RV W ok v cs) : ∀ u ∈ cs.toList, u.oneCell' = true := by
  obtain ⟨k, i, f, s, A, n, c, rfl⟩ := h.form
  simp [Value.oneCell']
theorem rows_len {l : List (Array Value)} (h : ∀ c ∈ l, c.size = 5) : (rows l).length = l.length * 5 := by
  induction l with
  | nil => rfl
  | cons x r ih =>
    rw [rows, List.length_append, ih (fun c hc => h c (by simp [hc])), Array.length_toList, h x (by simp)]
    simp; omega
theorem rows_mem {l : List (Array Value)} {u : Value} (h : u ∈ rows l) : ∃ c ∈ l, u ∈ c.toList := by
  induction l with
  | nil => cases h
  | cons x r ih =>
    rw [rows, List.mem_append] at h
    rcases h with h | h
    · exact ⟨x, by simp, h⟩
    · obtain ⟨c, hc, hu⟩ := ih h
      exact ⟨c, by simp [hc], hu⟩
/-- The cells of a list that is not empty, in a row. -/
theorem RV.row {W : World} {ok : Nat → Prop} {k i : Int} {f : Nat} {s : ByteArray} {l : List Val} {x0 x1 x2 x3 : Value} {A : Option Addr} {n c : Nat} (h : RV W ok (.mk k i f s l) #[x0, x1, x2, x3, .slice A n c]) (hp : 0 < l.length) :
    ∃ (g off : Nat) (css : List (Array Value)), A = some ⟨g, off, none⟩ ∧ css.length = l.length ∧ (rows css).length = l.length * 5 ∧ (∀ u ∈ rows css, u.oneCell' = true) ∧ (∀ j u, (rows css)[j]? = some u → W.cell? ⟨g, off + j, none⟩ = some u) ∧ (∀ (j : Nat) (h1 : j < css.length) (h2 : j < l.length), RV W ok l[j] css[j]) := by
  cases h with
  | mk k i f s l A c g off cs hk hi hf hs hc hb hA hcell hsub =>
    have h5 : ∀ c ∈ (List.range l.length).map cs, c.size = 5 := fun c hc => by
      obtain ⟨j, hj, rfl⟩ := List.mem_map.1 hc
      exact (hsub j (by simpa using hj)).size
    have hlen := rows_len h5
    rw [List.length_map, List.length_range] at hlen
    refine ⟨g, off, (List.range l.length).map cs, (hA hp).1, by simp, hlen, fun u hu => ?_, fun j u hj => ?_, fun j h1 h2 => ?_⟩
    · obtain ⟨c, hc, hu⟩ := rows_mem hu
      obtain ⟨j, hj, rfl⟩ := List.mem_map.1 hc
      exact (hsub j (by simpa using hj)).one u hu
    · have hjl : j < l.length * 5 := by
        have := (List.getElem?_eq_some_iff.1 hj).1
        omega
      have e : j = j / 5 * 5 + j % 5 := by omega
      have hq : j % 5 < 5 := by omega
      have hd : j / 5 < l.length := by omega
      have hr := rows_get h5 (j / 5) (by simpa using hd) (j % 5) hq
      rw [← e, hj] at hr
      have hcl := hcell (j / 5) hd (j % 5) hq
      rw [show off + j / 5 * 5 + j % 5 = off + j by omega] at hcl
      rw [hcl, hr]
      simp
    · simp only [List.getElem_map, List.getElem_range]
      exact hsub j h2
/-- A row of values, told as a list. -/
theorem RV.ofRow {w1 : World} {base : Nat} {ok : Nat → Prop} {l : List Val} {v : Value} {css : List (Array Value)} (hn : css.length = l.length) (ho : w1.ownsRow base 25 5 v l.length (rows css)) (he : ∀ (j : Nat) (h1 : j < css.length) (h2 : j < l.length), RV w1 ok l[j] css[j]) (hok : ∀ g, base ≤ g → g < w1.heap.size → ok g) (hb : l.length * 64 ≤ 140737488351232) :
    ∃ A c, v = .slice A l.length c ∧ RV w1 ok (.mk 4 0 0 ⟨#[]⟩ l) #[.int .i64 4, .int .i64 0, .float .f64 0, .string ⟨#[]⟩, .slice A l.length c] := by
  rcases ho.2 with ⟨hv, h0⟩ | ⟨g, cap, cur, hv, hg, hh, hc, _, hcs, htk⟩
  · refine ⟨none, 0, by rw [hv, h0], ?_⟩
    obtain rfl : l = [] := List.length_eq_zero_iff.1 h0
    exact RV.flat (by decide) (by decide) (by decide) (by decide)
  · refine ⟨_, cap, hv, ?_⟩
    refine RV.mk 4 0 0 ⟨#[]⟩ l (some ⟨g, 0, none⟩) cap g 0 (fun j => css.getD j #[]) (by decide) (by decide) (by decide) (by decide) hc hb (fun _ => ⟨rfl, hok g hg (blk_lt hh)⟩) (fun j hj q hq => ?_) (fun j hj => ?_)
    · have hj' : j < css.length := by omega
      rw [show 0 + j * 5 + q = j * 5 + q by omega]
      rw [hv] at ho
      rw [World.ownsRow.cellAt ho _ (by omega), rows_get (fun c hc => ?_) j hj' q hq]
      · simp [List.getD_eq_getElem?_getD, hj']
      · obtain ⟨i, hi', rfl⟩ := List.getElem_of_mem hc
        exact (he i hi' (by omega)).size
    · have hj' : j < css.length := by omega
      have e1 : css.getD j #[] = css[j] := by simp [List.getD_eq_getElem?_getD, hj']
      rw [e1]
      exact he j hj' hj
theorem cells_at {W : World} {g off : Nat} {cur cs : Array Value} {e : TypeId} (hb : W.heap[g]? = some (.cells cur e (0, 0))) (hs : off + cs.size ≤ cur.size) :
    ∃ cur', (W.setCells g off cs.toList).heap[g]? = some (.cells cur' e (0, 0)) ∧ cur'.size = cur.size ∧ (∀ q, q < cs.size → cur'[off + q]? = cs[q]?) ∧ (∀ x, x < off ∨ off + cs.size ≤ x → cur'[x]? = cur[x]?) ∧ Save (fun k => k = g) W (W.setCells g off cs.toList) := by
  obtain ⟨cur', h1, h2, h3⟩ := setCells_row cs.toList off W cur hb (by simpa using hs)
  obtain ⟨s1, s2, s3, s4⟩ := setCells_same g cs.toList off W
  refine ⟨cur', h1, h2, fun q hq => ?_, fun x hx => ?_, s1, s2, s3, by rw [s4]; exact Nat.le_refl _, fun k _ hk => setCells_far _ _ k hk⟩
  · rw [← Array.getElem?_toList, h3, List.append_assoc, List.getElem?_append_right (by simp; omega), List.getElem?_append_left (by simp; omega)]
    simp
    congr 1
    omega
  · rw [← Array.getElem?_toList, h3]
    rcases hx with hx | hx
    · rw [List.append_assoc, List.getElem?_append_left (by simp; omega), List.getElem?_take_of_lt hx]
      simp
    · rw [List.getElem?_append_right (by simp; omega), List.getElem?_drop]
      simp
      congr 1
      omega
section
variable {P : Program} {ops : Array Oper} {rest : List Oper} {o : Oper} {a : Act} {Q : Exit → Act → World → Prop}
theorem put_at {W : World} (hgd : o.guard = none) {t : TypeId} {p : Tmp} {v : Operand} (ho : o.op = .store t (.tmp p) v) (hN : o.dst = none) {g off : Nat} {u : Value} {cur cs : Array Value} {e : TypeId}
    (hp : a.eval (.tmp p) = .pointer (some ⟨g, off, none⟩)) (hv : a.eval v = u) (hb : W.heap[g]? = some (.cells cur e (0, 0))) (hs : off + cs.size ≤ cur.size) (hi : (P.info? t).map (·.size) = some cs.size) (h1 : ∀ q ∈ cs.toList, q.oneCell' = true) (hc : u.cells = cs)
    (h : ∀ w1 cur', w1.heap[g]? = some (.cells cur' e (0, 0)) → cur'.size = cur.size → (∀ q, q < cs.size → cur'[off + q]? = cs[q]?) → (∀ x, x < off ∨ off + cs.size ≤ x → cur'[x]? = cur[x]?) → Save (fun k => k = g) W w1 → wpList P ops Q rest a w1) : wpList P ops Q (o :: rest) a W := by
  have hr := run_store_run (P := P) (o := off) t u cs.toList hb (by rw [hc]) (by rw [hi]; simp) (by simpa using hs) h1
  refine wpList_plain hgd fun K hK => ?_
  have hx : (execOp a.eval o).run P W = .ok .skip (W.setCells g off cs.toList) := by
    simp [execOp, ho, hp, hv, hr]
  unfold Oper.wp
  rw [hx]
  show K (a.put o.dst undef) _
  rw [hN]
  obtain ⟨cur', k1, k2, k3, k4, k5⟩ := cells_at hb hs
  exact hK _ _ (h _ cur' k1 k2 k3 k4 k5)
end
end Go.Proofs.YtejfmghjmhiodaaGreatDoor.Vz
namespace Go.Proofs.YtejfmghjmhiodaaGreatDoor.Vz
open Go.RowKit Go.Proofs.YtejfmghjmhiodaaGreatDoorW.PrintWords
set_option linter.unusedVariables false
set_option linter.unusedSimpArgs false

/-- A value whose lists lie in rows of its own, no list's row in a list within it. -/
inductive OV (W : World) : (Nat → Prop) → Val → Array Value → Prop
  | mk (ok : Nat → Prop) (k i : Int) (f : Nat) (s : ByteArray) (l : List Val) (A : Option Addr) (c : Nat) (css : List (Array Value))
      (hk : (Lit.int .i64 k).wf = true) (hi : (Lit.int .i64 i).wf = true) (hf : (Lit.float .f64 f).wf = true) (hs : s.size ≤ 140737488351232)
      (hb : l.length * 64 ≤ 140737488351232) (hn : css.length = l.length) (ho : W.ownsRow 0 25 5 (.slice A l.length c) l.length (rows css)) (hok : ∀ g, (Value.slice A l.length c).ownBlock = some g → ok g)
      (hsub : ∀ (j : Nat) (h1 : j < css.length) (h2 : j < l.length), OV W (fun g => ok g ∧ (Value.slice A l.length c).ownBlock ≠ some g) l[j] css[j]) :
      OV W ok (.mk k i f s l) #[.int .i64 k, .int .i64 i, .float .f64 f, .string s, .slice A l.length c]
theorem OV.form {W : World} {ok : Nat → Prop} {v : Val} {cs : Array Value} (h : OV W ok v cs) : ∃ (k i : Int) (f : Nat) (s : ByteArray) (A : Option Addr) (n c : Nat), cs = #[.int .i64 k, .int .i64 i, .float .f64 f, .string s, .slice A n c] := by
  cases h with
  | mk ok k i f s l A c css => exact ⟨k, i, f, s, A, _, c, rfl⟩
theorem OV.size {W : World} {ok : Nat → Prop} {v : Val} {cs : Array Value} (h : OV W ok v cs) : cs.size = 5 := by
  obtain ⟨_, _, _, _, _, _, _, rfl⟩ := h.form; rfl
theorem own_at {w w' : World} {base e size : Nat} {v : Value} {n : Nat} {xs : List Value} (h : w.ownsRow base e size v n xs) (hs : ∀ k, v.ownBlock = some k → k < w.heap.size → w'.heap[k]? = w.heap[k]?) : w'.ownsRow base e size v n xs := by
  obtain ⟨h1, h2⟩ := h
  refine ⟨h1, ?_⟩
  rcases h2 with h2 | ⟨g, cap, cur, hv, hg, hh, r⟩
  · exact .inl h2
  · exact .inr ⟨g, cap, cur, hv, hg, (hs g (by rw [hv]; rfl) (blk_lt hh)).trans hh, r⟩
theorem own_zero {w : World} {base e size : Nat} {v : Value} {n : Nat} {xs : List Value} (h : w.ownsRow base e size v n xs) : w.ownsRow 0 e size v n xs := by
  obtain ⟨h1, h2⟩ := h
  refine ⟨h1, ?_⟩
  rcases h2 with h2 | ⟨g, cap, cur, hv, hg, r⟩
  · exact .inl h2
  · exact .inr ⟨g, cap, cur, hv, Nat.zero_le _, r⟩
theorem OV.step {W W' : World} {ok : Nat → Prop} {v : Val} {cs : Array Value} (h : OV W ok v cs) : ∀ {ok' : Nat → Prop}, (∀ g, ok g → g < W.heap.size → W'.heap[g]? = W.heap[g]?) → (∀ g, ok g → g < W.heap.size → ok' g) → OV W' ok' v cs := by
  induction h with
  | mk ok k i f s l A c css hk hi hf hs hb hn ho hok hsub ih =>
    intro ok' hm hok'
    have hlt := fun g hg => (own_under ho g hg).2
    refine .mk ok' k i f s l A c css hk hi hf hs hb hn (own_at ho (fun g hg hl => hm g (hok g hg) hl)) (fun g hg => hok' g (hok g hg) (hlt g hg)) (fun j h1 h2 => ?_)
    exact ih j h1 h2 (fun g hg hl => hm g hg.1 hl) (fun g hg hl => ⟨hok' g hg.1 hl, hg.2⟩)
theorem OV.kept {W W' : World} {ok : Nat → Prop} {v : Val} {cs : Array Value} (h : OV W ok v cs) (hb : Below W.heap.size W W') : OV W' ok v cs := h.step (fun g _ hg => hb.block g hg) (fun _ h _ => h)
theorem OV.mono {W : World} {ok ok' : Nat → Prop} {v : Val} {cs : Array Value} (h : OV W ok v cs) (hok : ∀ g, ok g → g < W.heap.size → ok' g) : OV W ok' v cs := h.step (fun _ _ _ => rfl) hok
theorem OV.rv {W : World} {ok : Nat → Prop} {v : Val} {cs : Array Value} (h : OV W ok v cs) : RV W ok v cs := by
  induction h with
  | mk ok k i f s l A c css hk hi hf hs hb hn ho hok hsub ih =>
    have h5 : ∀ c ∈ css, c.size = 5 := fun c hc => by
      obtain ⟨i, hi', rfl⟩ := List.getElem_of_mem hc
      exact (hsub i hi' (by omega)).size
    rcases ho.2 with ⟨hv, h0⟩ | ⟨g, cap, cur, hv, hg, hh, hc, _, hcs, htk⟩
    · obtain rfl : l = [] := List.length_eq_zero_iff.1 h0
      exact RV.flat hk hi hf hs
    · simp only [Value.slice.injEq, true_and] at hv
      obtain ⟨rfl, rfl⟩ := hv
      refine RV.mk k i f s l (some ⟨g, 0, none⟩) c g 0 (fun j => css.getD j #[]) hk hi hf hs hc hb (fun _ => ⟨rfl, hok g rfl⟩) (fun j hj q hq => ?_) (fun j hj => ?_)
      · have hj' : j < css.length := by omega
        rw [show 0 + j * 5 + q = j * 5 + q by omega]
        rw [World.ownsRow.cellAt ho _ (by omega), rows_get h5 j hj' q hq]
        simp [List.getD_eq_getElem?_getD, hj']
      · have hj' : j < css.length := by omega
        have e1 : css.getD j #[] = css[j] := by simp [List.getD_eq_getElem?_getD, hj']
        rw [e1]
        exact (ih j hj' hj).mono (fun g hg _ => hg.1)
theorem OV.flat {W : World} {ok : Nat → Prop} {k i : Int} {f : Nat} {s : ByteArray} (hk : (Lit.int .i64 k).wf = true) (hi : (Lit.int .i64 i).wf = true) (hf : (Lit.float .f64 f).wf = true) (hs : s.size ≤ 140737488351232) : OV W ok (.mk k i f s []) #[.int .i64 k, .int .i64 i, .float .f64 f, .string s, .slice none 0 0] :=
  .mk ok k i f s [] none 0 [] hk hi hf hs (by decide) rfl ⟨rfl, .inl ⟨rfl, rfl⟩⟩ (fun g hg => by cases hg) (fun j h1 => absurd h1 (Nat.not_lt_zero j))
/-- The loop of Clean, at its head. -/
structure Co (B : Nat) (l : List Val) (j : Nat) (v : Value) (css : List (Array Value)) (wr : World) : Prop where
  b : B ≤ wr.heap.size
  n : css.length = j
  o : wr.ownsRow B 25 5 v j (rows css)
  e : ∀ (i : Nat) (h : i < css.length) (h' : i < l.length), OV wr (fun g => B ≤ g ∧ v.ownBlock ≠ some g) (clean l[i]) css[i]
theorem Co.kept {B : Nat} {l : List Val} {j : Nat} {v : Value} {css : List (Array Value)} {w w' : World} (h : Co B l j v css w) (hs : w.heap.size ≤ w'.heap.size) (hm : ∀ g, B ≤ g → g < w.heap.size → w'.heap[g]? = w.heap[g]?) : Co B l j v css w' :=
  ⟨Nat.le_trans h.b hs, h.n, own_at h.o (fun g hg hl => hm g (own_under h.o g hg).1 hl), fun i h1 h2 => (h.e i h1 h2).step (fun g hg hl => hm g hg.1 hl) (fun _ hg _ => hg)⟩
theorem Co.snoc {B : Nat} {w1 w2 : World} {l : List Val} {j : Nat} {v v2 : Value} {css : List (Array Value)} {x : Val} {cs : Array Value} (hj : j < l.length) (hx : l[j] = x) (h : Co B l j v css w1)
    (hc : OV w1 (fun g => B ≤ g ∧ v.ownBlock ≠ some g) (clean x) cs) (hown : w2.ownsRow B 25 5 v2 (j + 1) (rows css ++ cs.toList)) (hg : w1.grownBy w2 v.ownBlock) (hat : v2.ownBlock = v.ownBlock ∨ ∃ b, v2.ownBlock = some b ∧ w1.heap.size ≤ b) : Co B l (j + 1) v2 (css ++ [cs]) w2 := by
  have hn := h.n
  have hm : ∀ {y : Val} {c : Array Value}, OV w1 (fun g => B ≤ g ∧ v.ownBlock ≠ some g) y c → OV w2 (fun g => B ≤ g ∧ v2.ownBlock ≠ some g) y c := fun h =>
    h.step (fun g hok hlt => hg.block g hlt (fun e => hok.2 e.symm)) (fun g hok hlt => ⟨hok.1, by
      rcases hat with e | ⟨b, e, hbb⟩
      · rw [e]; exact hok.2
      · rw [e]; intro hh; injection hh with hh; omega⟩)
  refine ⟨Nat.le_trans h.b hg.size, by simp [hn], by rw [rows_snoc]; exact hown, fun i h1 h2 => ?_⟩
  by_cases hi : i < css.length
  · rw [List.getElem_append_left hi]; exact hm (h.e i hi h2)
  · have e : i = css.length := by simp at h1; omega
    subst e
    rw [List.getElem_append_right (Nat.le_refl _)]
    simp only [Nat.sub_self, List.getElem_cons_zero]
    have e2 : l[css.length] = x := by rw [← hx]; congr 1
    rw [e2]; exact hm hc
theorem Co.done {B : Nat} {w1 : World} {l : List Val} {v : Value} {css : List (Array Value)} (h : Co B l l.length v css w1) (hb : l.length * 64 ≤ 140737488351232) : ∃ A c, v = .slice A l.length c ∧ OV w1 (fun g => B ≤ g) (.mk 4 0 0 ⟨#[]⟩ (cleans l)) #[.int .i64 4, .int .i64 0, .float .f64 0, .string ⟨#[]⟩, .slice A l.length c] := by
  have hl : (cleans l).length = l.length := by rw [cleans_map]; simp
  obtain ⟨A, c, hv⟩ : ∃ A c, v = .slice A l.length c := by
    rcases h.o.2 with ⟨hv, h0⟩ | ⟨g, cap, cur, hv, _⟩
    · exact ⟨none, 0, by rw [hv, h0]⟩
    · exact ⟨_, cap, hv⟩
  subst hv
  refine ⟨A, c, rfl, ?_⟩
  have hx := OV.mk (W := w1) (fun g => B ≤ g) 4 0 0 ⟨#[]⟩ (cleans l) A c css (by decide) (by decide) (by decide) (by decide) (by rw [hl]; exact hb) (by rw [hl]; exact h.n) (by rw [hl]; exact own_zero h.o) (fun g hg => (own_under h.o g (by rw [hl] at hg; exact hg)).1) (fun j h1 h2 => ?_)
  · rw [hl] at hx; exact hx
  · have e2 : (cleans l)[j] = clean (l[j]'(by rw [← hl]; exact h2)) := by simp [cleans_map]
    rw [e2]
    exact (h.e j h1 (by rw [← hl]; exact h2)).mono (fun g hg _ => ⟨hg.1, by have := hg.2; cases A <;> exact this⟩)
/-- What the program's Clean tells. -/
def PCleanC (v : Val) : Prop := ∀ (W : World) (ok : Nat → Prop) (cs : Array Value), RV W ok v cs → Calls Tryz.prog 50 #[.agg cs] W fun e w' => ∃ cs', e = .returned (.agg cs') ∧ OV w' (fun g => W.heap.size ≤ g) (clean v) cs' ∧ Below W.heap.size W w'
end Go.Proofs.YtejfmghjmhiodaaGreatDoor.Vz
namespace Go.Proofs.YtejfmghjmhiodaaGreatDoor.Vz
open Go.RowKit Go.Proofs.YtejfmghjmhiodaaGreatDoorW.PrintWords Go.Proofs.YtejfmghjmhiodaaGreatDoorW.PrintLast
set_option linter.unusedVariables false
set_option linter.unusedSimpArgs false
attribute [local go_sem] store_float

section
variable {P : Program} {ops : Array Oper} {o : Oper} {a : Act} {Q : Exit → Act → World → Prop} {K : Act → World → Prop}
/-- A store of one cell. -/
theorem stepH_put1 {W : World} (hw : Region.wanted o (yielded ops a.tmps) = true) {t : TypeId} {p : Tmp} {v : Operand} (ho : o.op = .store t (.tmp p) v) (hN : o.dst = none) {g off : Nat} {u : Value} {cur : Array Value} {e : TypeId}
    (hp : a.eval (.tmp p) = .pointer (some ⟨g, off, none⟩)) (hv : a.eval v = u) (hb : W.heap[g]? = some (.cells cur e (0, 0))) (hs : off < cur.size) (hi : (P.info? t).map (·.size) = some 1) (h1 : u.oneCell' = true) (hc : u.cells = #[u])
    (h : ∀ w1, w1.heap[g]? = some (.cells (cur.setIfInBounds off u) e (0, 0)) → Save (fun k => k = g) W w1 → K a w1) :
    if Region.wanted o (yielded ops a.tmps) = true then Oper.wp P o a W K Q else K (a.put o.dst undef) W := by
  have hr := run_store_run (P := P) (o := off) t u [u] hb (by rw [hc]) (by rw [hi]; simp) (by simp; omega) (by simpa using h1)
  have hx : (execOp a.eval o).run P W = .ok .skip (W.setCell ⟨g, off, none⟩ u) := by
    simp [execOp, ho, hp, hv, hr, World.setCells]
  rw [if_pos hw]
  unfold Oper.wp
  rw [hx]
  show K (a.put o.dst undef) _
  rw [hN]
  exact h _ (blk_set hb off u) ⟨rfl, rfl, rfl, by simp [World.setCell], fun k _ hk => Below.heap_setCell _ _ _ _ hk⟩
end

theorem own_cell {w : World} {base e size : Nat} {v : Value} {n : Nat} {xs : List Value} (h : w.ownsRow base e size v n xs) : v.oneCell' = true ∧ v.cells = #[v] := by
  rcases h.2 with ⟨hv, _⟩ | ⟨g, cap, cur, hv, _⟩ <;> subst hv <;> exact ⟨rfl, rfl⟩

set_option maxHeartbeats 8000000 in
set_option maxRecDepth 100000 in
theorem canon68 (f : Nat) (W : World) : Calls Tryz.prog 68 #[.float .f64 f] W fun e w' => e = .returned (.float .f64 (canon f)) ∧ w' = W := by
  have hc := call41
  unfold canon isNan
  generalize nanC = N at hc ⊢
  by_cases h : (FloatKind.f64.format.order f f != some Ordering.eq) = true
  · rw [h]
    go_enter Tryz.func68, Tryz.ntmps68
    go_wp2
    go_ret
    exact ⟨rfl, rfl⟩
  · have h' : (FloatKind.f64.format.order f f != some Ordering.eq) = false := by simpa using h
    rw [h']
    clear h
    go_enter Tryz.func68, Tryz.ntmps68
    go_wp2
    go_ret
    exact ⟨rfl, rfl⟩

set_option maxHeartbeats 8000000 in
set_option maxRecDepth 100000 in
theorem pclean_1 (k i : Int) (f : Nat) (s : ByteArray) (A : Option Addr) (n c : Nat) (W : World) : Calls Tryz.prog 50 #[.agg #[.int .i64 1, .int .i64 i, .float .f64 f, .string s, .slice A n c]] W fun e w' => e = .returned (.agg #[.int .i64 1, .int .i64 i, .float .f64 0, .string ⟨#[]⟩, .slice none 0 0]) ∧ Below W.heap.size W w' := by
  go_enter Tryz.func50, Tryz.ntmps50
  go_wp2_with (first
    | ((with_reducible refine gate_dst (N := 1) rfl ?_); refine box_event ?hg (N := 1) ?hd (cs := #[.int .i64 1, .int .i64 i, .float .f64 f, .string s, .slice A n c]) (t := 25) ?hr ?_; (case hd => rfl); (case hg => rfl); (case hr => first | (go_simp; done) | (go_simp; rfl)); intro gb hg w1 hbox hb; have HB := Aside0.mk hb; have KB := Aside0.mk hbox; clear hg hbox hb)
    | ((with_reducible refine gate_dst (N := 2) rfl ?_); refine box_event ?hg (N := 2) ?hd (cs := #[.int .i64 0, .int .i64 0, .float .f64 0, .string ⟨#[]⟩, .slice none 0 0]) (t := 25) ?hr ?_; (case hd => rfl); (case hg => rfl); (case hr => first | (go_simp; done) | (go_simp; rfl)); intro gr hg w2 hbox hb; have HG := Aside0.mk (show W.heap.size ≤ gr from by (have := HB.out.size; omega)); have HB := Aside0.mk (below_step HB.out hb); have KB := Aside0.mk (blk_below KB.out hb); have K := Aside0.mk hbox; have b0 : w2.cell? ⟨gb, 0, none⟩ = some (.int .i64 1) := blk_cell KB.out 0; have b1 : w2.cell? ⟨gb, 1, none⟩ = some (.int .i64 i) := blk_cell KB.out 1; have b2 : w2.cell? ⟨gb, 2, none⟩ = some (.float .f64 f) := blk_cell KB.out 2; have b3 : w2.cell? ⟨gb, 3, none⟩ = some (.string s) := blk_cell KB.out 3; have b4 : w2.cell? ⟨gb, 4, none⟩ = some (.slice A n c) := blk_cell KB.out 4; clear hg hbox hb)
    | ((with_reducible refine gate_store (t := 25) (p := 2) rfl ?_); refine put_eventU ?hg (t := 25) (p := 2) (v := .tmp 12) ?ho ?hN (g := gr) (u := .agg #[.int .i64 1, .int .i64 i, .float .f64 0, .string ⟨#[]⟩, .slice none 0 0]) (cs := #[.int .i64 1, .int .i64 i, .float .f64 0, .string ⟨#[]⟩, .slice none 0 0]) ?hp ?hv K.out ?hs ?hi ?h1 ?hc ?_; (case hs => rfl); (case hi => kernel_rfl); (case h1 => simp [Value.oneCell']); (case hc => simp [Value.cells]); (case hg => rfl); (case ho => rfl); (case hN => rfl); (case hp => rfl); (case hv => rfl); intro w4 hk hs; have HB := Aside0.mk (below_keep HB.out HG.out hs); have K := Aside0.mk hk; clear hk hs))
  have q0 := blk_cell K.out 0
  have q1 := blk_cell K.out 1
  have q2 := blk_cell K.out 2
  have q3 := blk_cell K.out 3
  have q4 := blk_cell K.out 4
  simp at q0 q1 q2 q3 q4
  refine bodyPost_ret (v := .agg #[.int .i64 1, .int .i64 i, .float .f64 0, .string ⟨#[]⟩, .slice none 0 0]) ?_ rfl ⟨rfl, HB.out⟩
  simp [results, Tryz.results50, go_sem, q0, q1, q2, q3, q4]

set_option maxHeartbeats 8000000 in
set_option maxRecDepth 100000 in
theorem pclean_2 (k i : Int) (f : Nat) (s : ByteArray) (A : Option Addr) (n c : Nat) (W : World) : Calls Tryz.prog 50 #[.agg #[.int .i64 2, .int .i64 i, .float .f64 f, .string s, .slice A n c]] W fun e w' => e = .returned (.agg #[.int .i64 2, .int .i64 0, .float .f64 (canon f), .string ⟨#[]⟩, .slice none 0 0]) ∧ Below W.heap.size W w' := by
  go_enter Tryz.func50, Tryz.ntmps50
  go_wp2_with (first
    | ((with_reducible refine gate_dst (N := 1) rfl ?_); refine box_event ?hg (N := 1) ?hd (cs := #[.int .i64 2, .int .i64 i, .float .f64 f, .string s, .slice A n c]) (t := 25) ?hr ?_; (case hd => rfl); (case hg => rfl); (case hr => first | (go_simp; done) | (go_simp; rfl)); intro gb hg w1 hbox hb; have HB := Aside0.mk hb; have KB := Aside0.mk hbox; clear hg hbox hb)
    | ((with_reducible refine gate_dst (N := 2) rfl ?_); refine box_event ?hg (N := 2) ?hd (cs := #[.int .i64 0, .int .i64 0, .float .f64 0, .string ⟨#[]⟩, .slice none 0 0]) (t := 25) ?hr ?_; (case hd => rfl); (case hg => rfl); (case hr => first | (go_simp; done) | (go_simp; rfl)); intro gr hg w2 hbox hb; have HG := Aside0.mk (show W.heap.size ≤ gr from by (have := HB.out.size; omega)); have HB := Aside0.mk (below_step HB.out hb); have KB := Aside0.mk (blk_below KB.out hb); have K := Aside0.mk hbox; have b0 : w2.cell? ⟨gb, 0, none⟩ = some (.int .i64 2) := blk_cell KB.out 0; have b1 : w2.cell? ⟨gb, 1, none⟩ = some (.int .i64 i) := blk_cell KB.out 1; have b2 : w2.cell? ⟨gb, 2, none⟩ = some (.float .f64 f) := blk_cell KB.out 2; have b3 : w2.cell? ⟨gb, 3, none⟩ = some (.string s) := blk_cell KB.out 3; have b4 : w2.cell? ⟨gb, 4, none⟩ = some (.slice A n c) := blk_cell KB.out 4; clear hg hbox hb)
    | (go_at_call 68; refine (canon68 f _).mono ?_; rintro e w3 ⟨rfl, hw⟩; rw [hw]; clear hw w3)
    | ((with_reducible refine gate_store (t := 25) (p := 2) rfl ?_); refine put_eventU ?hg (t := 25) (p := 2) (v := .tmp 18) ?ho ?hN (g := gr) (u := .agg #[.int .i64 2, .int .i64 0, .float .f64 (canon f), .string ⟨#[]⟩, .slice none 0 0]) (cs := #[.int .i64 2, .int .i64 0, .float .f64 (canon f), .string ⟨#[]⟩, .slice none 0 0]) ?hp ?hv K.out ?hs ?hi ?h1 ?hc ?_; (case hs => rfl); (case hi => kernel_rfl); (case h1 => simp [Value.oneCell']); (case hc => simp [Value.cells]); (case hg => rfl); (case ho => rfl); (case hN => rfl); (case hp => rfl); (case hv => rfl); intro w4 hk hs; have HB := Aside0.mk (below_keep HB.out HG.out hs); have K := Aside0.mk hk; clear hk hs))
  have q0 := blk_cell K.out 0
  have q1 := blk_cell K.out 1
  have q2 := blk_cell K.out 2
  have q3 := blk_cell K.out 3
  have q4 := blk_cell K.out 4
  simp at q0 q1 q2 q3 q4
  refine bodyPost_ret (v := .agg #[.int .i64 2, .int .i64 0, .float .f64 (canon f), .string ⟨#[]⟩, .slice none 0 0]) ?_ rfl ⟨rfl, HB.out⟩
  simp [results, Tryz.results50, go_sem, q0, q1, q2, q3, q4]

set_option maxHeartbeats 8000000 in
set_option maxRecDepth 100000 in
theorem pclean_3 (k i : Int) (f : Nat) (s : ByteArray) (A : Option Addr) (n c : Nat) (W : World) : Calls Tryz.prog 50 #[.agg #[.int .i64 3, .int .i64 i, .float .f64 f, .string s, .slice A n c]] W fun e w' => e = .returned (.agg #[.int .i64 3, .int .i64 0, .float .f64 0, .string s, .slice none 0 0]) ∧ Below W.heap.size W w' := by
  go_enter Tryz.func50, Tryz.ntmps50
  go_wp2_with (first
    | ((with_reducible refine gate_dst (N := 1) rfl ?_); refine box_event ?hg (N := 1) ?hd (cs := #[.int .i64 3, .int .i64 i, .float .f64 f, .string s, .slice A n c]) (t := 25) ?hr ?_; (case hd => rfl); (case hg => rfl); (case hr => first | (go_simp; done) | (go_simp; rfl)); intro gb hg w1 hbox hb; have HB := Aside0.mk hb; have KB := Aside0.mk hbox; clear hg hbox hb)
    | ((with_reducible refine gate_dst (N := 2) rfl ?_); refine box_event ?hg (N := 2) ?hd (cs := #[.int .i64 0, .int .i64 0, .float .f64 0, .string ⟨#[]⟩, .slice none 0 0]) (t := 25) ?hr ?_; (case hd => rfl); (case hg => rfl); (case hr => first | (go_simp; done) | (go_simp; rfl)); intro gr hg w2 hbox hb; have HG := Aside0.mk (show W.heap.size ≤ gr from by (have := HB.out.size; omega)); have HB := Aside0.mk (below_step HB.out hb); have KB := Aside0.mk (blk_below KB.out hb); have K := Aside0.mk hbox; have b0 : w2.cell? ⟨gb, 0, none⟩ = some (.int .i64 3) := blk_cell KB.out 0; have b1 : w2.cell? ⟨gb, 1, none⟩ = some (.int .i64 i) := blk_cell KB.out 1; have b2 : w2.cell? ⟨gb, 2, none⟩ = some (.float .f64 f) := blk_cell KB.out 2; have b3 : w2.cell? ⟨gb, 3, none⟩ = some (.string s) := blk_cell KB.out 3; have b4 : w2.cell? ⟨gb, 4, none⟩ = some (.slice A n c) := blk_cell KB.out 4; clear hg hbox hb)
    | ((with_reducible refine gate_store (t := 25) (p := 2) rfl ?_); refine put_eventU ?hg (t := 25) (p := 2) (v := .tmp 23) ?ho ?hN (g := gr) (u := .agg #[.int .i64 3, .int .i64 0, .float .f64 0, .string s, .slice none 0 0]) (cs := #[.int .i64 3, .int .i64 0, .float .f64 0, .string s, .slice none 0 0]) ?hp ?hv K.out ?hs ?hi ?h1 ?hc ?_; (case hs => rfl); (case hi => kernel_rfl); (case h1 => simp [Value.oneCell']); (case hc => simp [Value.cells]); (case hg => rfl); (case ho => rfl); (case hN => rfl); (case hp => rfl); (case hv => rfl); intro w4 hk hs; have HB := Aside0.mk (below_keep HB.out HG.out hs); have K := Aside0.mk hk; clear hk hs))
  have q0 := blk_cell K.out 0
  have q1 := blk_cell K.out 1
  have q2 := blk_cell K.out 2
  have q3 := blk_cell K.out 3
  have q4 := blk_cell K.out 4
  simp at q0 q1 q2 q3 q4
  refine bodyPost_ret (v := .agg #[.int .i64 3, .int .i64 0, .float .f64 0, .string s, .slice none 0 0]) ?_ rfl ⟨rfl, HB.out⟩
  simp [results, Tryz.results50, go_sem, q0, q1, q2, q3, q4]

set_option maxHeartbeats 8000000 in
set_option maxRecDepth 100000 in
theorem pclean_0 (k i : Int) (f : Nat) (s : ByteArray) (A : Option Addr) (n c : Nat) (W : World) (h1 : (k == 1) = false) (h2 : (k == 2) = false) (h3 : (k == 3) = false) (h4 : (k == 4) = false) : Calls Tryz.prog 50 #[.agg #[.int .i64 k, .int .i64 i, .float .f64 f, .string s, .slice A n c]] W fun e w' => e = .returned (.agg #[.int .i64 0, .int .i64 0, .float .f64 0, .string ⟨#[]⟩, .slice none 0 0]) ∧ Below W.heap.size W w' := by
  go_enter Tryz.func50, Tryz.ntmps50
  go_wp2_with (first
    | ((with_reducible refine gate_dst (N := 1) rfl ?_); refine box_event ?hg (N := 1) ?hd (cs := #[.int .i64 k, .int .i64 i, .float .f64 f, .string s, .slice A n c]) (t := 25) ?hr ?_; (case hd => rfl); (case hg => rfl); (case hr => first | (go_simp; done) | (go_simp; rfl)); intro gb hg w1 hbox hb; have HB := Aside0.mk hb; have KB := Aside0.mk hbox; clear hg hbox hb)
    | ((with_reducible refine gate_dst (N := 2) rfl ?_); refine box_event ?hg (N := 2) ?hd (cs := #[.int .i64 0, .int .i64 0, .float .f64 0, .string ⟨#[]⟩, .slice none 0 0]) (t := 25) ?hr ?_; (case hd => rfl); (case hg => rfl); (case hr => first | (go_simp; done) | (go_simp; rfl)); intro gr hg w2 hbox hb; have HG := Aside0.mk (show W.heap.size ≤ gr from by (have := HB.out.size; omega)); have HB := Aside0.mk (below_step HB.out hb); have KB := Aside0.mk (blk_below KB.out hb); have K := Aside0.mk hbox; have b0 : w2.cell? ⟨gb, 0, none⟩ = some (.int .i64 k) := blk_cell KB.out 0; have b1 : w2.cell? ⟨gb, 1, none⟩ = some (.int .i64 i) := blk_cell KB.out 1; have b2 : w2.cell? ⟨gb, 2, none⟩ = some (.float .f64 f) := blk_cell KB.out 2; have b3 : w2.cell? ⟨gb, 3, none⟩ = some (.string s) := blk_cell KB.out 3; have b4 : w2.cell? ⟨gb, 4, none⟩ = some (.slice A n c) := blk_cell KB.out 4; clear hg hbox hb)
    | ((with_reducible refine gate_store (t := 25) (p := 2) rfl ?_); refine put_eventU ?hg (t := 25) (p := 2) (v := .tmp 43) ?ho ?hN (g := gr) (u := .agg #[.int .i64 0, .int .i64 0, .float .f64 0, .string ⟨#[]⟩, .slice none 0 0]) (cs := #[.int .i64 0, .int .i64 0, .float .f64 0, .string ⟨#[]⟩, .slice none 0 0]) ?hp ?hv K.out ?hs ?hi ?h1 ?hc ?_; (case hs => rfl); (case hi => kernel_rfl); (case h1 => simp [Value.oneCell']); (case hc => simp [Value.cells]); (case hg => rfl); (case ho => rfl); (case hN => rfl); (case hp => rfl); (case hv => rfl); intro w4 hk hs; have HB := Aside0.mk (below_keep HB.out HG.out hs); have K := Aside0.mk hk; clear hk hs))
  have q0 := blk_cell K.out 0
  have q1 := blk_cell K.out 1
  have q2 := blk_cell K.out 2
  have q3 := blk_cell K.out 3
  have q4 := blk_cell K.out 4
  simp at q0 q1 q2 q3 q4
  refine bodyPost_ret (v := .agg #[.int .i64 0, .int .i64 0, .float .f64 0, .string ⟨#[]⟩, .slice none 0 0]) ?_ rfl ⟨rfl, HB.out⟩
  simp [results, Tryz.results50, go_sem, q0, q1, q2, q3, q4]

set_option maxHeartbeats 8000000 in
set_option maxRecDepth 100000 in
theorem pclean_4 (i : Int) (f : Nat) (s : ByteArray) (l : List Val) (hE : ∀ (j : Nat) (hj : j < l.length), PCleanC l[j]) (W : World) (ok : Nat → Prop) (A : Option Addr) (n c : Nat) (hn : l.length = n) (hR : RV W ok (.mk 4 i f s l) #[.int .i64 4, .int .i64 i, .float .f64 f, .string s, .slice A n c]) :
    Calls Tryz.prog 50 #[.agg #[.int .i64 4, .int .i64 i, .float .f64 f, .string s, .slice A n c]] W fun e w' => ∃ cs', e = .returned (.agg cs') ∧ OV w' (fun g => W.heap.size ≤ g) (.mk 4 0 0 ⟨#[]⟩ (cleans l)) cs' ∧ Below W.heap.size W w' := by
  obtain ⟨A0, c0, e0, wk, wi, wf, ws, wc, wb⟩ := hR.len
  have HWB := Aside0.mk (show (n : Int) * 64 ≤ 140737488351232 ∧ n * 64 ≤ 140737488351232 by omega)
  have hnn : (0 : Int) ≤ (n : Int) := by omega
  have HR := Aside0.mk hR
  have HI := Aside0.mk hE
  have HNL := Aside0.mk hn
  clear hR hE hn e0 wk wi wf ws wc wb
  go_enter Tryz.func50, Tryz.ntmps50
  go_wp2_with (first
    | ((with_reducible refine gate_dst (N := 1) rfl ?_); refine box_event ?hg (N := 1) ?hd (cs := #[.int .i64 4, .int .i64 i, .float .f64 f, .string s, .slice A n c]) (t := 25) ?hr ?_; (case hd => rfl); (case hg => rfl); (case hr => first | (go_simp; done) | (go_simp; rfl)); intro gb hg w1 hbox hb; have HB := Aside0.mk hb; have KB := Aside0.mk hbox; clear hg hbox hb)
    | ((with_reducible refine gate_dst (N := 2) rfl ?_); refine box_event ?hg (N := 2) ?hd (cs := #[.int .i64 0, .int .i64 0, .float .f64 0, .string ⟨#[]⟩, .slice none 0 0]) (t := 25) ?hr ?_; (case hd => rfl); (case hg => rfl); (case hr => first | (go_simp; done) | (go_simp; rfl)); intro gr hg w2 hbox hb; have HG := Aside0.mk (show W.heap.size ≤ gr from by (have := HB.out.size; omega)); have HB := Aside0.mk (below_step HB.out hb); have KB := Aside0.mk (blk_below KB.out hb); have KR := Aside0.mk hbox; have b0 : w2.cell? ⟨gb, 0, none⟩ = some (.int .i64 4) := blk_cell KB.out 0; have b1 : w2.cell? ⟨gb, 1, none⟩ = some (.int .i64 i) := blk_cell KB.out 1; have b2 : w2.cell? ⟨gb, 2, none⟩ = some (.float .f64 f) := blk_cell KB.out 2; have b3 : w2.cell? ⟨gb, 3, none⟩ = some (.string s) := blk_cell KB.out 3; have b4 : w2.cell? ⟨gb, 4, none⟩ = some (.slice A n c) := blk_cell KB.out 4; clear hg hbox hb)
    | ((with_reducible refine gate_dst (N := 3) rfl ?_); refine box_event ?hg (N := 3) ?hd (cs := #[.int .i64 0, .int .i64 0, .float .f64 0, .string ⟨#[]⟩, .slice none 0 0]) (t := 25) ?hr ?_; (case hd => rfl); (case hg => rfl); (case hr => first | (go_simp; done) | (go_simp; rfl)); intro go hg w3 hbox hb; have HGo := Aside0.mk (show W.heap.size ≤ go ∧ gr ≠ go ∧ gb ≠ go by (have := HB.out.size; have h1_ := blk_lt KR.out; have h2_ := blk_lt KB.out; omega)); have HB := Aside0.mk (below_step HB.out hb); have KB := Aside0.mk (blk_below KB.out hb); have KR := Aside0.mk (blk_below KR.out hb); have KO := Aside0.mk hbox; clear b0 b1 b2 b3 b4; clear hg hbox hb)
    | ((with_reducible refine gate_store (t := 25) (p := 3) rfl ?_); refine put_eventU ?hg (t := 25) (p := 3) (v := .tmp 26) ?ho ?hN (g := go) (u := .agg #[.int .i64 4, .int .i64 0, .float .f64 0, .string ⟨#[]⟩, .slice none 0 0]) (cs := #[.int .i64 4, .int .i64 0, .float .f64 0, .string ⟨#[]⟩, .slice none 0 0]) ?hp ?hv KO.out ?hs ?hi ?h1 ?hc ?_; (case hs => rfl); (case hi => kernel_rfl); (case h1 => simp [Value.oneCell']); (case hc => simp [Value.cells]); (case hg => rfl); (case ho => rfl); (case hN => rfl); (case hp => rfl); (case hv => rfl); intro w4 hk hs; have HB := Aside0.mk (below_keep HB.out HGo.out.1 hs); have KB := Aside0.mk (hs.blk KB.out HGo.out.2.2); have KR := Aside0.mk (hs.blk KR.out HGo.out.2.1); have KO := Aside0.mk hk; have b4 : w4.cell? ⟨gb, 4, none⟩ = some (.slice A n c) := blk_cell KB.out 4; clear hk hs))
  clear b4
  have HGR := Aside0.mk (And.intro (blk_lt KR.out) (blk_lt KO.out))
  obtain ⟨B, hB⟩ : ∃ B, w4.heap.size = B := ⟨_, rfl⟩
  have HBB := Aside0.mk hB
  rw [hB] at HGR
  clear hB
  go_loopw [30] (fun ix wr => ∃ j : Nat, j ≤ n ∧ ix = .int .i64 (j : Int) ∧ Aside0 (∃ v css, Co B l j v css wr ∧ Below W.heap.size W wr ∧ wr.heap[go]? = some (.cells #[.int .i64 4, .int .i64 0, .float .f64 0, .string ⟨#[]⟩, v] 25 (0, 0)) ∧ wr.heap[gr]? = some (.cells #[.int .i64 0, .int .i64 0, .float .f64 0, .string ⟨#[]⟩, .slice none 0 0] 25 (0, 0)))) (fun ix _ => n - (intOf ix).toNat)
  case atStart => exact ⟨0, by omega, rfl, Aside0.mk ⟨.slice none 0 0, [], ⟨by rw [HBB.out]; exact Nat.le_refl _, rfl, ⟨rfl, .inl ⟨rfl, rfl⟩⟩, fun i h => absurd h (Nat.not_lt_zero i)⟩, HB.out, KO.out, KR.out⟩⟩
  case round =>
    obtain ⟨j, hj, rfl, HH⟩ := hrel
    obtain ⟨v, css, hco, hbw, hko, hkr⟩ := HH.out
    have HCO := Aside0.mk hco
    have HB' := Aside0.mk hbw
    have KO' := Aside0.mk hko
    have KR' := Aside0.mk hkr
    clear hco hbw hko hkr HH
    by_cases hlt : j < n
    · have hji : (j : Int) < (n : Int) := by omega
      have hj0 : (0 : Int) ≤ (j : Int) := by omega
      have hjl : j < l.length := by rw [HNL.out]; exact hlt
      obtain ⟨g, off, k', i', f', s', A', n', c', rfl, hg1, hg2, hsub, p0, p1, p2, p3, p4⟩ := (HR.out.kept HB'.out).elem j hjl
      have hih := HI.out j hjl
      obtain ⟨x, hx⟩ : ∃ x, l[j] = x := ⟨_, rfl⟩
      have HX := Aside0.mk (show ∃ h : j < l.length, l[j] = x from ⟨hjl, hx⟩)
      rw [hx] at hsub hih
      have HSub := Aside0.mk hsub
      have HIx := Aside0.mk (fun W' ok' cs' h' => hih W' ok' cs' h')
      have hwk : IntKind.i64.wrap ((j : Int) + 1) = ((j + 1 : Nat) : Int) := by have := HWB.out; rw [IntKind.wrap_i64]; omega
      clear hx hsub hih hjl hg1 hg2
      go_upto_region 13 with (first
        | ((with_reducible refine gate_dst (N := 5) rfl ?_); refine box_event ?hg (N := 5) ?hd (cs := #[.int .i64 0, .int .i64 0, .float .f64 0, .string ⟨#[]⟩, .slice none 0 0]) (t := 25) ?hr ?_; (case hd => rfl); (case hg => rfl); (case hr => first | (go_simp; done) | (go_simp; rfl)); intro g5 hg w5 hbox hb; have HG5 := Aside0.mk (show wr.heap.size ≤ g5 by omega); have H5 := Aside0.mk hb; have K5 := Aside0.mk hbox; clear hg hbox hb)
        | ((with_reducible refine gate_store (t := 25) (p := 5) rfl ?_); refine put_eventU ?hg (t := 25) (p := 5) (v := .tmp 33) ?ho ?hN (g := g5) (u := .agg #[.int .i64 k', .int .i64 i', .float .f64 f', .string s', .slice A' n' c']) (cs := #[.int .i64 k', .int .i64 i', .float .f64 f', .string s', .slice A' n' c']) ?hp ?hv K5.out ?hs ?hi ?h1 ?hc ?_; (case hs => rfl); (case hi => kernel_rfl); (case h1 => simp [Value.oneCell']); (case hc => simp [Value.cells]); (case hg => rfl); (case ho => rfl); (case hN => rfl); (case hp => rfl); (case hv => rfl); intro w6 hk hs; have H6 := Aside0.mk (below_keep H5.out HG5.out hs); have K5 := Aside0.mk hk; clear hk hs))
      have HOW := Aside0.mk (fun (q : Nat) (e : v.ownBlock = some q) => (own_under HCO.out.o q e).2)
      have HCO6 := Aside0.mk (HCO.out.kept H6.out.size (fun g _ hl => H6.out.block g hl))
      have HB6 := Aside0.mk (below_step HB'.out H6.out)
      have KO6 := Aside0.mk (blk_below KO'.out H6.out)
      have KR6 := Aside0.mk (blk_below KR'.out H6.out)
      have HS6 := Aside0.mk (HSub.out.kept H6.out)
      clear p0 p1 p2 p3 p4
      refine wp_region_last_drew (S := fun w' => w'.cell? ⟨go, 4, none⟩ = some v ∧ w'.cell? ⟨g5, 0, none⟩ = some (.int .i64 k') ∧ w'.cell? ⟨g5, 1, none⟩ = some (.int .i64 i') ∧ w'.cell? ⟨g5, 2, none⟩ = some (.float .f64 f') ∧ w'.cell? ⟨g5, 3, none⟩ = some (.string s') ∧ w'.cell? ⟨g5, 4, none⟩ = some (.slice A' n' c')) (ds := [7]) (by kernel_rfl) ⟨blk_cell (show w6.drew.heap[go]? = _ from KO6.out) 4, blk_cell (show w6.drew.heap[g5]? = _ from K5.out) 0, blk_cell (show w6.drew.heap[g5]? = _ from K5.out) 1, blk_cell (show w6.drew.heap[g5]? = _ from K5.out) 2, blk_cell (show w6.drew.heap[g5]? = _ from K5.out) 3, blk_cell (show w6.drew.heap[g5]? = _ from K5.out) 4⟩ (fun hHeld => ?_)
      have HCO6 := Aside0.mk (show Co B l j v css w6.drew from HCO6.out.kept (Nat.le_refl _) (fun _ _ _ => rfl))
      have HB6 := Aside0.mk HB6.out.drew
      have KO6 := Aside0.mk (show w6.drew.heap[go]? = _ from KO6.out)
      have KR6 := Aside0.mk (show w6.drew.heap[gr]? = _ from KR6.out)
      have K5 := Aside0.mk (show w6.drew.heap[g5]? = _ from K5.out)
      have HS6 := Aside0.mk (HS6.out.kept (Below.refl _ _).drew)
      generalize w6.drew = w6d at hHeld HCO6 HB6 KO6 KR6 K5 HS6 ⊢
      refine wpAnyLast_take (i := 0) (oi := { dst := some 34, op := Go.Op.fieldAddr 25 (Go.Operand.tmp 3) 4, type := 0, pos := "value.go:27", after := #[], guard := none }) (v := ?_) rfl (by kernel_rfl) (by kernel_rfl) (by kernel_rfl) (by kernel_rfl) (by kernel_rfl) (fun _ _ _ h => h) (Or.inl ⟨by rfl, ?_⟩) hHeld ?_
      rotate_left
      · first | (intro w hSw; (try dsimp only at hSw); (try go_split_ands); go_simp; done) | (intro w hSw; (try dsimp only at hSw); (try go_split_ands); go_simp; with_reducible rfl)
      try simp only [Act.put, List.setIfInBounds_toArray, List.set_cons_zero, List.set_cons_succ]
      refine wpAnyLast_take (i := 1) (oi := { dst := some 35, op := Go.Op.load 23 (Go.Operand.tmp 34), type := 23, pos := "value.go:27", after := #[{ on := 0, ground := Go.Ground.data }], guard := none }) (v := ?_) rfl (by kernel_rfl) (by kernel_rfl) (by kernel_rfl) (by kernel_rfl) (by kernel_rfl) (fun _ _ _ h => h) (Or.inl ⟨by rfl, ?_⟩) hHeld ?_
      rotate_left
      · first | (intro w hSw; (try dsimp only at hSw); (try go_split_ands); go_simp; done) | (intro w hSw; (try dsimp only at hSw); (try go_split_ands); go_simp; with_reducible rfl)
      try simp only [Act.put, List.setIfInBounds_toArray, List.set_cons_zero, List.set_cons_succ]
      refine wpAnyLast_take (i := 2) (oi := { dst := some 36, op := Go.Op.load 25 (Go.Operand.tmp 5), type := 25, pos := "value.go:27", after := #[], guard := none }) (v := ?_) rfl (by kernel_rfl) (by kernel_rfl) (by kernel_rfl) (by kernel_rfl) (by kernel_rfl) (fun _ _ _ h => h) (Or.inl ⟨by rfl, ?_⟩) hHeld ?_
      rotate_left
      · first | (intro w hSw; (try dsimp only at hSw); (try go_split_ands); go_simp; done) | (intro w hSw; (try dsimp only at hSw); (try go_split_ands); go_simp; with_reducible rfl)
      try simp only [Act.put, List.setIfInBounds_toArray, List.set_cons_zero, List.set_cons_succ]
      refine wpAnyLast_ready (rs := [3]) (by kernel_rfl) (by simp) ?_
      refine AllReadyL.cons (o := { dst := some 37, op := Go.Op.call { callee := Go.Callee.value (Go.Operand.func 50), args := #[Go.Operand.tmp 36], argTypes := #[25] }, type := 25, pos := "value.go:27", after := #[{ on := 2, ground := Go.Ground.data }], guard := none }) rfl (by decide) (fun K hK => ?_) AllReadyL.nil
      go_simp
      (with_reducible refine (HIx.out _ _ _ HS6.out).mono ?_)
      rintro e w104 ⟨cs', rfl, hcs, hb⟩
      obtain ⟨y0, y1, y2, y3, y4, y5, y6, rfl⟩ := hcs.form
      have HCs := Aside0.mk (hcs.mono (ok' := fun q => B ≤ q ∧ v.ownBlock ≠ some q) (fun q hq _ => ⟨Nat.le_trans HCO6.out.b hq, fun e => by have := (own_under HCO6.out.o q e).2; omega⟩))
      have HCO6 := Aside0.mk (HCO6.out.kept hb.size (fun g _ hl => hb.block g hl))
      have HB6 := Aside0.mk (below_step HB6.out hb)
      have KO6 := Aside0.mk (blk_below KO6.out hb)
      have KR6 := Aside0.mk (blk_below KR6.out hb)
      have K5 := Aside0.mk (blk_below K5.out hb)
      clear hcs hb
      refine hK.out _ _ (⟨blk_cell KO6.out 4, blk_cell K5.out 0, blk_cell K5.out 1, blk_cell K5.out 2, blk_cell K5.out 3, blk_cell K5.out 4⟩) (fun hHeld => ?_)
      clear hK K
      try simp only [Act.put, List.setIfInBounds_toArray, List.set_cons_zero, List.set_cons_succ]
      refine wpAnyLast_ready (rs := [4]) (by kernel_rfl) (by simp) ?_
      refine AllReadyL.cons (o := { dst := some 38, op := Go.Op.buildSlice 23 1 #[(0, Go.Operand.tmp 37)], type := 23, pos := "value.go:27", after := #[{ on := 3, ground := Go.Ground.data }], guard := none }) rfl (by decide) (fun K hK => ?_) AllReadyL.nil
      go_simp
      have KO7 := Aside0.mk (blk_below KO6.out (below_alloc (Below.refl _ w104) (.cells #[.int .i64 y0, .int .i64 y1, .float .f64 y2, .string y3, .slice y4 y5 y6] 25)))
      have K57 := Aside0.mk (blk_below K5.out (below_alloc (Below.refl _ w104) (.cells #[.int .i64 y0, .int .i64 y1, .float .f64 y2, .string y3, .slice y4 y5 y6] 25)))
      refine hK.out _ _ (⟨blk_cell KO7.out 4, blk_cell K57.out 0, blk_cell K57.out 1, blk_cell K57.out 2, blk_cell K57.out 3, blk_cell K57.out 4⟩) (fun hHeld => ?_)
      clear hK K
      try simp only [Act.put, List.setIfInBounds_toArray, List.set_cons_zero, List.set_cons_succ]
      refine wpAnyLast_ready (rs := [5]) (by kernel_rfl) (by simp) ?_
      refine AllReadyL.cons (o := { dst := some 39, op := Go.Op.call { callee := Go.Callee.builtin Go.Builtin.append, args := #[Go.Operand.tmp 35, Go.Operand.tmp 38], argTypes := #[23, 23] }, type := 23, pos := "value.go:27", after := #[{ on := 1, ground := Go.Ground.data }, { on := 4, ground := Go.Ground.data }, { on := 3, ground := Go.Ground.chain }], guard := none }) rfl (by decide) (fun K hK => ?_) AllReadyL.nil
      refine step_append_cells (w0 := w104) (W := w104) B (by rfl) (.tmp 35) (.tmp 38) 23 25 (.agg #[.int .i64 0, .int .i64 0, .float .f64 0, .string ⟨#[]⟩, .slice none 0 0]) 5 64 rfl Tryz.underlying23 info25 rfl (by decide) (by decide) v j (rows css) [.int .i64 y0, .int .i64 y1, .float .f64 y2, .string y3, .slice y4 y5 y6] rfl rfl rfl (by simp [Value.oneCell']) HCO6.out.o (Below.refl _ _) HCO6.out.b (by have := HWB.out; omega) ?_
      intro v1 w106 hown hb hg hat
      have hnn_ := HGR.out; have hown_ := HCO6.out.o
      have KO6 := Aside0.mk ((hg.block go (blk_lt KO6.out) (fun e => by have := (own_under hown_ go e.symm).1; omega)).trans KO6.out)
      have KR6 := Aside0.mk ((hg.block gr (blk_lt KR6.out) (fun e => by have := (own_under hown_ gr e.symm).1; omega)).trans KR6.out)
      have K5 := Aside0.mk ((hg.block g5 (blk_lt K5.out) (fun e => by have := HOW.out g5 e.symm; have := HG5.out; omega)).trans K5.out)
      have HB6 := Aside0.mk (pw_below_grown HB6.out v.ownBlock HB6.out.size hg (fun q hq => by have := (own_under hown_ q hq).1; have := HBB.out; have := HB.out.size; omega))
      have HV1 := Aside0.mk (own_cell hown)
      have HCO6 := Aside0.mk (Co.snoc HX.out.1 HX.out.2 HCO6.out HCs.out hown hg hat)
      clear hown hb hg hat hnn_ hown_
      refine hK.out _ _ (⟨blk_cell KO6.out 4, blk_cell K5.out 0, blk_cell K5.out 1, blk_cell K5.out 2, blk_cell K5.out 3, blk_cell K5.out 4⟩) (fun hHeld => ?_)
      clear hK K
      try simp only [Act.put, List.setIfInBounds_toArray, List.set_cons_zero, List.set_cons_succ]
      refine wpAnyLast_take (i := 6) (oi := { dst := some 40, op := Go.Op.fieldAddr 25 (Go.Operand.tmp 3) 4, type := 0, pos := "value.go:27", after := #[{ on := 0, ground := Go.Ground.phase }, { on := 1, ground := Go.Ground.phase }, { on := 2, ground := Go.Ground.phase }, { on := 3, ground := Go.Ground.phase }, { on := 4, ground := Go.Ground.phase }, { on := 5, ground := Go.Ground.phase }], guard := none }) (v := ?_) rfl (by kernel_rfl) (by kernel_rfl) (by kernel_rfl) (by kernel_rfl) (by kernel_rfl) (fun _ _ _ h => h) (Or.inl ⟨by rfl, ?_⟩) hHeld ?_
      rotate_left
      · first | (intro w hSw; (try dsimp only at hSw); (try go_split_ands); go_simp; done) | (intro w hSw; (try dsimp only at hSw); (try go_split_ands); go_simp; with_reducible rfl)
      try simp only [Act.put, List.setIfInBounds_toArray, List.set_cons_zero, List.set_cons_succ]
      refine wpAnyLast_ready (rs := [7]) (by kernel_rfl) (by simp) ?_
      refine AllReadyL.cons_last (o := { dst := none, op := Go.Op.store 23 (Go.Operand.tmp 40) (Go.Operand.tmp 39), type := 0, pos := "value.go:27", after := #[{ on := 6, ground := Go.Ground.data }, { on := 5, ground := Go.Ground.data }, { on := 5, ground := Go.Ground.chain }, { on := 0, ground := Go.Ground.phase }, { on := 1, ground := Go.Ground.phase }, { on := 2, ground := Go.Ground.phase }, { on := 3, ground := Go.Ground.phase }, { on := 4, ground := Go.Ground.phase }, { on := 5, ground := Go.Ground.phase }], guard := none }) rfl (by decide) (fun K hK => ?_) AllReadyL.nil
      refine stepH_put1 (by rfl) (t := 23) (p := 40) (v := .tmp 39) rfl rfl (g := go) (off := 4) (u := v1) rfl rfl KO6.out (by simp) (by kernel_rfl) HV1.out.1 HV1.out.2 ?_
      intro w108 hk hs
      have HB6 := Aside0.mk (below_keep HB6.out HGo.out.1 hs)
      have HCO6 := Aside0.mk (HCO6.out.kept hs.size (fun g hB hl => hs.block g hl (fun e => by have := HGR.out.2; omega)))
      have KR6 := Aside0.mk (hs.blk KR6.out HGo.out.2.1)
      have KO6 := Aside0.mk hk
      clear hk hs
      refine hK.out _ _ ?_
      clear hK K
      try simp only [Act.put, List.setIfInBounds_toArray, List.set_cons_zero, List.set_cons_succ]
      refine wpAnyLast_done (by kernel_rfl) ?_ _
      go_wp2
      go_roundw
      case rel => exact ⟨j + 1, by omega, by go_num, Aside0.mk ⟨v1, _, HCO6.out, HB6.out, KO6.out, KR6.out⟩⟩
      case measure => simp [intOf]; omega
    · obtain rfl : j = n := by omega
      have hd_ := Co.done (HNL.out.symm ▸ HCO.out : Co B l l.length v css wr) (by rw [HNL.out]; exact HWB.out.2)
      obtain ⟨A', c', e, hd⟩ := hd_
      rw [HNL.out] at e hd
      subst e
      have HD := Aside0.mk hd
      clear hd
      have q0 : wr.cell? ⟨go, 0, none⟩ = some (.int .i64 4) := blk_cell KO'.out 0
      have q1 : wr.cell? ⟨go, 1, none⟩ = some (.int .i64 0) := blk_cell KO'.out 1
      have q2 : wr.cell? ⟨go, 2, none⟩ = some (.float .f64 0) := blk_cell KO'.out 2
      have q3 : wr.cell? ⟨go, 3, none⟩ = some (.string ⟨#[]⟩) := blk_cell KO'.out 3
      have q4 : wr.cell? ⟨go, 4, none⟩ = some (.slice A' j c') := blk_cell KO'.out 4
      go_wp2_with (first
        | ((with_reducible refine gate_store (t := 25) (p := 2) rfl ?_); refine put_eventU ?hg (t := 25) (p := 2) (v := .tmp 42) ?ho ?hN (g := gr) (u := .agg #[.int .i64 4, .int .i64 0, .float .f64 0, .string ⟨#[]⟩, .slice A' j c']) (cs := #[.int .i64 4, .int .i64 0, .float .f64 0, .string ⟨#[]⟩, .slice A' j c']) ?hp ?hv KR'.out ?hs ?hi ?h1 ?hc ?_; (case hs => rfl); (case hi => kernel_rfl); (case h1 => simp [Value.oneCell']); (case hc => simp [Value.cells]); (case hg => rfl); (case ho => rfl); (case hN => rfl); (case hp => rfl); (case hv => rfl); intro w9 hk hs; have HB9 := Aside0.mk (below_keep HB'.out HG.out hs); have HD := Aside0.mk (HD.out.step (ok' := fun q => W.heap.size ≤ q) (fun q hq hlt => hs.block q hlt (fun e => by have := HGR.out.1; omega)) (fun q hq _ => by have := HBB.out; have := HB.out.size; omega)); have K := Aside0.mk hk; clear q0 q1 q2 q3 q4; clear hk hs))
      have q0 := blk_cell K.out 0
      have q1 := blk_cell K.out 1
      have q2 := blk_cell K.out 2
      have q3 := blk_cell K.out 3
      have q4 := blk_cell K.out 4
      simp at q0 q1 q2 q3 q4
      refine bodyPost_ret (v := .agg #[.int .i64 4, .int .i64 0, .float .f64 0, .string ⟨#[]⟩, .slice A' j c']) ?_ rfl ⟨_, rfl, HD.out, HB9.out⟩
      simp [results, Tryz.results50, go_sem, q0, q1, q2, q3, q4]
end Go.Proofs.YtejfmghjmhiodaaGreatDoor.Vz
namespace Go.Proofs.YtejfmghjmhiodaaGreatDoor.Vz
open Go.RowKit Go.Proofs.YtejfmghjmhiodaaGreatDoorW.PrintWords
set_option linter.unusedVariables false
set_option linter.unusedSimpArgs false
attribute [local go_sem] store_float

set_option maxHeartbeats 8000000 in
set_option maxRecDepth 100000 in
theorem lights20 (k i : Int) (f : Nat) (s : ByteArray) (l : List Val) (W : World) (ok : Nat → Prop) (x0 x1 x2 x3 : Value) (A : Option Addr) (c : Nat)
    (hR : RV W ok (.mk k i f s l) #[x0, x1, x2, x3, .slice A l.length c]) :
    Calls Tryz.prog 20 #[.slice A l.length c] W fun e w' => ((e = .returned (.bool true) ∧ l.length ≤ 40) ∨ e = .returned (.bool false)) ∧ Below W.heap.size W w' := by
  obtain ⟨A0, c0, e0, wk, wi, wf, ws, wc, wb⟩ := hR.len
  by_cases h40 : (40 : Int) < (l.length : Int)
  · clear hR wk wi wf ws wc wb e0
    generalize l.length = n at *
    go_enter Tryz.func20, Tryz.ntmps20
    go_wp2
    go_ret
    exact ⟨.inr rfl, Below.refl _ _⟩
  have HR := Aside0.mk hR
  have hnn : (0 : Int) ≤ (l.length : Int) := by omega
  clear hR wk wi wf ws wc wb e0
  obtain ⟨n, hn⟩ : ∃ n, l.length = n := ⟨_, rfl⟩
  have HNL := Aside0.mk hn
  rw [hn] at HR hnn h40 ⊢
  clear hn
  go_enter Tryz.func20, Tryz.ntmps20
  go_wp2
  go_loopw [3] (fun ix wr => ∃ j : Nat, j ≤ n ∧ ix = .int .i64 (j : Int) ∧ Aside0 (Below W.heap.size W wr)) (fun ix _ => n - (intOf ix).toNat)
  case atStart => exact ⟨0, by omega, rfl, Aside0.mk (Below.refl _ _)⟩
  case round =>
    obtain ⟨j, hj, rfl, HB'⟩ := hrel
    by_cases hlt : j < n
    · have hji : (j : Int) < (n : Int) := by omega
      have hj0 : (0 : Int) ≤ (j : Int) := by omega
      have hjl : j < l.length := by rw [HNL.out]; exact hlt
      obtain ⟨g, off, k', i', f', s', A', n', c', rfl, hg1, hg2, hsub, p0, p1, p2, p3, p4⟩ := (HR.out.kept HB'.out).elem j hjl
      generalize l[j] = x at hsub
      have HSub := Aside0.mk hsub
      have hwk : IntKind.i64.wrap ((j : Int) + 1) = ((j + 1 : Nat) : Int) := by rw [IntKind.wrap_i64]; omega
      clear hsub hjl hg1 hg2
      go_wp2_with (first
        | (go_at_call 10; refine (light15 _ _ _ _ HSub.out).mono ?_; rintro e w4 ⟨⟨b, rfl⟩, hb⟩; have HB2 := Aside0.mk (below_step HB'.out hb); clear hb; cases b))
      · go_ret
        exact ⟨.inr rfl, HB2.out⟩
      · go_roundw
        case rel => exact ⟨j + 1, by omega, by go_num, HB2⟩
        case measure => simp [intOf]; omega
    · obtain rfl : j = n := by omega
      go_wp2
      go_ret
      exact ⟨.inl ⟨rfl, by omega⟩, HB'.out⟩
end Go.Proofs.YtejfmghjmhiodaaGreatDoor.Vz
namespace Go.Proofs.YtejfmghjmhiodaaGreatDoor.Vz
open Go.RowKit Go.Proofs.YtejfmghjmhiodaaGreatDoorW.PrintWords
set_option linter.unusedVariables false
set_option linter.unusedSimpArgs false
attribute [local go_sem] store_float

def CompareC : Prop := ∀ (a b : ByteArray) (w : World), Calls Tryz.prog 34 #[.string a, .string b] w fun e w' => e = .returned (.int .i64 (Lib.compareBytes a.data.toList b.data.toList)) ∧ w' = w
theorem tenO {W w : World} {ga gb : Nat} {k i : Int} {f : Nat} {s : ByteArray} {l : List Val} {A : Option Addr} {c : Nat} {k2 i2 : Int} {f2 : Nat} {s2 : ByteArray} {l2 : List Val} {A2 : Option Addr} {c2 : Nat} (KA : W.heap[ga]? = some (.cells #[.int .i64 k, .int .i64 i, .float .f64 f, .string s, .slice A l.length c] 25 (0, 0))) (KB : W.heap[gb]? = some (.cells #[.int .i64 k2, .int .i64 i2, .float .f64 f2, .string s2, .slice A2 l2.length c2] 25 (0, 0))) (h : Below W.heap.size W w) : w.cell? ⟨ga, 0, none⟩ = some (.int .i64 k) ∧ w.cell? ⟨ga, 1, none⟩ = some (.int .i64 i) ∧ w.cell? ⟨ga, 2, none⟩ = some (.float .f64 f) ∧ w.cell? ⟨ga, 3, none⟩ = some (.string s) ∧ w.cell? ⟨ga, 4, none⟩ = some (.slice A l.length c) ∧ w.cell? ⟨gb, 0, none⟩ = some (.int .i64 k2) ∧ w.cell? ⟨gb, 1, none⟩ = some (.int .i64 i2) ∧ w.cell? ⟨gb, 2, none⟩ = some (.float .f64 f2) ∧ w.cell? ⟨gb, 3, none⟩ = some (.string s2) ∧ w.cell? ⟨gb, 4, none⟩ = some (.slice A2 l2.length c2) :=
  ⟨blk_cell (blk_below KA h) 0, blk_cell (blk_below KA h) 1, blk_cell (blk_below KA h) 2, blk_cell (blk_below KA h) 3, blk_cell (blk_below KA h) 4, blk_cell (blk_below KB h) 0, blk_cell (blk_below KB h) 1, blk_cell (blk_below KB h) 2, blk_cell (blk_below KB h) 3, blk_cell (blk_below KB h) 4⟩

set_option maxHeartbeats 8000000 in
set_option maxRecDepth 100000 in
theorem order11_ne (k i : Int) (f : Nat) (s : ByteArray) (l : List Val) (A : Option Addr) (c : Nat) (k2 i2 : Int) (f2 : Nat) (s2 : ByteArray) (l2 : List Val) (A2 : Option Addr) (c2 : Nat) (W : World) (ok ok2 : Nat → Prop)
    (hR : RV W ok (.mk k i f s l) #[.int .i64 k, .int .i64 i, .float .f64 f, .string s, .slice A l.length c]) (hR2 : RV W ok2 (.mk k2 i2 f2 s2 l2) #[.int .i64 k2, .int .i64 i2, .float .f64 f2, .string s2, .slice A2 l2.length c2]) (hc0 : cmpI (kindV k) (kindV k2) ≠ 0) :
    Calls Tryz.prog 11 #[.agg #[.int .i64 k, .int .i64 i, .float .f64 f, .string s, .slice A l.length c], .agg #[.int .i64 k2, .int .i64 i2, .float .f64 f2, .string s2, .slice A2 l2.length c2]] W fun e w' => e = .returned (.int .i64 (cmpI (kindV k) (kindV k2))) ∧ Below W.heap.size W w' := by
  have HR := Aside0.mk hR
  have HR2 := Aside0.mk hR2
  clear hR hR2
  obtain ⟨K, hK⟩ : ∃ K, kindV k = K := ⟨_, rfl⟩
  obtain ⟨K2, hK2⟩ : ∃ K2, kindV k2 = K2 := ⟨_, rfl⟩
  have h31 := fun W => kind31 k i f s A l.length c W
  have h31b := fun W => kind31 k2 i2 f2 s2 A2 l2.length c2 W
  rw [hK] at h31
  rw [hK2] at h31b
  have h30 := fun W => cmp30 K K2 W
  obtain ⟨C, hC⟩ : ∃ C, cmpI K K2 = C := ⟨_, rfl⟩
  have HCC := Aside0.mk hC
  rw [hC] at h30
  have H30 := Aside0.mk h30
  clear h30
  have H31 := Aside0.mk h31
  have H31b := Aside0.mk h31b
  have HK := Aside0.mk hK
  have HK2 := Aside0.mk hK2
  clear h31 h31b
  rw [hK, hK2, hC] at hc0
  have HC0 := Aside0.mk hc0
  clear hK hK2 hC hc0
  go_enter Tryz.func11, Tryz.ntmps11
  go_upto_region 1 with (first
    | ((with_reducible refine gate_dst (N := 2) rfl ?_); refine box_event ?hg (N := 2) ?hd (cs := #[.int .i64 k, .int .i64 i, .float .f64 f, .string s, .slice A l.length c]) (t := 25) ?hr ?_; (case hd => rfl); (case hg => rfl); (case hr => first | (go_simp; done) | (go_simp; rfl)); intro ga hg w1 hbox hb; have HB := Aside0.mk hb; have KA := Aside0.mk hbox; clear hg hbox hb)
    | ((with_reducible refine gate_dst (N := 3) rfl ?_); refine box_event ?hg (N := 3) ?hd (cs := #[.int .i64 k2, .int .i64 i2, .float .f64 f2, .string s2, .slice A2 l2.length c2]) (t := 25) ?hr ?_; (case hd => rfl); (case hg => rfl); (case hr => first | (go_simp; done) | (go_simp; rfl)); intro gb hg w2 hbox hb; have KA := Aside0.mk (blk_below KA.out hb); have KB := Aside0.mk hbox; have HB := Aside0.mk (below_step HB.out hb); clear hg hbox hb))
  have a0 : w2.cell? ⟨ga, 0, none⟩ = some (.int .i64 k) := blk_cell KA.out 0
  have a1 : w2.cell? ⟨ga, 1, none⟩ = some (.int .i64 i) := blk_cell KA.out 1
  have a2 : w2.cell? ⟨ga, 2, none⟩ = some (.float .f64 f) := blk_cell KA.out 2
  have a3 : w2.cell? ⟨ga, 3, none⟩ = some (.string s) := blk_cell KA.out 3
  have a4 : w2.cell? ⟨ga, 4, none⟩ = some (.slice A l.length c) := blk_cell KA.out 4
  have b0 : w2.cell? ⟨gb, 0, none⟩ = some (.int .i64 k2) := blk_cell KB.out 0
  have b1 : w2.cell? ⟨gb, 1, none⟩ = some (.int .i64 i2) := blk_cell KB.out 1
  have b2 : w2.cell? ⟨gb, 2, none⟩ = some (.float .f64 f2) := blk_cell KB.out 2
  have b3 : w2.cell? ⟨gb, 3, none⟩ = some (.string s2) := blk_cell KB.out 3
  have b4 : w2.cell? ⟨gb, 4, none⟩ = some (.slice A2 l2.length c2) := blk_cell KB.out 4
  go_region_held3 (fun w' => w'.cell? ⟨ga, 0, none⟩ = some (.int .i64 k) ∧ w'.cell? ⟨ga, 1, none⟩ = some (.int .i64 i) ∧ w'.cell? ⟨ga, 2, none⟩ = some (.float .f64 f) ∧ w'.cell? ⟨ga, 3, none⟩ = some (.string s) ∧ w'.cell? ⟨ga, 4, none⟩ = some (.slice A l.length c) ∧ w'.cell? ⟨gb, 0, none⟩ = some (.int .i64 k2) ∧ w'.cell? ⟨gb, 1, none⟩ = some (.int .i64 i2) ∧ w'.cell? ⟨gb, 2, none⟩ = some (.float .f64 f2) ∧ w'.cell? ⟨gb, 3, none⟩ = some (.string s2) ∧ w'.cell? ⟨gb, 4, none⟩ = some (.slice A2 l2.length c2)) (first | exact tenO (W := w2.drew) KA.out KB.out (below_step hb1 hb2) | exact tenO (W := w2.drew) KA.out KB.out hb1 | exact ⟨a0, a1, a2, a3, a4, b0, b1, b2, b3, b4⟩)
    (first
      | (go_at_call 30; refine (H30.out _).mono ?_; rintro e w5 ⟨rfl, rfl⟩)
      | (go_at_call 31; have tok := hb1; refine (H31b.out _).mono ?_; clear tok; rintro e w4 ⟨rfl, hb2⟩)
      | (go_at_call 31; refine (H31.out _).mono ?_; rintro e w3 ⟨rfl, hb1⟩))
  have HB4 := Aside0.mk (below_step (below_step HB.out.drew hb1) hb2)
  have KA4 := Aside0.mk (blk_below (w := w2.drew) KA.out (below_step hb1 hb2))
  have KB4 := Aside0.mk (blk_below (w := w2.drew) KB.out (below_step hb1 hb2))
  have H31c := Aside0.mk H31.out
  (try clear hHeld)
  clear hb1 hb2 a0 a1 a2 a3 a4 b0 b1 b2 b3 b4 KA KB HB
  have hc1 : (C != 0) = true := bne_iff_ne.2 HC0.out
  go_wp2
  go_ret
  exact ⟨by rw [HK.out, HK2.out, HCC.out]; rfl, HB4.out⟩

set_option maxHeartbeats 8000000 in
set_option maxRecDepth 100000 in
theorem order11_1 (k i : Int) (f : Nat) (s : ByteArray) (l : List Val) (A : Option Addr) (c : Nat) (k2 i2 : Int) (f2 : Nat) (s2 : ByteArray) (l2 : List Val) (A2 : Option Addr) (c2 : Nat) (W : World) (ok ok2 : Nat → Prop)
    (hR : RV W ok (.mk k i f s l) #[.int .i64 k, .int .i64 i, .float .f64 f, .string s, .slice A l.length c]) (hR2 : RV W ok2 (.mk k2 i2 f2 s2 l2) #[.int .i64 k2, .int .i64 i2, .float .f64 f2, .string s2, .slice A2 l2.length c2]) (hc0 : cmpI (kindV k) (kindV k2) = 0) (hkn : kindV k = 1) :
    Calls Tryz.prog 11 #[.agg #[.int .i64 k, .int .i64 i, .float .f64 f, .string s, .slice A l.length c], .agg #[.int .i64 k2, .int .i64 i2, .float .f64 f2, .string s2, .slice A2 l2.length c2]] W fun e w' => e = .returned (.int .i64 (cmpI i i2)) ∧ Below W.heap.size W w' := by
  have HR := Aside0.mk hR
  have HR2 := Aside0.mk hR2
  clear hR hR2
  obtain ⟨K, hK⟩ : ∃ K, kindV k = K := ⟨_, rfl⟩
  obtain ⟨K2, hK2⟩ : ∃ K2, kindV k2 = K2 := ⟨_, rfl⟩
  have h31 := fun W => kind31 k i f s A l.length c W
  have h31b := fun W => kind31 k2 i2 f2 s2 A2 l2.length c2 W
  rw [hK] at h31
  rw [hK2] at h31b
  have h30 := fun W => cmp30 K K2 W
  obtain ⟨C, hC⟩ : ∃ C, cmpI K K2 = C := ⟨_, rfl⟩
  have HCC := Aside0.mk hC
  rw [hC] at h30
  have H30 := Aside0.mk h30
  clear h30
  have H31 := Aside0.mk h31
  have H31b := Aside0.mk h31b
  have HK := Aside0.mk hK
  have HK2 := Aside0.mk hK2
  clear h31 h31b
  rw [hK, hK2, hC] at hc0
  have HC0 := Aside0.mk hc0
  clear hK hK2 hC hc0
  go_enter Tryz.func11, Tryz.ntmps11
  go_upto_region 1 with (first
    | ((with_reducible refine gate_dst (N := 2) rfl ?_); refine box_event ?hg (N := 2) ?hd (cs := #[.int .i64 k, .int .i64 i, .float .f64 f, .string s, .slice A l.length c]) (t := 25) ?hr ?_; (case hd => rfl); (case hg => rfl); (case hr => first | (go_simp; done) | (go_simp; rfl)); intro ga hg w1 hbox hb; have HB := Aside0.mk hb; have KA := Aside0.mk hbox; clear hg hbox hb)
    | ((with_reducible refine gate_dst (N := 3) rfl ?_); refine box_event ?hg (N := 3) ?hd (cs := #[.int .i64 k2, .int .i64 i2, .float .f64 f2, .string s2, .slice A2 l2.length c2]) (t := 25) ?hr ?_; (case hd => rfl); (case hg => rfl); (case hr => first | (go_simp; done) | (go_simp; rfl)); intro gb hg w2 hbox hb; have KA := Aside0.mk (blk_below KA.out hb); have KB := Aside0.mk hbox; have HB := Aside0.mk (below_step HB.out hb); clear hg hbox hb))
  have a0 : w2.cell? ⟨ga, 0, none⟩ = some (.int .i64 k) := blk_cell KA.out 0
  have a1 : w2.cell? ⟨ga, 1, none⟩ = some (.int .i64 i) := blk_cell KA.out 1
  have a2 : w2.cell? ⟨ga, 2, none⟩ = some (.float .f64 f) := blk_cell KA.out 2
  have a3 : w2.cell? ⟨ga, 3, none⟩ = some (.string s) := blk_cell KA.out 3
  have a4 : w2.cell? ⟨ga, 4, none⟩ = some (.slice A l.length c) := blk_cell KA.out 4
  have b0 : w2.cell? ⟨gb, 0, none⟩ = some (.int .i64 k2) := blk_cell KB.out 0
  have b1 : w2.cell? ⟨gb, 1, none⟩ = some (.int .i64 i2) := blk_cell KB.out 1
  have b2 : w2.cell? ⟨gb, 2, none⟩ = some (.float .f64 f2) := blk_cell KB.out 2
  have b3 : w2.cell? ⟨gb, 3, none⟩ = some (.string s2) := blk_cell KB.out 3
  have b4 : w2.cell? ⟨gb, 4, none⟩ = some (.slice A2 l2.length c2) := blk_cell KB.out 4
  go_region_held3 (fun w' => w'.cell? ⟨ga, 0, none⟩ = some (.int .i64 k) ∧ w'.cell? ⟨ga, 1, none⟩ = some (.int .i64 i) ∧ w'.cell? ⟨ga, 2, none⟩ = some (.float .f64 f) ∧ w'.cell? ⟨ga, 3, none⟩ = some (.string s) ∧ w'.cell? ⟨ga, 4, none⟩ = some (.slice A l.length c) ∧ w'.cell? ⟨gb, 0, none⟩ = some (.int .i64 k2) ∧ w'.cell? ⟨gb, 1, none⟩ = some (.int .i64 i2) ∧ w'.cell? ⟨gb, 2, none⟩ = some (.float .f64 f2) ∧ w'.cell? ⟨gb, 3, none⟩ = some (.string s2) ∧ w'.cell? ⟨gb, 4, none⟩ = some (.slice A2 l2.length c2)) (first | exact tenO (W := w2.drew) KA.out KB.out (below_step hb1 hb2) | exact tenO (W := w2.drew) KA.out KB.out hb1 | exact ⟨a0, a1, a2, a3, a4, b0, b1, b2, b3, b4⟩)
    (first
      | (go_at_call 30; refine (H30.out _).mono ?_; rintro e w5 ⟨rfl, rfl⟩)
      | (go_at_call 31; have tok := hb1; refine (H31b.out _).mono ?_; clear tok; rintro e w4 ⟨rfl, hb2⟩)
      | (go_at_call 31; refine (H31.out _).mono ?_; rintro e w3 ⟨rfl, hb1⟩))
  have HB4 := Aside0.mk (below_step (below_step HB.out.drew hb1) hb2)
  have KA4 := Aside0.mk (blk_below (w := w2.drew) KA.out (below_step hb1 hb2))
  have KB4 := Aside0.mk (blk_below (w := w2.drew) KB.out (below_step hb1 hb2))
  have H31c := Aside0.mk H31.out
  (try clear hHeld)
  clear hb1 hb2 a0 a1 a2 a3 a4 b0 b1 b2 b3 b4 KA KB HB
  have hc1 : (C != 0) = false := by rw [HC0.out]; rfl
  have a0 : w5.cell? ⟨ga, 0, none⟩ = some (.int .i64 k) := blk_cell KA4.out 0
  have a1 : w5.cell? ⟨ga, 1, none⟩ = some (.int .i64 i) := blk_cell KA4.out 1
  have a2 : w5.cell? ⟨ga, 2, none⟩ = some (.float .f64 f) := blk_cell KA4.out 2
  have a3 : w5.cell? ⟨ga, 3, none⟩ = some (.string s) := blk_cell KA4.out 3
  have a4 : w5.cell? ⟨ga, 4, none⟩ = some (.slice A l.length c) := blk_cell KA4.out 4
  have b0 : w5.cell? ⟨gb, 0, none⟩ = some (.int .i64 k2) := blk_cell KB4.out 0
  have b1 : w5.cell? ⟨gb, 1, none⟩ = some (.int .i64 i2) := blk_cell KB4.out 1
  have b2 : w5.cell? ⟨gb, 2, none⟩ = some (.float .f64 f2) := blk_cell KB4.out 2
  have b3 : w5.cell? ⟨gb, 3, none⟩ = some (.string s2) := blk_cell KB4.out 3
  have b4 : w5.cell? ⟨gb, 4, none⟩ = some (.slice A2 l2.length c2) := blk_cell KB4.out 4
  go_upto_region 5 with (first
    | (go_at_call 31; refine (H31c.out _).mono ?_; rintro e w6 ⟨rfl, hb⟩; have HB6 := Aside0.mk (below_step HB4.out hb); have KA6 := Aside0.mk (blk_below KA4.out hb); have KB6 := Aside0.mk (blk_below KB4.out hb); clear hb))
  clear a0 a1 a2 a3 a4 b0 b1 b2 b3 b4
  have a0 : w6.cell? ⟨ga, 0, none⟩ = some (.int .i64 k) := blk_cell KA6.out 0
  have a1 : w6.cell? ⟨ga, 1, none⟩ = some (.int .i64 i) := blk_cell KA6.out 1
  have a2 : w6.cell? ⟨ga, 2, none⟩ = some (.float .f64 f) := blk_cell KA6.out 2
  have a3 : w6.cell? ⟨ga, 3, none⟩ = some (.string s) := blk_cell KA6.out 3
  have a4 : w6.cell? ⟨ga, 4, none⟩ = some (.slice A l.length c) := blk_cell KA6.out 4
  have b0 : w6.cell? ⟨gb, 0, none⟩ = some (.int .i64 k2) := blk_cell KB6.out 0
  have b1 : w6.cell? ⟨gb, 1, none⟩ = some (.int .i64 i2) := blk_cell KB6.out 1
  have b2 : w6.cell? ⟨gb, 2, none⟩ = some (.float .f64 f2) := blk_cell KB6.out 2
  have b3 : w6.cell? ⟨gb, 3, none⟩ = some (.string s2) := blk_cell KB6.out 3
  have b4 : w6.cell? ⟨gb, 4, none⟩ = some (.slice A2 l2.length c2) := blk_cell KB6.out 4
  obtain rfl : K = 1 := HK.out.symm.trans hkn
  clear hkn
  go_wp2_with (go_at_call 32; refine (cmp32 i i2 _).mono ?_; rintro e w7 ⟨rfl, rfl⟩)
  go_ret
  exact ⟨rfl, HB6.out⟩

set_option maxHeartbeats 8000000 in
set_option maxRecDepth 100000 in
theorem order11_2 (k i : Int) (f : Nat) (s : ByteArray) (l : List Val) (A : Option Addr) (c : Nat) (k2 i2 : Int) (f2 : Nat) (s2 : ByteArray) (l2 : List Val) (A2 : Option Addr) (c2 : Nat) (W : World) (ok ok2 : Nat → Prop)
    (hR : RV W ok (.mk k i f s l) #[.int .i64 k, .int .i64 i, .float .f64 f, .string s, .slice A l.length c]) (hR2 : RV W ok2 (.mk k2 i2 f2 s2 l2) #[.int .i64 k2, .int .i64 i2, .float .f64 f2, .string s2, .slice A2 l2.length c2]) (hc0 : cmpI (kindV k) (kindV k2) = 0) (hkn : kindV k = 2) :
    Calls Tryz.prog 11 #[.agg #[.int .i64 k, .int .i64 i, .float .f64 f, .string s, .slice A l.length c], .agg #[.int .i64 k2, .int .i64 i2, .float .f64 f2, .string s2, .slice A2 l2.length c2]] W fun e w' => e = .returned (.int .i64 (floatsV f f2)) ∧ Below W.heap.size W w' := by
  obtain ⟨F, hF⟩ : ∃ F, floatsV f f2 = F := ⟨_, rfl⟩
  have h33 := Aside0.mk (fun W => floats33 f f2 W)
  rw [hF] at h33 ⊢
  clear hF
  have HR := Aside0.mk hR
  have HR2 := Aside0.mk hR2
  clear hR hR2
  obtain ⟨K, hK⟩ : ∃ K, kindV k = K := ⟨_, rfl⟩
  obtain ⟨K2, hK2⟩ : ∃ K2, kindV k2 = K2 := ⟨_, rfl⟩
  have h31 := fun W => kind31 k i f s A l.length c W
  have h31b := fun W => kind31 k2 i2 f2 s2 A2 l2.length c2 W
  rw [hK] at h31
  rw [hK2] at h31b
  have h30 := fun W => cmp30 K K2 W
  obtain ⟨C, hC⟩ : ∃ C, cmpI K K2 = C := ⟨_, rfl⟩
  have HCC := Aside0.mk hC
  rw [hC] at h30
  have H30 := Aside0.mk h30
  clear h30
  have H31 := Aside0.mk h31
  have H31b := Aside0.mk h31b
  have HK := Aside0.mk hK
  have HK2 := Aside0.mk hK2
  clear h31 h31b
  rw [hK, hK2, hC] at hc0
  have HC0 := Aside0.mk hc0
  clear hK hK2 hC hc0
  go_enter Tryz.func11, Tryz.ntmps11
  go_upto_region 1 with (first
    | ((with_reducible refine gate_dst (N := 2) rfl ?_); refine box_event ?hg (N := 2) ?hd (cs := #[.int .i64 k, .int .i64 i, .float .f64 f, .string s, .slice A l.length c]) (t := 25) ?hr ?_; (case hd => rfl); (case hg => rfl); (case hr => first | (go_simp; done) | (go_simp; rfl)); intro ga hg w1 hbox hb; have HB := Aside0.mk hb; have KA := Aside0.mk hbox; clear hg hbox hb)
    | ((with_reducible refine gate_dst (N := 3) rfl ?_); refine box_event ?hg (N := 3) ?hd (cs := #[.int .i64 k2, .int .i64 i2, .float .f64 f2, .string s2, .slice A2 l2.length c2]) (t := 25) ?hr ?_; (case hd => rfl); (case hg => rfl); (case hr => first | (go_simp; done) | (go_simp; rfl)); intro gb hg w2 hbox hb; have KA := Aside0.mk (blk_below KA.out hb); have KB := Aside0.mk hbox; have HB := Aside0.mk (below_step HB.out hb); clear hg hbox hb))
  have a0 : w2.cell? ⟨ga, 0, none⟩ = some (.int .i64 k) := blk_cell KA.out 0
  have a1 : w2.cell? ⟨ga, 1, none⟩ = some (.int .i64 i) := blk_cell KA.out 1
  have a2 : w2.cell? ⟨ga, 2, none⟩ = some (.float .f64 f) := blk_cell KA.out 2
  have a3 : w2.cell? ⟨ga, 3, none⟩ = some (.string s) := blk_cell KA.out 3
  have a4 : w2.cell? ⟨ga, 4, none⟩ = some (.slice A l.length c) := blk_cell KA.out 4
  have b0 : w2.cell? ⟨gb, 0, none⟩ = some (.int .i64 k2) := blk_cell KB.out 0
  have b1 : w2.cell? ⟨gb, 1, none⟩ = some (.int .i64 i2) := blk_cell KB.out 1
  have b2 : w2.cell? ⟨gb, 2, none⟩ = some (.float .f64 f2) := blk_cell KB.out 2
  have b3 : w2.cell? ⟨gb, 3, none⟩ = some (.string s2) := blk_cell KB.out 3
  have b4 : w2.cell? ⟨gb, 4, none⟩ = some (.slice A2 l2.length c2) := blk_cell KB.out 4
  go_region_held3 (fun w' => w'.cell? ⟨ga, 0, none⟩ = some (.int .i64 k) ∧ w'.cell? ⟨ga, 1, none⟩ = some (.int .i64 i) ∧ w'.cell? ⟨ga, 2, none⟩ = some (.float .f64 f) ∧ w'.cell? ⟨ga, 3, none⟩ = some (.string s) ∧ w'.cell? ⟨ga, 4, none⟩ = some (.slice A l.length c) ∧ w'.cell? ⟨gb, 0, none⟩ = some (.int .i64 k2) ∧ w'.cell? ⟨gb, 1, none⟩ = some (.int .i64 i2) ∧ w'.cell? ⟨gb, 2, none⟩ = some (.float .f64 f2) ∧ w'.cell? ⟨gb, 3, none⟩ = some (.string s2) ∧ w'.cell? ⟨gb, 4, none⟩ = some (.slice A2 l2.length c2)) (first | exact tenO (W := w2.drew) KA.out KB.out (below_step hb1 hb2) | exact tenO (W := w2.drew) KA.out KB.out hb1 | exact ⟨a0, a1, a2, a3, a4, b0, b1, b2, b3, b4⟩)
    (first
      | (go_at_call 30; refine (H30.out _).mono ?_; rintro e w5 ⟨rfl, rfl⟩)
      | (go_at_call 31; have tok := hb1; refine (H31b.out _).mono ?_; clear tok; rintro e w4 ⟨rfl, hb2⟩)
      | (go_at_call 31; refine (H31.out _).mono ?_; rintro e w3 ⟨rfl, hb1⟩))
  have HB4 := Aside0.mk (below_step (below_step HB.out.drew hb1) hb2)
  have KA4 := Aside0.mk (blk_below (w := w2.drew) KA.out (below_step hb1 hb2))
  have KB4 := Aside0.mk (blk_below (w := w2.drew) KB.out (below_step hb1 hb2))
  have H31c := Aside0.mk H31.out
  (try clear hHeld)
  clear hb1 hb2 a0 a1 a2 a3 a4 b0 b1 b2 b3 b4 KA KB HB
  have hc1 : (C != 0) = false := by rw [HC0.out]; rfl
  have a0 : w5.cell? ⟨ga, 0, none⟩ = some (.int .i64 k) := blk_cell KA4.out 0
  have a1 : w5.cell? ⟨ga, 1, none⟩ = some (.int .i64 i) := blk_cell KA4.out 1
  have a2 : w5.cell? ⟨ga, 2, none⟩ = some (.float .f64 f) := blk_cell KA4.out 2
  have a3 : w5.cell? ⟨ga, 3, none⟩ = some (.string s) := blk_cell KA4.out 3
  have a4 : w5.cell? ⟨ga, 4, none⟩ = some (.slice A l.length c) := blk_cell KA4.out 4
  have b0 : w5.cell? ⟨gb, 0, none⟩ = some (.int .i64 k2) := blk_cell KB4.out 0
  have b1 : w5.cell? ⟨gb, 1, none⟩ = some (.int .i64 i2) := blk_cell KB4.out 1
  have b2 : w5.cell? ⟨gb, 2, none⟩ = some (.float .f64 f2) := blk_cell KB4.out 2
  have b3 : w5.cell? ⟨gb, 3, none⟩ = some (.string s2) := blk_cell KB4.out 3
  have b4 : w5.cell? ⟨gb, 4, none⟩ = some (.slice A2 l2.length c2) := blk_cell KB4.out 4
  go_upto_region 5 with (first
    | (go_at_call 31; refine (H31c.out _).mono ?_; rintro e w6 ⟨rfl, hb⟩; have HB6 := Aside0.mk (below_step HB4.out hb); have KA6 := Aside0.mk (blk_below KA4.out hb); have KB6 := Aside0.mk (blk_below KB4.out hb); clear hb))
  clear a0 a1 a2 a3 a4 b0 b1 b2 b3 b4
  have a0 : w6.cell? ⟨ga, 0, none⟩ = some (.int .i64 k) := blk_cell KA6.out 0
  have a1 : w6.cell? ⟨ga, 1, none⟩ = some (.int .i64 i) := blk_cell KA6.out 1
  have a2 : w6.cell? ⟨ga, 2, none⟩ = some (.float .f64 f) := blk_cell KA6.out 2
  have a3 : w6.cell? ⟨ga, 3, none⟩ = some (.string s) := blk_cell KA6.out 3
  have a4 : w6.cell? ⟨ga, 4, none⟩ = some (.slice A l.length c) := blk_cell KA6.out 4
  have b0 : w6.cell? ⟨gb, 0, none⟩ = some (.int .i64 k2) := blk_cell KB6.out 0
  have b1 : w6.cell? ⟨gb, 1, none⟩ = some (.int .i64 i2) := blk_cell KB6.out 1
  have b2 : w6.cell? ⟨gb, 2, none⟩ = some (.float .f64 f2) := blk_cell KB6.out 2
  have b3 : w6.cell? ⟨gb, 3, none⟩ = some (.string s2) := blk_cell KB6.out 3
  have b4 : w6.cell? ⟨gb, 4, none⟩ = some (.slice A2 l2.length c2) := blk_cell KB6.out 4
  obtain rfl : K = 2 := HK.out.symm.trans hkn
  clear hkn
  go_wp2_with (go_at_call 33; refine (h33.out _).mono ?_; rintro e w7 ⟨rfl, rfl⟩)
  go_ret
  exact ⟨rfl, HB6.out⟩

set_option maxHeartbeats 8000000 in
set_option maxRecDepth 100000 in
theorem order11_3 (k i : Int) (f : Nat) (s : ByteArray) (l : List Val) (A : Option Addr) (c : Nat) (k2 i2 : Int) (f2 : Nat) (s2 : ByteArray) (l2 : List Val) (A2 : Option Addr) (c2 : Nat) (W : World) (ok ok2 : Nat → Prop)
    (hR : RV W ok (.mk k i f s l) #[.int .i64 k, .int .i64 i, .float .f64 f, .string s, .slice A l.length c]) (hR2 : RV W ok2 (.mk k2 i2 f2 s2 l2) #[.int .i64 k2, .int .i64 i2, .float .f64 f2, .string s2, .slice A2 l2.length c2]) (hc0 : cmpI (kindV k) (kindV k2) = 0) (hkn : kindV k = 3) (hS : CompareC) :
    Calls Tryz.prog 11 #[.agg #[.int .i64 k, .int .i64 i, .float .f64 f, .string s, .slice A l.length c], .agg #[.int .i64 k2, .int .i64 i2, .float .f64 f2, .string s2, .slice A2 l2.length c2]] W fun e w' => e = .returned (.int .i64 (Lib.compareBytes s.data.toList s2.data.toList)) ∧ Below W.heap.size W w' := by
  obtain ⟨F, hF⟩ : ∃ F, Lib.compareBytes s.data.toList s2.data.toList = F := ⟨_, rfl⟩
  have h34 := Aside0.mk (fun W => hS s s2 W)
  rw [hF] at h34 ⊢
  clear hF hS
  have HR := Aside0.mk hR
  have HR2 := Aside0.mk hR2
  clear hR hR2
  obtain ⟨K, hK⟩ : ∃ K, kindV k = K := ⟨_, rfl⟩
  obtain ⟨K2, hK2⟩ : ∃ K2, kindV k2 = K2 := ⟨_, rfl⟩
  have h31 := fun W => kind31 k i f s A l.length c W
  have h31b := fun W => kind31 k2 i2 f2 s2 A2 l2.length c2 W
  rw [hK] at h31
  rw [hK2] at h31b
  have h30 := fun W => cmp30 K K2 W
  obtain ⟨C, hC⟩ : ∃ C, cmpI K K2 = C := ⟨_, rfl⟩
  have HCC := Aside0.mk hC
  rw [hC] at h30
  have H30 := Aside0.mk h30
  clear h30
  have H31 := Aside0.mk h31
  have H31b := Aside0.mk h31b
  have HK := Aside0.mk hK
  have HK2 := Aside0.mk hK2
  clear h31 h31b
  rw [hK, hK2, hC] at hc0
  have HC0 := Aside0.mk hc0
  clear hK hK2 hC hc0
  go_enter Tryz.func11, Tryz.ntmps11
  go_upto_region 1 with (first
    | ((with_reducible refine gate_dst (N := 2) rfl ?_); refine box_event ?hg (N := 2) ?hd (cs := #[.int .i64 k, .int .i64 i, .float .f64 f, .string s, .slice A l.length c]) (t := 25) ?hr ?_; (case hd => rfl); (case hg => rfl); (case hr => first | (go_simp; done) | (go_simp; rfl)); intro ga hg w1 hbox hb; have HB := Aside0.mk hb; have KA := Aside0.mk hbox; clear hg hbox hb)
    | ((with_reducible refine gate_dst (N := 3) rfl ?_); refine box_event ?hg (N := 3) ?hd (cs := #[.int .i64 k2, .int .i64 i2, .float .f64 f2, .string s2, .slice A2 l2.length c2]) (t := 25) ?hr ?_; (case hd => rfl); (case hg => rfl); (case hr => first | (go_simp; done) | (go_simp; rfl)); intro gb hg w2 hbox hb; have KA := Aside0.mk (blk_below KA.out hb); have KB := Aside0.mk hbox; have HB := Aside0.mk (below_step HB.out hb); clear hg hbox hb))
  have a0 : w2.cell? ⟨ga, 0, none⟩ = some (.int .i64 k) := blk_cell KA.out 0
  have a1 : w2.cell? ⟨ga, 1, none⟩ = some (.int .i64 i) := blk_cell KA.out 1
  have a2 : w2.cell? ⟨ga, 2, none⟩ = some (.float .f64 f) := blk_cell KA.out 2
  have a3 : w2.cell? ⟨ga, 3, none⟩ = some (.string s) := blk_cell KA.out 3
  have a4 : w2.cell? ⟨ga, 4, none⟩ = some (.slice A l.length c) := blk_cell KA.out 4
  have b0 : w2.cell? ⟨gb, 0, none⟩ = some (.int .i64 k2) := blk_cell KB.out 0
  have b1 : w2.cell? ⟨gb, 1, none⟩ = some (.int .i64 i2) := blk_cell KB.out 1
  have b2 : w2.cell? ⟨gb, 2, none⟩ = some (.float .f64 f2) := blk_cell KB.out 2
  have b3 : w2.cell? ⟨gb, 3, none⟩ = some (.string s2) := blk_cell KB.out 3
  have b4 : w2.cell? ⟨gb, 4, none⟩ = some (.slice A2 l2.length c2) := blk_cell KB.out 4
  go_region_held3 (fun w' => w'.cell? ⟨ga, 0, none⟩ = some (.int .i64 k) ∧ w'.cell? ⟨ga, 1, none⟩ = some (.int .i64 i) ∧ w'.cell? ⟨ga, 2, none⟩ = some (.float .f64 f) ∧ w'.cell? ⟨ga, 3, none⟩ = some (.string s) ∧ w'.cell? ⟨ga, 4, none⟩ = some (.slice A l.length c) ∧ w'.cell? ⟨gb, 0, none⟩ = some (.int .i64 k2) ∧ w'.cell? ⟨gb, 1, none⟩ = some (.int .i64 i2) ∧ w'.cell? ⟨gb, 2, none⟩ = some (.float .f64 f2) ∧ w'.cell? ⟨gb, 3, none⟩ = some (.string s2) ∧ w'.cell? ⟨gb, 4, none⟩ = some (.slice A2 l2.length c2)) (first | exact tenO (W := w2.drew) KA.out KB.out (below_step hb1 hb2) | exact tenO (W := w2.drew) KA.out KB.out hb1 | exact ⟨a0, a1, a2, a3, a4, b0, b1, b2, b3, b4⟩)
    (first
      | (go_at_call 30; refine (H30.out _).mono ?_; rintro e w5 ⟨rfl, rfl⟩)
      | (go_at_call 31; have tok := hb1; refine (H31b.out _).mono ?_; clear tok; rintro e w4 ⟨rfl, hb2⟩)
      | (go_at_call 31; refine (H31.out _).mono ?_; rintro e w3 ⟨rfl, hb1⟩))
  have HB4 := Aside0.mk (below_step (below_step HB.out.drew hb1) hb2)
  have KA4 := Aside0.mk (blk_below (w := w2.drew) KA.out (below_step hb1 hb2))
  have KB4 := Aside0.mk (blk_below (w := w2.drew) KB.out (below_step hb1 hb2))
  have H31c := Aside0.mk H31.out
  (try clear hHeld)
  clear hb1 hb2 a0 a1 a2 a3 a4 b0 b1 b2 b3 b4 KA KB HB
  have hc1 : (C != 0) = false := by rw [HC0.out]; rfl
  have a0 : w5.cell? ⟨ga, 0, none⟩ = some (.int .i64 k) := blk_cell KA4.out 0
  have a1 : w5.cell? ⟨ga, 1, none⟩ = some (.int .i64 i) := blk_cell KA4.out 1
  have a2 : w5.cell? ⟨ga, 2, none⟩ = some (.float .f64 f) := blk_cell KA4.out 2
  have a3 : w5.cell? ⟨ga, 3, none⟩ = some (.string s) := blk_cell KA4.out 3
  have a4 : w5.cell? ⟨ga, 4, none⟩ = some (.slice A l.length c) := blk_cell KA4.out 4
  have b0 : w5.cell? ⟨gb, 0, none⟩ = some (.int .i64 k2) := blk_cell KB4.out 0
  have b1 : w5.cell? ⟨gb, 1, none⟩ = some (.int .i64 i2) := blk_cell KB4.out 1
  have b2 : w5.cell? ⟨gb, 2, none⟩ = some (.float .f64 f2) := blk_cell KB4.out 2
  have b3 : w5.cell? ⟨gb, 3, none⟩ = some (.string s2) := blk_cell KB4.out 3
  have b4 : w5.cell? ⟨gb, 4, none⟩ = some (.slice A2 l2.length c2) := blk_cell KB4.out 4
  go_upto_region 5 with (first
    | (go_at_call 31; refine (H31c.out _).mono ?_; rintro e w6 ⟨rfl, hb⟩; have HB6 := Aside0.mk (below_step HB4.out hb); have KA6 := Aside0.mk (blk_below KA4.out hb); have KB6 := Aside0.mk (blk_below KB4.out hb); clear hb))
  clear a0 a1 a2 a3 a4 b0 b1 b2 b3 b4
  have a0 : w6.cell? ⟨ga, 0, none⟩ = some (.int .i64 k) := blk_cell KA6.out 0
  have a1 : w6.cell? ⟨ga, 1, none⟩ = some (.int .i64 i) := blk_cell KA6.out 1
  have a2 : w6.cell? ⟨ga, 2, none⟩ = some (.float .f64 f) := blk_cell KA6.out 2
  have a3 : w6.cell? ⟨ga, 3, none⟩ = some (.string s) := blk_cell KA6.out 3
  have a4 : w6.cell? ⟨ga, 4, none⟩ = some (.slice A l.length c) := blk_cell KA6.out 4
  have b0 : w6.cell? ⟨gb, 0, none⟩ = some (.int .i64 k2) := blk_cell KB6.out 0
  have b1 : w6.cell? ⟨gb, 1, none⟩ = some (.int .i64 i2) := blk_cell KB6.out 1
  have b2 : w6.cell? ⟨gb, 2, none⟩ = some (.float .f64 f2) := blk_cell KB6.out 2
  have b3 : w6.cell? ⟨gb, 3, none⟩ = some (.string s2) := blk_cell KB6.out 3
  have b4 : w6.cell? ⟨gb, 4, none⟩ = some (.slice A2 l2.length c2) := blk_cell KB6.out 4
  obtain rfl : K = 3 := HK.out.symm.trans hkn
  clear hkn
  go_wp2_with (go_at_call 34; refine (h34.out _).mono ?_; rintro e w7 ⟨rfl, rfl⟩)
  go_ret
  exact ⟨rfl, HB6.out⟩

set_option maxHeartbeats 8000000 in
set_option maxRecDepth 100000 in
theorem order11_4 (k i : Int) (f : Nat) (s : ByteArray) (l : List Val) (A : Option Addr) (c : Nat) (k2 i2 : Int) (f2 : Nat) (s2 : ByteArray) (l2 : List Val) (A2 : Option Addr) (c2 : Nat) (W : World) (ok ok2 : Nat → Prop)
    (hR : RV W ok (.mk k i f s l) #[.int .i64 k, .int .i64 i, .float .f64 f, .string s, .slice A l.length c]) (hR2 : RV W ok2 (.mk k2 i2 f2 s2 l2) #[.int .i64 k2, .int .i64 i2, .float .f64 f2, .string s2, .slice A2 l2.length c2]) (hc0 : cmpI (kindV k) (kindV k2) = 0) (hkn : kindV k = 4) (hE : ∀ (j : Nat) (hj : j < l.length), OrdC l[j]) :
    Calls Tryz.prog 11 #[.agg #[.int .i64 k, .int .i64 i, .float .f64 f, .string s, .slice A l.length c], .agg #[.int .i64 k2, .int .i64 i2, .float .f64 f2, .string s2, .slice A2 l2.length c2]] W fun e w' => e = .returned (.int .i64 (orders l l2)) ∧ Below W.heap.size W w' := by
  obtain ⟨F, hF⟩ : ∃ F, orders l l2 = F := ⟨_, rfl⟩
  have h35 := Aside0.mk (fun (W' : World) (hb : Below W.heap.size W W') => compare35 k i f s l k2 i2 f2 s2 l2 hE W' ok ok2 _ _ _ _ _ _ _ _ A A2 c c2 (hR.kept hb) (hR2.kept hb))
  rw [hF] at h35 ⊢
  clear hF hE
  have HR := Aside0.mk hR
  have HR2 := Aside0.mk hR2
  clear hR hR2
  obtain ⟨K, hK⟩ : ∃ K, kindV k = K := ⟨_, rfl⟩
  obtain ⟨K2, hK2⟩ : ∃ K2, kindV k2 = K2 := ⟨_, rfl⟩
  have h31 := fun W => kind31 k i f s A l.length c W
  have h31b := fun W => kind31 k2 i2 f2 s2 A2 l2.length c2 W
  rw [hK] at h31
  rw [hK2] at h31b
  have h30 := fun W => cmp30 K K2 W
  obtain ⟨C, hC⟩ : ∃ C, cmpI K K2 = C := ⟨_, rfl⟩
  have HCC := Aside0.mk hC
  rw [hC] at h30
  have H30 := Aside0.mk h30
  clear h30
  have H31 := Aside0.mk h31
  have H31b := Aside0.mk h31b
  have HK := Aside0.mk hK
  have HK2 := Aside0.mk hK2
  clear h31 h31b
  rw [hK, hK2, hC] at hc0
  have HC0 := Aside0.mk hc0
  clear hK hK2 hC hc0
  go_enter Tryz.func11, Tryz.ntmps11
  go_upto_region 1 with (first
    | ((with_reducible refine gate_dst (N := 2) rfl ?_); refine box_event ?hg (N := 2) ?hd (cs := #[.int .i64 k, .int .i64 i, .float .f64 f, .string s, .slice A l.length c]) (t := 25) ?hr ?_; (case hd => rfl); (case hg => rfl); (case hr => first | (go_simp; done) | (go_simp; rfl)); intro ga hg w1 hbox hb; have HB := Aside0.mk hb; have KA := Aside0.mk hbox; clear hg hbox hb)
    | ((with_reducible refine gate_dst (N := 3) rfl ?_); refine box_event ?hg (N := 3) ?hd (cs := #[.int .i64 k2, .int .i64 i2, .float .f64 f2, .string s2, .slice A2 l2.length c2]) (t := 25) ?hr ?_; (case hd => rfl); (case hg => rfl); (case hr => first | (go_simp; done) | (go_simp; rfl)); intro gb hg w2 hbox hb; have KA := Aside0.mk (blk_below KA.out hb); have KB := Aside0.mk hbox; have HB := Aside0.mk (below_step HB.out hb); clear hg hbox hb))
  have a0 : w2.cell? ⟨ga, 0, none⟩ = some (.int .i64 k) := blk_cell KA.out 0
  have a1 : w2.cell? ⟨ga, 1, none⟩ = some (.int .i64 i) := blk_cell KA.out 1
  have a2 : w2.cell? ⟨ga, 2, none⟩ = some (.float .f64 f) := blk_cell KA.out 2
  have a3 : w2.cell? ⟨ga, 3, none⟩ = some (.string s) := blk_cell KA.out 3
  have a4 : w2.cell? ⟨ga, 4, none⟩ = some (.slice A l.length c) := blk_cell KA.out 4
  have b0 : w2.cell? ⟨gb, 0, none⟩ = some (.int .i64 k2) := blk_cell KB.out 0
  have b1 : w2.cell? ⟨gb, 1, none⟩ = some (.int .i64 i2) := blk_cell KB.out 1
  have b2 : w2.cell? ⟨gb, 2, none⟩ = some (.float .f64 f2) := blk_cell KB.out 2
  have b3 : w2.cell? ⟨gb, 3, none⟩ = some (.string s2) := blk_cell KB.out 3
  have b4 : w2.cell? ⟨gb, 4, none⟩ = some (.slice A2 l2.length c2) := blk_cell KB.out 4
  go_region_held3 (fun w' => w'.cell? ⟨ga, 0, none⟩ = some (.int .i64 k) ∧ w'.cell? ⟨ga, 1, none⟩ = some (.int .i64 i) ∧ w'.cell? ⟨ga, 2, none⟩ = some (.float .f64 f) ∧ w'.cell? ⟨ga, 3, none⟩ = some (.string s) ∧ w'.cell? ⟨ga, 4, none⟩ = some (.slice A l.length c) ∧ w'.cell? ⟨gb, 0, none⟩ = some (.int .i64 k2) ∧ w'.cell? ⟨gb, 1, none⟩ = some (.int .i64 i2) ∧ w'.cell? ⟨gb, 2, none⟩ = some (.float .f64 f2) ∧ w'.cell? ⟨gb, 3, none⟩ = some (.string s2) ∧ w'.cell? ⟨gb, 4, none⟩ = some (.slice A2 l2.length c2)) (first | exact tenO (W := w2.drew) KA.out KB.out (below_step hb1 hb2) | exact tenO (W := w2.drew) KA.out KB.out hb1 | exact ⟨a0, a1, a2, a3, a4, b0, b1, b2, b3, b4⟩)
    (first
      | (go_at_call 30; refine (H30.out _).mono ?_; rintro e w5 ⟨rfl, rfl⟩)
      | (go_at_call 31; have tok := hb1; refine (H31b.out _).mono ?_; clear tok; rintro e w4 ⟨rfl, hb2⟩)
      | (go_at_call 31; refine (H31.out _).mono ?_; rintro e w3 ⟨rfl, hb1⟩))
  have HB4 := Aside0.mk (below_step (below_step HB.out.drew hb1) hb2)
  have KA4 := Aside0.mk (blk_below (w := w2.drew) KA.out (below_step hb1 hb2))
  have KB4 := Aside0.mk (blk_below (w := w2.drew) KB.out (below_step hb1 hb2))
  have H31c := Aside0.mk H31.out
  (try clear hHeld)
  clear hb1 hb2 a0 a1 a2 a3 a4 b0 b1 b2 b3 b4 KA KB HB
  have hc1 : (C != 0) = false := by rw [HC0.out]; rfl
  have a0 : w5.cell? ⟨ga, 0, none⟩ = some (.int .i64 k) := blk_cell KA4.out 0
  have a1 : w5.cell? ⟨ga, 1, none⟩ = some (.int .i64 i) := blk_cell KA4.out 1
  have a2 : w5.cell? ⟨ga, 2, none⟩ = some (.float .f64 f) := blk_cell KA4.out 2
  have a3 : w5.cell? ⟨ga, 3, none⟩ = some (.string s) := blk_cell KA4.out 3
  have a4 : w5.cell? ⟨ga, 4, none⟩ = some (.slice A l.length c) := blk_cell KA4.out 4
  have b0 : w5.cell? ⟨gb, 0, none⟩ = some (.int .i64 k2) := blk_cell KB4.out 0
  have b1 : w5.cell? ⟨gb, 1, none⟩ = some (.int .i64 i2) := blk_cell KB4.out 1
  have b2 : w5.cell? ⟨gb, 2, none⟩ = some (.float .f64 f2) := blk_cell KB4.out 2
  have b3 : w5.cell? ⟨gb, 3, none⟩ = some (.string s2) := blk_cell KB4.out 3
  have b4 : w5.cell? ⟨gb, 4, none⟩ = some (.slice A2 l2.length c2) := blk_cell KB4.out 4
  go_upto_region 5 with (first
    | (go_at_call 31; refine (H31c.out _).mono ?_; rintro e w6 ⟨rfl, hb⟩; have HB6 := Aside0.mk (below_step HB4.out hb); have KA6 := Aside0.mk (blk_below KA4.out hb); have KB6 := Aside0.mk (blk_below KB4.out hb); clear hb))
  clear a0 a1 a2 a3 a4 b0 b1 b2 b3 b4
  have a0 : w6.cell? ⟨ga, 0, none⟩ = some (.int .i64 k) := blk_cell KA6.out 0
  have a1 : w6.cell? ⟨ga, 1, none⟩ = some (.int .i64 i) := blk_cell KA6.out 1
  have a2 : w6.cell? ⟨ga, 2, none⟩ = some (.float .f64 f) := blk_cell KA6.out 2
  have a3 : w6.cell? ⟨ga, 3, none⟩ = some (.string s) := blk_cell KA6.out 3
  have a4 : w6.cell? ⟨ga, 4, none⟩ = some (.slice A l.length c) := blk_cell KA6.out 4
  have b0 : w6.cell? ⟨gb, 0, none⟩ = some (.int .i64 k2) := blk_cell KB6.out 0
  have b1 : w6.cell? ⟨gb, 1, none⟩ = some (.int .i64 i2) := blk_cell KB6.out 1
  have b2 : w6.cell? ⟨gb, 2, none⟩ = some (.float .f64 f2) := blk_cell KB6.out 2
  have b3 : w6.cell? ⟨gb, 3, none⟩ = some (.string s2) := blk_cell KB6.out 3
  have b4 : w6.cell? ⟨gb, 4, none⟩ = some (.slice A2 l2.length c2) := blk_cell KB6.out 4
  obtain rfl : K = 4 := HK.out.symm.trans hkn
  clear hkn
  go_wp2_with (go_at_call 35; refine (h35.out _ HB6.out).mono ?_; rintro e w7 ⟨rfl, hb⟩; have HB6 := Aside0.mk (below_step HB6.out hb); clear hb)
  go_ret
  exact ⟨rfl, HB6.out⟩

set_option maxHeartbeats 8000000 in
set_option maxRecDepth 100000 in
theorem order11_0 (k i : Int) (f : Nat) (s : ByteArray) (l : List Val) (A : Option Addr) (c : Nat) (k2 i2 : Int) (f2 : Nat) (s2 : ByteArray) (l2 : List Val) (A2 : Option Addr) (c2 : Nat) (W : World) (ok ok2 : Nat → Prop)
    (hR : RV W ok (.mk k i f s l) #[.int .i64 k, .int .i64 i, .float .f64 f, .string s, .slice A l.length c]) (hR2 : RV W ok2 (.mk k2 i2 f2 s2 l2) #[.int .i64 k2, .int .i64 i2, .float .f64 f2, .string s2, .slice A2 l2.length c2]) (hc0 : cmpI (kindV k) (kindV k2) = 0) (hk1 : kindV k ≠ 1) (hk2 : kindV k ≠ 2) (hk3 : kindV k ≠ 3) (hk4 : kindV k ≠ 4) :
    Calls Tryz.prog 11 #[.agg #[.int .i64 k, .int .i64 i, .float .f64 f, .string s, .slice A l.length c], .agg #[.int .i64 k2, .int .i64 i2, .float .f64 f2, .string s2, .slice A2 l2.length c2]] W fun e w' => e = .returned (.int .i64 (0)) ∧ Below W.heap.size W w' := by
  have HR := Aside0.mk hR
  have HR2 := Aside0.mk hR2
  clear hR hR2
  obtain ⟨K, hK⟩ : ∃ K, kindV k = K := ⟨_, rfl⟩
  obtain ⟨K2, hK2⟩ : ∃ K2, kindV k2 = K2 := ⟨_, rfl⟩
  have h31 := fun W => kind31 k i f s A l.length c W
  have h31b := fun W => kind31 k2 i2 f2 s2 A2 l2.length c2 W
  rw [hK] at h31
  rw [hK2] at h31b
  have h30 := fun W => cmp30 K K2 W
  obtain ⟨C, hC⟩ : ∃ C, cmpI K K2 = C := ⟨_, rfl⟩
  have HCC := Aside0.mk hC
  rw [hC] at h30
  have H30 := Aside0.mk h30
  clear h30
  have H31 := Aside0.mk h31
  have H31b := Aside0.mk h31b
  have HK := Aside0.mk hK
  have HK2 := Aside0.mk hK2
  clear h31 h31b
  rw [hK, hK2, hC] at hc0
  have HC0 := Aside0.mk hc0
  clear hK hK2 hC hc0
  go_enter Tryz.func11, Tryz.ntmps11
  go_upto_region 1 with (first
    | ((with_reducible refine gate_dst (N := 2) rfl ?_); refine box_event ?hg (N := 2) ?hd (cs := #[.int .i64 k, .int .i64 i, .float .f64 f, .string s, .slice A l.length c]) (t := 25) ?hr ?_; (case hd => rfl); (case hg => rfl); (case hr => first | (go_simp; done) | (go_simp; rfl)); intro ga hg w1 hbox hb; have HB := Aside0.mk hb; have KA := Aside0.mk hbox; clear hg hbox hb)
    | ((with_reducible refine gate_dst (N := 3) rfl ?_); refine box_event ?hg (N := 3) ?hd (cs := #[.int .i64 k2, .int .i64 i2, .float .f64 f2, .string s2, .slice A2 l2.length c2]) (t := 25) ?hr ?_; (case hd => rfl); (case hg => rfl); (case hr => first | (go_simp; done) | (go_simp; rfl)); intro gb hg w2 hbox hb; have KA := Aside0.mk (blk_below KA.out hb); have KB := Aside0.mk hbox; have HB := Aside0.mk (below_step HB.out hb); clear hg hbox hb))
  have a0 : w2.cell? ⟨ga, 0, none⟩ = some (.int .i64 k) := blk_cell KA.out 0
  have a1 : w2.cell? ⟨ga, 1, none⟩ = some (.int .i64 i) := blk_cell KA.out 1
  have a2 : w2.cell? ⟨ga, 2, none⟩ = some (.float .f64 f) := blk_cell KA.out 2
  have a3 : w2.cell? ⟨ga, 3, none⟩ = some (.string s) := blk_cell KA.out 3
  have a4 : w2.cell? ⟨ga, 4, none⟩ = some (.slice A l.length c) := blk_cell KA.out 4
  have b0 : w2.cell? ⟨gb, 0, none⟩ = some (.int .i64 k2) := blk_cell KB.out 0
  have b1 : w2.cell? ⟨gb, 1, none⟩ = some (.int .i64 i2) := blk_cell KB.out 1
  have b2 : w2.cell? ⟨gb, 2, none⟩ = some (.float .f64 f2) := blk_cell KB.out 2
  have b3 : w2.cell? ⟨gb, 3, none⟩ = some (.string s2) := blk_cell KB.out 3
  have b4 : w2.cell? ⟨gb, 4, none⟩ = some (.slice A2 l2.length c2) := blk_cell KB.out 4
  go_region_held3 (fun w' => w'.cell? ⟨ga, 0, none⟩ = some (.int .i64 k) ∧ w'.cell? ⟨ga, 1, none⟩ = some (.int .i64 i) ∧ w'.cell? ⟨ga, 2, none⟩ = some (.float .f64 f) ∧ w'.cell? ⟨ga, 3, none⟩ = some (.string s) ∧ w'.cell? ⟨ga, 4, none⟩ = some (.slice A l.length c) ∧ w'.cell? ⟨gb, 0, none⟩ = some (.int .i64 k2) ∧ w'.cell? ⟨gb, 1, none⟩ = some (.int .i64 i2) ∧ w'.cell? ⟨gb, 2, none⟩ = some (.float .f64 f2) ∧ w'.cell? ⟨gb, 3, none⟩ = some (.string s2) ∧ w'.cell? ⟨gb, 4, none⟩ = some (.slice A2 l2.length c2)) (first | exact tenO (W := w2.drew) KA.out KB.out (below_step hb1 hb2) | exact tenO (W := w2.drew) KA.out KB.out hb1 | exact ⟨a0, a1, a2, a3, a4, b0, b1, b2, b3, b4⟩)
    (first
      | (go_at_call 30; refine (H30.out _).mono ?_; rintro e w5 ⟨rfl, rfl⟩)
      | (go_at_call 31; have tok := hb1; refine (H31b.out _).mono ?_; clear tok; rintro e w4 ⟨rfl, hb2⟩)
      | (go_at_call 31; refine (H31.out _).mono ?_; rintro e w3 ⟨rfl, hb1⟩))
  have HB4 := Aside0.mk (below_step (below_step HB.out.drew hb1) hb2)
  have KA4 := Aside0.mk (blk_below (w := w2.drew) KA.out (below_step hb1 hb2))
  have KB4 := Aside0.mk (blk_below (w := w2.drew) KB.out (below_step hb1 hb2))
  have H31c := Aside0.mk H31.out
  (try clear hHeld)
  clear hb1 hb2 a0 a1 a2 a3 a4 b0 b1 b2 b3 b4 KA KB HB
  have hc1 : (C != 0) = false := by rw [HC0.out]; rfl
  have a0 : w5.cell? ⟨ga, 0, none⟩ = some (.int .i64 k) := blk_cell KA4.out 0
  have a1 : w5.cell? ⟨ga, 1, none⟩ = some (.int .i64 i) := blk_cell KA4.out 1
  have a2 : w5.cell? ⟨ga, 2, none⟩ = some (.float .f64 f) := blk_cell KA4.out 2
  have a3 : w5.cell? ⟨ga, 3, none⟩ = some (.string s) := blk_cell KA4.out 3
  have a4 : w5.cell? ⟨ga, 4, none⟩ = some (.slice A l.length c) := blk_cell KA4.out 4
  have b0 : w5.cell? ⟨gb, 0, none⟩ = some (.int .i64 k2) := blk_cell KB4.out 0
  have b1 : w5.cell? ⟨gb, 1, none⟩ = some (.int .i64 i2) := blk_cell KB4.out 1
  have b2 : w5.cell? ⟨gb, 2, none⟩ = some (.float .f64 f2) := blk_cell KB4.out 2
  have b3 : w5.cell? ⟨gb, 3, none⟩ = some (.string s2) := blk_cell KB4.out 3
  have b4 : w5.cell? ⟨gb, 4, none⟩ = some (.slice A2 l2.length c2) := blk_cell KB4.out 4
  go_upto_region 5 with (first
    | (go_at_call 31; refine (H31c.out _).mono ?_; rintro e w6 ⟨rfl, hb⟩; have HB6 := Aside0.mk (below_step HB4.out hb); have KA6 := Aside0.mk (blk_below KA4.out hb); have KB6 := Aside0.mk (blk_below KB4.out hb); clear hb))
  clear a0 a1 a2 a3 a4 b0 b1 b2 b3 b4
  have a0 : w6.cell? ⟨ga, 0, none⟩ = some (.int .i64 k) := blk_cell KA6.out 0
  have a1 : w6.cell? ⟨ga, 1, none⟩ = some (.int .i64 i) := blk_cell KA6.out 1
  have a2 : w6.cell? ⟨ga, 2, none⟩ = some (.float .f64 f) := blk_cell KA6.out 2
  have a3 : w6.cell? ⟨ga, 3, none⟩ = some (.string s) := blk_cell KA6.out 3
  have a4 : w6.cell? ⟨ga, 4, none⟩ = some (.slice A l.length c) := blk_cell KA6.out 4
  have b0 : w6.cell? ⟨gb, 0, none⟩ = some (.int .i64 k2) := blk_cell KB6.out 0
  have b1 : w6.cell? ⟨gb, 1, none⟩ = some (.int .i64 i2) := blk_cell KB6.out 1
  have b2 : w6.cell? ⟨gb, 2, none⟩ = some (.float .f64 f2) := blk_cell KB6.out 2
  have b3 : w6.cell? ⟨gb, 3, none⟩ = some (.string s2) := blk_cell KB6.out 3
  have b4 : w6.cell? ⟨gb, 4, none⟩ = some (.slice A2 l2.length c2) := blk_cell KB6.out 4
  have e1 : (K == 1) = false := beq_eq_false_iff_ne.2 (by rw [← HK.out]; exact hk1)
  have e2 : (K == 2) = false := beq_eq_false_iff_ne.2 (by rw [← HK.out]; exact hk2)
  have e3 : (K == 3) = false := beq_eq_false_iff_ne.2 (by rw [← HK.out]; exact hk3)
  have e4 : (K == 4) = false := beq_eq_false_iff_ne.2 (by rw [← HK.out]; exact hk4)
  clear hk1 hk2 hk3 hk4
  go_wp2
  go_ret
  exact ⟨rfl, HB6.out⟩
/-- Order. -/
theorem order11 (hS : CompareC) (v : Val) : OrdC v := by
  induction v using Val.ind with
  | h k i f s l ih =>
    intro W ok cs hR v2 ok2 cs2 hR2
    cases v2 with
    | mk k2 i2 f2 s2 l2 =>
      obtain ⟨A, c, rfl, _⟩ := hR.len
      obtain ⟨A2, c2, rfl, _⟩ := hR2.len
      unfold order
      by_cases h0 : cmpI (kindV k) (kindV k2) = 0
      · rw [if_pos h0]
        by_cases h1 : kindV k = 1
        · rw [if_pos h1]; exact order11_1 k i f s l A c k2 i2 f2 s2 l2 A2 c2 W ok ok2 hR hR2 h0 h1
        · rw [if_neg h1]
          by_cases h2 : kindV k = 2
          · rw [if_pos h2]; exact order11_2 k i f s l A c k2 i2 f2 s2 l2 A2 c2 W ok ok2 hR hR2 h0 h2
          · rw [if_neg h2]
            by_cases h3 : kindV k = 3
            · rw [if_pos h3]; exact order11_3 k i f s l A c k2 i2 f2 s2 l2 A2 c2 W ok ok2 hR hR2 h0 h3 hS
            · rw [if_neg h3]
              by_cases h4 : kindV k = 4
              · rw [if_pos h4]; exact order11_4 k i f s l A c k2 i2 f2 s2 l2 A2 c2 W ok ok2 hR hR2 h0 h4 ih
              · rw [if_neg h4]; exact order11_0 k i f s l A c k2 i2 f2 s2 l2 A2 c2 W ok ok2 hR hR2 h0 h1 h2 h3 h4
      · rw [if_neg h0]; exact order11_ne k i f s l A c k2 i2 f2 s2 l2 A2 c2 W ok ok2 hR hR2 h0
end Go.Proofs.YtejfmghjmhiodaaGreatDoor.Vz
namespace Go.Proofs.YtejfmghjmhiodaaGreatDoor.Vz
open Go.RowKit Go.Proofs.YtejfmghjmhiodaaGreatDoorW.PrintWords
set_option linter.unusedVariables false
set_option linter.unusedSimpArgs false
attribute [local go_sem] store_float

def eqF (f f2 : Nat) : Bool := if feq f f2 = true then true else if isNan f = true then isNan f2 else false
mutual
def equalV : Val → Val → Bool
  | .mk k i f s l, .mk k2 i2 f2 s2 l2 => if kindV k = kindV k2 then (if kindV k = 1 then decide (i = i2) else if kindV k = 2 then eqF f f2 else if kindV k = 3 then (s == s2) else if kindV k = 4 then equals l l2 else true) else false
def equals : List Val → List Val → Bool
  | [], [] => true
  | [], _ :: _ => false
  | _ :: _, [] => false
  | x :: r, y :: t => if equalV x y = true then equals r t else false
end
theorem equals_cons (x y : Val) (r t : List Val) : equals (x :: r) (y :: t) = if equalV x y = true then equals r t else false := rfl
theorem equals_len : ∀ (l l2 : List Val), l.length ≠ l2.length → equals l l2 = false
  | [], [], h => absurd rfl h
  | [], _ :: _, _ => rfl
  | _ :: _, [], _ => rfl
  | x :: r, y :: t, h => by
    rw [equals_cons, equals_len r t (fun e => h (by simp [e]))]
    split <;> rfl
def EqC (v : Val) : Prop := ∀ (W : World) (ok : Nat → Prop) (cs : Array Value), RV W ok v cs → ∀ (v2 : Val) (ok2 : Nat → Prop) (cs2 : Array Value), RV W ok2 v2 cs2 → Calls Tryz.prog 13 #[.agg cs, .agg cs2] W fun e w' => e = .returned (.bool (equalV v v2)) ∧ Below W.heap.size W w'
theorem enters13 (args : Array Value) (W : World) : (callFunc 13 args).run Tryz.prog W = .ok (.enter 13 args) W := by kernel_rfl

set_option maxHeartbeats 8000000 in
set_option maxRecDepth 100000 in
theorem equal37 (k i : Int) (f : Nat) (s : ByteArray) (l : List Val) (kb ib : Int) (fb : Nat) (sb : ByteArray) (l2 : List Val) (hE : ∀ (j : Nat) (hj : j < l.length), EqC l[j]) (W : World) (ok ok2 : Nat → Prop) (x0 x1 x2 x3 y0 y1 y2 y3 : Value) (A A2 : Option Addr) (c c2 : Nat)
    (hR : RV W ok (.mk k i f s l) #[x0, x1, x2, x3, .slice A l.length c]) (hR2 : RV W ok2 (.mk kb ib fb sb l2) #[y0, y1, y2, y3, .slice A2 l2.length c2]) :
    Calls Tryz.prog 37 #[.slice A l.length c, .slice A2 l2.length c2, .func (.func 13) #[] #[]] W fun e w' => e = .returned (.bool (equals l l2)) ∧ Below W.heap.size W w' := by
  obtain ⟨A0, c0, e0, wk, wi, wf, ws, wc, wb⟩ := hR.len
  by_cases hlen : l.length = l2.length
  rotate_left
  · rw [equals_len l l2 hlen]
    have h1 : ((l.length : Int) != (l2.length : Int)) = true := bne_iff_ne.2 (by omega)
    clear hE hR hR2 wk wi wf ws wc wb e0
    generalize l.length = n at *
    generalize l2.length = m at *
    go_enter Tryz.func37, Tryz.ntmps37
    go_wp2
    go_ret
    exact ⟨rfl, Below.refl _ _⟩
  have HI := Aside0.mk hE
  have HR := Aside0.mk hR
  have HR2 := Aside0.mk hR2
  have HWB := Aside0.mk (show (l.length : Int) * 64 ≤ 140737488351232 by omega)
  have hnn : (0 : Int) ≤ (l.length : Int) := by omega
  have hent := enters13
  clear hE hR hR2 wk wi wf ws wc wb e0
  obtain ⟨n, hn⟩ : ∃ n, l.length = n := ⟨_, rfl⟩
  have hm : l2.length = n := by rw [← hlen, hn]
  have HNL := Aside0.mk hn
  have HML := Aside0.mk hm
  rw [hn] at HR HWB hnn ⊢
  rw [hm] at HR2 ⊢
  clear hn hm hlen
  obtain ⟨O, hO⟩ : ∃ O, equals l l2 = O := ⟨_, rfl⟩
  rw [hO]
  have HO := Aside0.mk hO
  clear hO
  go_enter Tryz.func37, Tryz.ntmps37
  go_wp2
  go_loopw [17] (fun ix wr => ∃ j : Nat, j ≤ n ∧ ix = .int .i64 (j : Int) ∧ Aside0 (Below W.heap.size W wr) ∧ Aside0 (equals (l.drop j) (l2.drop j) = O)) (fun ix _ => n - (intOf ix).toNat)
  case atStart => exact ⟨0, by omega, rfl, Aside0.mk (Below.refl _ _), HO⟩
  case round =>
    obtain ⟨j, hj, rfl, HB', HOj⟩ := hrel
    by_cases hlt : j < n
    · have hji : (j : Int) < (n : Int) := by omega
      have hj0 : (0 : Int) ≤ (j : Int) := by omega
      have hjl : j < l.length := by rw [HNL.out]; exact hlt
      obtain ⟨g, off, k', i', f', s', A', n', c', rfl, hg1, hg2, hsub, p0, p1, p2, p3, p4⟩ := (HR.out.kept HB'.out).elem j hjl
      have hih := HI.out j hjl
      have hd := drop_at l j hjl
      obtain ⟨x, hx⟩ : ∃ x, l[j] = x := ⟨_, rfl⟩
      rw [hx] at hsub hih hd
      have HSub := Aside0.mk hsub
      have HIx := Aside0.mk hih
      have HD := Aside0.mk hd
      have hwk : IntKind.i64.wrap ((j : Int) + 1) = ((j + 1 : Nat) : Int) := by have := HWB.out; rw [IntKind.wrap_i64]; omega
      clear hsub hih hd hx hjl hg1 hg2
      have hjl2 : j < l2.length := by rw [HML.out]; exact hlt
      obtain ⟨g2, off2, k2, i2, f2, s2, A2', n2', c2', rfl, _, _, hsub2, r0, r1, r2, r3, r4⟩ := (HR2.out.kept HB'.out).elem j hjl2
      have hd2 := drop_at l2 j hjl2
      obtain ⟨y, hy⟩ : ∃ y, l2[j] = y := ⟨_, rfl⟩
      rw [hy] at hsub2 hd2
      have HSub2 := Aside0.mk hsub2
      have HD2 := Aside0.mk hd2
      clear hsub2 hd2 hy hjl2
      obtain ⟨o, ho⟩ : ∃ o, equalV x y = o := ⟨_, rfl⟩
      have HOo := Aside0.mk ho
      clear ho
      have HOj2 := Aside0.mk HOj.out
      rw [HD.out, HD2.out, equals_cons, HOo.out] at HOj2
      go_upto_region 6 with (first
        | ((with_reducible refine gate_dst (N := 8) rfl ?_); refine box_event ?hg (N := 8) ?hd (cs := #[.int .i64 0, .int .i64 0, .float .f64 0, .string ⟨#[]⟩, .slice none 0 0]) (t := 25) ?hr ?_; (case hd => rfl); (case hg => rfl); (case hr => first | (go_simp; done) | (go_simp; rfl)); intro g8 hg w2 hbox hb; have H2 := Aside0.mk hb; have K8 := Aside0.mk hbox; have P := Aside0.mk (cell5_below ⟨p0, p1, p2, p3, p4⟩ hb); have R2 := Aside0.mk (cell5_below ⟨r0, r1, r2, r3, r4⟩ hb); have HG8 := Aside0.mk (show wr.heap.size ≤ g8 by omega); clear hg hbox hb)
        | ((with_reducible refine gate_store (t := 25) (p := 8) rfl ?_); refine put_eventU ?hg (t := 25) (p := 8) (v := .tmp 21) ?ho ?hN (g := g8) (u := .agg #[.int .i64 k', .int .i64 i', .float .f64 f', .string s', .slice A' n' c']) (cs := #[.int .i64 k', .int .i64 i', .float .f64 f', .string s', .slice A' n' c']) ?hp ?hv K8.out ?hs ?hi ?h1 ?hc ?_; (case hs => rfl); (case hi => kernel_rfl); (case h1 => simp [Value.oneCell']); (case hc => simp [Value.cells]); (case hg => rfl); (case ho => rfl); (case hN => rfl); (case hp => rfl); (case hv => rfl); intro w3 hk hs; have H3 := Aside0.mk (below_keep H2.out HG8.out hs); have K8 := Aside0.mk hk; have R3 := Aside0.mk (cell5_below ⟨r0, r1, r2, r3, r4⟩ H3.out); clear hk hs))
      clear p0 p1 p2 p3 p4 r0 r1 r2 r3 r4
      have r0 := R3.out.1
      have r1 := R3.out.2.1
      have r2 := R3.out.2.2.1
      have r3 := R3.out.2.2.2.1
      have r4 := R3.out.2.2.2.2
      go_upto_region 7 with (first
        | ((with_reducible refine gate_dst (N := 9) rfl ?_); refine box_event ?hg (N := 9) ?hd (cs := #[.int .i64 0, .int .i64 0, .float .f64 0, .string ⟨#[]⟩, .slice none 0 0]) (t := 25) ?hr ?_; (case hd => rfl); (case hg => rfl); (case hr => first | (go_simp; done) | (go_simp; rfl)); intro g9 hg w4 hbox hb; have HG9 := Aside0.mk (show wr.heap.size ≤ g9 ∧ g8 ≠ g9 by (have h1_ := H3.out.size; have h2_ := blk_lt K8.out; omega)); have R4 := Aside0.mk (cell5_below R3.out hb); have H4 := Aside0.mk (below_step H3.out hb); have K8 := Aside0.mk (blk_below K8.out hb); have K9 := Aside0.mk hbox; clear r0 r1 r2 r3 r4; have r0 := R4.out.1; have r1 := R4.out.2.1; have r2 := R4.out.2.2.1; have r3 := R4.out.2.2.2.1; have r4 := R4.out.2.2.2.2; clear hg hbox hb)
        | ((with_reducible refine gate_store (t := 25) (p := 9) rfl ?_); refine put_eventU ?hg (t := 25) (p := 9) (v := .tmp 25) ?ho ?hN (g := g9) (u := .agg #[.int .i64 k2, .int .i64 i2, .float .f64 f2, .string s2, .slice A2' n2' c2']) (cs := #[.int .i64 k2, .int .i64 i2, .float .f64 f2, .string s2, .slice A2' n2' c2']) ?hp ?hv K9.out ?hs ?hi ?h1 ?hc ?_; (case hs => rfl); (case hi => kernel_rfl); (case h1 => simp [Value.oneCell']); (case hc => simp [Value.cells]); (case hg => rfl); (case ho => rfl); (case hN => rfl); (case hp => rfl); (case hv => rfl); intro w5 hk hs; have H5 := Aside0.mk (below_keep H4.out HG9.out.1 hs); have K8 := Aside0.mk (hs.blk K8.out HG9.out.2); have K9 := Aside0.mk hk; clear hk hs))
      clear r0 r1 r2 r3 r4
      have a0 : w5.cell? ⟨g8, 0, none⟩ = some (.int .i64 k') := blk_cell K8.out 0
      have a1 : w5.cell? ⟨g8, 1, none⟩ = some (.int .i64 i') := blk_cell K8.out 1
      have a2 : w5.cell? ⟨g8, 2, none⟩ = some (.float .f64 f') := blk_cell K8.out 2
      have a3 : w5.cell? ⟨g8, 3, none⟩ = some (.string s') := blk_cell K8.out 3
      have a4 : w5.cell? ⟨g8, 4, none⟩ = some (.slice A' n' c') := blk_cell K8.out 4
      have b0 : w5.cell? ⟨g9, 0, none⟩ = some (.int .i64 k2) := blk_cell K9.out 0
      have b1 : w5.cell? ⟨g9, 1, none⟩ = some (.int .i64 i2) := blk_cell K9.out 1
      have b2 : w5.cell? ⟨g9, 2, none⟩ = some (.float .f64 f2) := blk_cell K9.out 2
      have b3 : w5.cell? ⟨g9, 3, none⟩ = some (.string s2) := blk_cell K9.out 3
      have b4 : w5.cell? ⟨g9, 4, none⟩ = some (.slice A2' n2' c2') := blk_cell K9.out 4
      have HS1 := Aside0.mk (HSub.out.kept H5.out)
      have HS2 := Aside0.mk (HSub2.out.kept H5.out)
      cases o
      · have HN := Aside0.mk (show false = O by have := HOj2.out; rwa [if_neg (by decide)] at this)
        go_wp2_with (first
          | (go_at_call 13; refine (HIx.out _ _ _ HS1.out _ _ _ HS2.out).mono ?_; rw [HOo.out]; rintro e w6 ⟨rfl, hb⟩; have H6 := Aside0.mk (below_step HB'.out (below_step H5.out hb)); clear hb))
        go_ret
        exact ⟨by rw [← HN.out]; rfl, H6.out⟩
      · have HN := Aside0.mk (show equals (l.drop (j + 1)) (l2.drop (j + 1)) = O by have := HOj2.out; rwa [if_pos rfl] at this)
        go_wp2_with (first
          | (go_at_call 13; refine (HIx.out _ _ _ HS1.out _ _ _ HS2.out).mono ?_; rw [HOo.out]; rintro e w6 ⟨rfl, hb⟩; have H6 := Aside0.mk (below_step HB'.out (below_step H5.out hb)); clear hb))
        go_roundw
        case rel => exact ⟨j + 1, by omega, by go_num, H6, HN⟩
        case measure => simp [intOf]; omega
    · obtain rfl : j = n := by omega
      have HOj2 := Aside0.mk HOj.out
      rw [show l.drop j = [] from List.drop_eq_nil_of_le (by rw [HNL.out]; omega), show l2.drop j = [] from List.drop_eq_nil_of_le (by rw [HML.out]; omega)] at HOj2
      go_wp2
      go_ret
      exact ⟨by rw [← HOj2.out]; rfl, HB'.out⟩
end Go.Proofs.YtejfmghjmhiodaaGreatDoor.Vz
namespace Go.Proofs.YtejfmghjmhiodaaGreatDoor.Vz
open Go.RowKit Go.Proofs.YtejfmghjmhiodaaGreatDoorW.PrintWords
set_option linter.unusedVariables false
set_option linter.unusedSimpArgs false
attribute [local go_sem] store_float

set_option maxHeartbeats 8000000 in
set_option maxRecDepth 100000 in
theorem equal13_ne (k i : Int) (f : Nat) (s : ByteArray) (l : List Val) (A : Option Addr) (c : Nat) (k2 i2 : Int) (f2 : Nat) (s2 : ByteArray) (l2 : List Val) (A2 : Option Addr) (c2 : Nat) (W : World) (ok ok2 : Nat → Prop)
    (hR : RV W ok (.mk k i f s l) #[.int .i64 k, .int .i64 i, .float .f64 f, .string s, .slice A l.length c]) (hR2 : RV W ok2 (.mk k2 i2 f2 s2 l2) #[.int .i64 k2, .int .i64 i2, .float .f64 f2, .string s2, .slice A2 l2.length c2]) (hc0 : kindV k ≠ kindV k2) :
    Calls Tryz.prog 13 #[.agg #[.int .i64 k, .int .i64 i, .float .f64 f, .string s, .slice A l.length c], .agg #[.int .i64 k2, .int .i64 i2, .float .f64 f2, .string s2, .slice A2 l2.length c2]] W fun e w' => e = .returned (.bool false) ∧ Below W.heap.size W w' := by
  have HR := Aside0.mk hR
  have HR2 := Aside0.mk hR2
  clear hR hR2
  obtain ⟨K, hK⟩ : ∃ K, kindV k = K := ⟨_, rfl⟩
  obtain ⟨K2, hK2⟩ : ∃ K2, kindV k2 = K2 := ⟨_, rfl⟩
  have h31 := fun W => kind31 k i f s A l.length c W
  have h31b := fun W => kind31 k2 i2 f2 s2 A2 l2.length c2 W
  rw [hK] at h31
  rw [hK2] at h31b
  have H31 := Aside0.mk h31
  have H31b := Aside0.mk h31b
  have HK := Aside0.mk hK
  have HK2 := Aside0.mk hK2
  clear h31 h31b
  rw [hK, hK2] at hc0
  have HC0 := Aside0.mk hc0
  clear hK hK2 hc0
  go_enter Tryz.func13, Tryz.ntmps13
  go_upto_region 1 with (first
    | ((with_reducible refine gate_dst (N := 2) rfl ?_); refine box_event ?hg (N := 2) ?hd (cs := #[.int .i64 k, .int .i64 i, .float .f64 f, .string s, .slice A l.length c]) (t := 25) ?hr ?_; (case hd => rfl); (case hg => rfl); (case hr => first | (go_simp; done) | (go_simp; rfl)); intro ga hg w1 hbox hb; have HB := Aside0.mk hb; have KA := Aside0.mk hbox; clear hg hbox hb)
    | ((with_reducible refine gate_dst (N := 3) rfl ?_); refine box_event ?hg (N := 3) ?hd (cs := #[.int .i64 k2, .int .i64 i2, .float .f64 f2, .string s2, .slice A2 l2.length c2]) (t := 25) ?hr ?_; (case hd => rfl); (case hg => rfl); (case hr => first | (go_simp; done) | (go_simp; rfl)); intro gb hg w2 hbox hb; have KA := Aside0.mk (blk_below KA.out hb); have KB := Aside0.mk hbox; have HB := Aside0.mk (below_step HB.out hb); clear hg hbox hb))
  have a0 : w2.cell? ⟨ga, 0, none⟩ = some (.int .i64 k) := blk_cell KA.out 0
  have a1 : w2.cell? ⟨ga, 1, none⟩ = some (.int .i64 i) := blk_cell KA.out 1
  have a2 : w2.cell? ⟨ga, 2, none⟩ = some (.float .f64 f) := blk_cell KA.out 2
  have a3 : w2.cell? ⟨ga, 3, none⟩ = some (.string s) := blk_cell KA.out 3
  have a4 : w2.cell? ⟨ga, 4, none⟩ = some (.slice A l.length c) := blk_cell KA.out 4
  have b0 : w2.cell? ⟨gb, 0, none⟩ = some (.int .i64 k2) := blk_cell KB.out 0
  have b1 : w2.cell? ⟨gb, 1, none⟩ = some (.int .i64 i2) := blk_cell KB.out 1
  have b2 : w2.cell? ⟨gb, 2, none⟩ = some (.float .f64 f2) := blk_cell KB.out 2
  have b3 : w2.cell? ⟨gb, 3, none⟩ = some (.string s2) := blk_cell KB.out 3
  have b4 : w2.cell? ⟨gb, 4, none⟩ = some (.slice A2 l2.length c2) := blk_cell KB.out 4
  go_region_held3 (fun w' => w'.cell? ⟨ga, 0, none⟩ = some (.int .i64 k) ∧ w'.cell? ⟨ga, 1, none⟩ = some (.int .i64 i) ∧ w'.cell? ⟨ga, 2, none⟩ = some (.float .f64 f) ∧ w'.cell? ⟨ga, 3, none⟩ = some (.string s) ∧ w'.cell? ⟨ga, 4, none⟩ = some (.slice A l.length c) ∧ w'.cell? ⟨gb, 0, none⟩ = some (.int .i64 k2) ∧ w'.cell? ⟨gb, 1, none⟩ = some (.int .i64 i2) ∧ w'.cell? ⟨gb, 2, none⟩ = some (.float .f64 f2) ∧ w'.cell? ⟨gb, 3, none⟩ = some (.string s2) ∧ w'.cell? ⟨gb, 4, none⟩ = some (.slice A2 l2.length c2)) (first | exact tenO (W := w2.drew) KA.out KB.out (below_step hb1 hb2) | exact tenO (W := w2.drew) KA.out KB.out hb1 | exact ⟨a0, a1, a2, a3, a4, b0, b1, b2, b3, b4⟩)
    (first
      | (go_at_call 31; have tok := hb1; refine (H31b.out _).mono ?_; clear tok; rintro e w4 ⟨rfl, hb2⟩)
      | (go_at_call 31; refine (H31.out _).mono ?_; rintro e w3 ⟨rfl, hb1⟩))
  have HB4 := Aside0.mk (below_step (below_step HB.out.drew hb1) hb2)
  have KA4 := Aside0.mk (blk_below (w := w2.drew) KA.out (below_step hb1 hb2))
  have KB4 := Aside0.mk (blk_below (w := w2.drew) KB.out (below_step hb1 hb2))
  have H31c := Aside0.mk H31.out
  (try clear hHeld)
  clear hb1 hb2 a0 a1 a2 a3 a4 b0 b1 b2 b3 b4 KA KB HB
  have hc1 : (K != K2) = true := bne_iff_ne.2 HC0.out
  go_wp2
  go_ret
  exact ⟨rfl, HB4.out⟩

set_option maxHeartbeats 8000000 in
set_option maxRecDepth 100000 in
theorem equal13_1 (k i : Int) (f : Nat) (s : ByteArray) (l : List Val) (A : Option Addr) (c : Nat) (k2 i2 : Int) (f2 : Nat) (s2 : ByteArray) (l2 : List Val) (A2 : Option Addr) (c2 : Nat) (W : World) (ok ok2 : Nat → Prop)
    (hR : RV W ok (.mk k i f s l) #[.int .i64 k, .int .i64 i, .float .f64 f, .string s, .slice A l.length c]) (hR2 : RV W ok2 (.mk k2 i2 f2 s2 l2) #[.int .i64 k2, .int .i64 i2, .float .f64 f2, .string s2, .slice A2 l2.length c2]) (hc0 : kindV k = kindV k2) (hkn : kindV k = 1) :
    Calls Tryz.prog 13 #[.agg #[.int .i64 k, .int .i64 i, .float .f64 f, .string s, .slice A l.length c], .agg #[.int .i64 k2, .int .i64 i2, .float .f64 f2, .string s2, .slice A2 l2.length c2]] W fun e w' => e = .returned (.bool (decide (i = i2))) ∧ Below W.heap.size W w' := by
  have HR := Aside0.mk hR
  have HR2 := Aside0.mk hR2
  clear hR hR2
  obtain ⟨K, hK⟩ : ∃ K, kindV k = K := ⟨_, rfl⟩
  obtain ⟨K2, hK2⟩ : ∃ K2, kindV k2 = K2 := ⟨_, rfl⟩
  have h31 := fun W => kind31 k i f s A l.length c W
  have h31b := fun W => kind31 k2 i2 f2 s2 A2 l2.length c2 W
  rw [hK] at h31
  rw [hK2] at h31b
  have H31 := Aside0.mk h31
  have H31b := Aside0.mk h31b
  have HK := Aside0.mk hK
  have HK2 := Aside0.mk hK2
  clear h31 h31b
  rw [hK, hK2] at hc0
  have HC0 := Aside0.mk hc0
  clear hK hK2 hc0
  go_enter Tryz.func13, Tryz.ntmps13
  go_upto_region 1 with (first
    | ((with_reducible refine gate_dst (N := 2) rfl ?_); refine box_event ?hg (N := 2) ?hd (cs := #[.int .i64 k, .int .i64 i, .float .f64 f, .string s, .slice A l.length c]) (t := 25) ?hr ?_; (case hd => rfl); (case hg => rfl); (case hr => first | (go_simp; done) | (go_simp; rfl)); intro ga hg w1 hbox hb; have HB := Aside0.mk hb; have KA := Aside0.mk hbox; clear hg hbox hb)
    | ((with_reducible refine gate_dst (N := 3) rfl ?_); refine box_event ?hg (N := 3) ?hd (cs := #[.int .i64 k2, .int .i64 i2, .float .f64 f2, .string s2, .slice A2 l2.length c2]) (t := 25) ?hr ?_; (case hd => rfl); (case hg => rfl); (case hr => first | (go_simp; done) | (go_simp; rfl)); intro gb hg w2 hbox hb; have KA := Aside0.mk (blk_below KA.out hb); have KB := Aside0.mk hbox; have HB := Aside0.mk (below_step HB.out hb); clear hg hbox hb))
  have a0 : w2.cell? ⟨ga, 0, none⟩ = some (.int .i64 k) := blk_cell KA.out 0
  have a1 : w2.cell? ⟨ga, 1, none⟩ = some (.int .i64 i) := blk_cell KA.out 1
  have a2 : w2.cell? ⟨ga, 2, none⟩ = some (.float .f64 f) := blk_cell KA.out 2
  have a3 : w2.cell? ⟨ga, 3, none⟩ = some (.string s) := blk_cell KA.out 3
  have a4 : w2.cell? ⟨ga, 4, none⟩ = some (.slice A l.length c) := blk_cell KA.out 4
  have b0 : w2.cell? ⟨gb, 0, none⟩ = some (.int .i64 k2) := blk_cell KB.out 0
  have b1 : w2.cell? ⟨gb, 1, none⟩ = some (.int .i64 i2) := blk_cell KB.out 1
  have b2 : w2.cell? ⟨gb, 2, none⟩ = some (.float .f64 f2) := blk_cell KB.out 2
  have b3 : w2.cell? ⟨gb, 3, none⟩ = some (.string s2) := blk_cell KB.out 3
  have b4 : w2.cell? ⟨gb, 4, none⟩ = some (.slice A2 l2.length c2) := blk_cell KB.out 4
  go_region_held3 (fun w' => w'.cell? ⟨ga, 0, none⟩ = some (.int .i64 k) ∧ w'.cell? ⟨ga, 1, none⟩ = some (.int .i64 i) ∧ w'.cell? ⟨ga, 2, none⟩ = some (.float .f64 f) ∧ w'.cell? ⟨ga, 3, none⟩ = some (.string s) ∧ w'.cell? ⟨ga, 4, none⟩ = some (.slice A l.length c) ∧ w'.cell? ⟨gb, 0, none⟩ = some (.int .i64 k2) ∧ w'.cell? ⟨gb, 1, none⟩ = some (.int .i64 i2) ∧ w'.cell? ⟨gb, 2, none⟩ = some (.float .f64 f2) ∧ w'.cell? ⟨gb, 3, none⟩ = some (.string s2) ∧ w'.cell? ⟨gb, 4, none⟩ = some (.slice A2 l2.length c2)) (first | exact tenO (W := w2.drew) KA.out KB.out (below_step hb1 hb2) | exact tenO (W := w2.drew) KA.out KB.out hb1 | exact ⟨a0, a1, a2, a3, a4, b0, b1, b2, b3, b4⟩)
    (first
      | (go_at_call 31; have tok := hb1; refine (H31b.out _).mono ?_; clear tok; rintro e w4 ⟨rfl, hb2⟩)
      | (go_at_call 31; refine (H31.out _).mono ?_; rintro e w3 ⟨rfl, hb1⟩))
  have HB4 := Aside0.mk (below_step (below_step HB.out.drew hb1) hb2)
  have KA4 := Aside0.mk (blk_below (w := w2.drew) KA.out (below_step hb1 hb2))
  have KB4 := Aside0.mk (blk_below (w := w2.drew) KB.out (below_step hb1 hb2))
  have H31c := Aside0.mk H31.out
  (try clear hHeld)
  clear hb1 hb2 a0 a1 a2 a3 a4 b0 b1 b2 b3 b4 KA KB HB
  have hc1 : (K != K2) = false := by rw [HC0.out]; simp
  have a0 : w4.cell? ⟨ga, 0, none⟩ = some (.int .i64 k) := blk_cell KA4.out 0
  have a1 : w4.cell? ⟨ga, 1, none⟩ = some (.int .i64 i) := blk_cell KA4.out 1
  have a2 : w4.cell? ⟨ga, 2, none⟩ = some (.float .f64 f) := blk_cell KA4.out 2
  have a3 : w4.cell? ⟨ga, 3, none⟩ = some (.string s) := blk_cell KA4.out 3
  have a4 : w4.cell? ⟨ga, 4, none⟩ = some (.slice A l.length c) := blk_cell KA4.out 4
  have b0 : w4.cell? ⟨gb, 0, none⟩ = some (.int .i64 k2) := blk_cell KB4.out 0
  have b1 : w4.cell? ⟨gb, 1, none⟩ = some (.int .i64 i2) := blk_cell KB4.out 1
  have b2 : w4.cell? ⟨gb, 2, none⟩ = some (.float .f64 f2) := blk_cell KB4.out 2
  have b3 : w4.cell? ⟨gb, 3, none⟩ = some (.string s2) := blk_cell KB4.out 3
  have b4 : w4.cell? ⟨gb, 4, none⟩ = some (.slice A2 l2.length c2) := blk_cell KB4.out 4
  go_upto_region 4 with (first
    | (go_at_call 31; refine (H31c.out _).mono ?_; rintro e w6 ⟨rfl, hb⟩; have HB6 := Aside0.mk (below_step HB4.out hb); have KA6 := Aside0.mk (blk_below KA4.out hb); have KB6 := Aside0.mk (blk_below KB4.out hb); clear hb))
  clear a0 a1 a2 a3 a4 b0 b1 b2 b3 b4
  have a0 : w6.cell? ⟨ga, 0, none⟩ = some (.int .i64 k) := blk_cell KA6.out 0
  have a1 : w6.cell? ⟨ga, 1, none⟩ = some (.int .i64 i) := blk_cell KA6.out 1
  have a2 : w6.cell? ⟨ga, 2, none⟩ = some (.float .f64 f) := blk_cell KA6.out 2
  have a3 : w6.cell? ⟨ga, 3, none⟩ = some (.string s) := blk_cell KA6.out 3
  have a4 : w6.cell? ⟨ga, 4, none⟩ = some (.slice A l.length c) := blk_cell KA6.out 4
  have b0 : w6.cell? ⟨gb, 0, none⟩ = some (.int .i64 k2) := blk_cell KB6.out 0
  have b1 : w6.cell? ⟨gb, 1, none⟩ = some (.int .i64 i2) := blk_cell KB6.out 1
  have b2 : w6.cell? ⟨gb, 2, none⟩ = some (.float .f64 f2) := blk_cell KB6.out 2
  have b3 : w6.cell? ⟨gb, 3, none⟩ = some (.string s2) := blk_cell KB6.out 3
  have b4 : w6.cell? ⟨gb, 4, none⟩ = some (.slice A2 l2.length c2) := blk_cell KB6.out 4
  obtain rfl : K = 1 := HK.out.symm.trans hkn
  clear hkn
  go_wp2
  go_ret
  exact ⟨by first | rfl | (simp [Value.oneCell']; done) | (congr 2; simp [BEq.beq]), HB6.out⟩

set_option maxHeartbeats 8000000 in
set_option maxRecDepth 100000 in
theorem equal13_2a (k i : Int) (f : Nat) (s : ByteArray) (l : List Val) (A : Option Addr) (c : Nat) (k2 i2 : Int) (f2 : Nat) (s2 : ByteArray) (l2 : List Val) (A2 : Option Addr) (c2 : Nat) (W : World) (ok ok2 : Nat → Prop)
    (hR : RV W ok (.mk k i f s l) #[.int .i64 k, .int .i64 i, .float .f64 f, .string s, .slice A l.length c]) (hR2 : RV W ok2 (.mk k2 i2 f2 s2 l2) #[.int .i64 k2, .int .i64 i2, .float .f64 f2, .string s2, .slice A2 l2.length c2]) (hc0 : kindV k = kindV k2) (hkn : kindV k = 2) (he : (FloatKind.f64.format.order f f2 == some Ordering.eq) = true) :
    Calls Tryz.prog 13 #[.agg #[.int .i64 k, .int .i64 i, .float .f64 f, .string s, .slice A l.length c], .agg #[.int .i64 k2, .int .i64 i2, .float .f64 f2, .string s2, .slice A2 l2.length c2]] W fun e w' => e = .returned (.bool (true)) ∧ Below W.heap.size W w' := by
  have HR := Aside0.mk hR
  have HR2 := Aside0.mk hR2
  clear hR hR2
  obtain ⟨K, hK⟩ : ∃ K, kindV k = K := ⟨_, rfl⟩
  obtain ⟨K2, hK2⟩ : ∃ K2, kindV k2 = K2 := ⟨_, rfl⟩
  have h31 := fun W => kind31 k i f s A l.length c W
  have h31b := fun W => kind31 k2 i2 f2 s2 A2 l2.length c2 W
  rw [hK] at h31
  rw [hK2] at h31b
  have H31 := Aside0.mk h31
  have H31b := Aside0.mk h31b
  have HK := Aside0.mk hK
  have HK2 := Aside0.mk hK2
  clear h31 h31b
  rw [hK, hK2] at hc0
  have HC0 := Aside0.mk hc0
  clear hK hK2 hc0
  go_enter Tryz.func13, Tryz.ntmps13
  go_upto_region 1 with (first
    | ((with_reducible refine gate_dst (N := 2) rfl ?_); refine box_event ?hg (N := 2) ?hd (cs := #[.int .i64 k, .int .i64 i, .float .f64 f, .string s, .slice A l.length c]) (t := 25) ?hr ?_; (case hd => rfl); (case hg => rfl); (case hr => first | (go_simp; done) | (go_simp; rfl)); intro ga hg w1 hbox hb; have HB := Aside0.mk hb; have KA := Aside0.mk hbox; clear hg hbox hb)
    | ((with_reducible refine gate_dst (N := 3) rfl ?_); refine box_event ?hg (N := 3) ?hd (cs := #[.int .i64 k2, .int .i64 i2, .float .f64 f2, .string s2, .slice A2 l2.length c2]) (t := 25) ?hr ?_; (case hd => rfl); (case hg => rfl); (case hr => first | (go_simp; done) | (go_simp; rfl)); intro gb hg w2 hbox hb; have KA := Aside0.mk (blk_below KA.out hb); have KB := Aside0.mk hbox; have HB := Aside0.mk (below_step HB.out hb); clear hg hbox hb))
  have a0 : w2.cell? ⟨ga, 0, none⟩ = some (.int .i64 k) := blk_cell KA.out 0
  have a1 : w2.cell? ⟨ga, 1, none⟩ = some (.int .i64 i) := blk_cell KA.out 1
  have a2 : w2.cell? ⟨ga, 2, none⟩ = some (.float .f64 f) := blk_cell KA.out 2
  have a3 : w2.cell? ⟨ga, 3, none⟩ = some (.string s) := blk_cell KA.out 3
  have a4 : w2.cell? ⟨ga, 4, none⟩ = some (.slice A l.length c) := blk_cell KA.out 4
  have b0 : w2.cell? ⟨gb, 0, none⟩ = some (.int .i64 k2) := blk_cell KB.out 0
  have b1 : w2.cell? ⟨gb, 1, none⟩ = some (.int .i64 i2) := blk_cell KB.out 1
  have b2 : w2.cell? ⟨gb, 2, none⟩ = some (.float .f64 f2) := blk_cell KB.out 2
  have b3 : w2.cell? ⟨gb, 3, none⟩ = some (.string s2) := blk_cell KB.out 3
  have b4 : w2.cell? ⟨gb, 4, none⟩ = some (.slice A2 l2.length c2) := blk_cell KB.out 4
  go_region_held3 (fun w' => w'.cell? ⟨ga, 0, none⟩ = some (.int .i64 k) ∧ w'.cell? ⟨ga, 1, none⟩ = some (.int .i64 i) ∧ w'.cell? ⟨ga, 2, none⟩ = some (.float .f64 f) ∧ w'.cell? ⟨ga, 3, none⟩ = some (.string s) ∧ w'.cell? ⟨ga, 4, none⟩ = some (.slice A l.length c) ∧ w'.cell? ⟨gb, 0, none⟩ = some (.int .i64 k2) ∧ w'.cell? ⟨gb, 1, none⟩ = some (.int .i64 i2) ∧ w'.cell? ⟨gb, 2, none⟩ = some (.float .f64 f2) ∧ w'.cell? ⟨gb, 3, none⟩ = some (.string s2) ∧ w'.cell? ⟨gb, 4, none⟩ = some (.slice A2 l2.length c2)) (first | exact tenO (W := w2.drew) KA.out KB.out (below_step hb1 hb2) | exact tenO (W := w2.drew) KA.out KB.out hb1 | exact ⟨a0, a1, a2, a3, a4, b0, b1, b2, b3, b4⟩)
    (first
      | (go_at_call 31; have tok := hb1; refine (H31b.out _).mono ?_; clear tok; rintro e w4 ⟨rfl, hb2⟩)
      | (go_at_call 31; refine (H31.out _).mono ?_; rintro e w3 ⟨rfl, hb1⟩))
  have HB4 := Aside0.mk (below_step (below_step HB.out.drew hb1) hb2)
  have KA4 := Aside0.mk (blk_below (w := w2.drew) KA.out (below_step hb1 hb2))
  have KB4 := Aside0.mk (blk_below (w := w2.drew) KB.out (below_step hb1 hb2))
  have H31c := Aside0.mk H31.out
  (try clear hHeld)
  clear hb1 hb2 a0 a1 a2 a3 a4 b0 b1 b2 b3 b4 KA KB HB
  have hc1 : (K != K2) = false := by rw [HC0.out]; simp
  have a0 : w4.cell? ⟨ga, 0, none⟩ = some (.int .i64 k) := blk_cell KA4.out 0
  have a1 : w4.cell? ⟨ga, 1, none⟩ = some (.int .i64 i) := blk_cell KA4.out 1
  have a2 : w4.cell? ⟨ga, 2, none⟩ = some (.float .f64 f) := blk_cell KA4.out 2
  have a3 : w4.cell? ⟨ga, 3, none⟩ = some (.string s) := blk_cell KA4.out 3
  have a4 : w4.cell? ⟨ga, 4, none⟩ = some (.slice A l.length c) := blk_cell KA4.out 4
  have b0 : w4.cell? ⟨gb, 0, none⟩ = some (.int .i64 k2) := blk_cell KB4.out 0
  have b1 : w4.cell? ⟨gb, 1, none⟩ = some (.int .i64 i2) := blk_cell KB4.out 1
  have b2 : w4.cell? ⟨gb, 2, none⟩ = some (.float .f64 f2) := blk_cell KB4.out 2
  have b3 : w4.cell? ⟨gb, 3, none⟩ = some (.string s2) := blk_cell KB4.out 3
  have b4 : w4.cell? ⟨gb, 4, none⟩ = some (.slice A2 l2.length c2) := blk_cell KB4.out 4
  go_upto_region 4 with (first
    | (go_at_call 31; refine (H31c.out _).mono ?_; rintro e w6 ⟨rfl, hb⟩; have HB6 := Aside0.mk (below_step HB4.out hb); have KA6 := Aside0.mk (blk_below KA4.out hb); have KB6 := Aside0.mk (blk_below KB4.out hb); clear hb))
  clear a0 a1 a2 a3 a4 b0 b1 b2 b3 b4
  have a0 : w6.cell? ⟨ga, 0, none⟩ = some (.int .i64 k) := blk_cell KA6.out 0
  have a1 : w6.cell? ⟨ga, 1, none⟩ = some (.int .i64 i) := blk_cell KA6.out 1
  have a2 : w6.cell? ⟨ga, 2, none⟩ = some (.float .f64 f) := blk_cell KA6.out 2
  have a3 : w6.cell? ⟨ga, 3, none⟩ = some (.string s) := blk_cell KA6.out 3
  have a4 : w6.cell? ⟨ga, 4, none⟩ = some (.slice A l.length c) := blk_cell KA6.out 4
  have b0 : w6.cell? ⟨gb, 0, none⟩ = some (.int .i64 k2) := blk_cell KB6.out 0
  have b1 : w6.cell? ⟨gb, 1, none⟩ = some (.int .i64 i2) := blk_cell KB6.out 1
  have b2 : w6.cell? ⟨gb, 2, none⟩ = some (.float .f64 f2) := blk_cell KB6.out 2
  have b3 : w6.cell? ⟨gb, 3, none⟩ = some (.string s2) := blk_cell KB6.out 3
  have b4 : w6.cell? ⟨gb, 4, none⟩ = some (.slice A2 l2.length c2) := blk_cell KB6.out 4
  obtain rfl : K = 2 := HK.out.symm.trans hkn
  clear hkn
  go_wp2
  go_ret
  exact ⟨rfl, HB6.out⟩

set_option maxHeartbeats 8000000 in
set_option maxRecDepth 100000 in
theorem equal13_2b (k i : Int) (f : Nat) (s : ByteArray) (l : List Val) (A : Option Addr) (c : Nat) (k2 i2 : Int) (f2 : Nat) (s2 : ByteArray) (l2 : List Val) (A2 : Option Addr) (c2 : Nat) (W : World) (ok ok2 : Nat → Prop)
    (hR : RV W ok (.mk k i f s l) #[.int .i64 k, .int .i64 i, .float .f64 f, .string s, .slice A l.length c]) (hR2 : RV W ok2 (.mk k2 i2 f2 s2 l2) #[.int .i64 k2, .int .i64 i2, .float .f64 f2, .string s2, .slice A2 l2.length c2]) (hc0 : kindV k = kindV k2) (hkn : kindV k = 2) (he : (FloatKind.f64.format.order f f2 == some Ordering.eq) = false) (hn : isNan f = false) :
    Calls Tryz.prog 13 #[.agg #[.int .i64 k, .int .i64 i, .float .f64 f, .string s, .slice A l.length c], .agg #[.int .i64 k2, .int .i64 i2, .float .f64 f2, .string s2, .slice A2 l2.length c2]] W fun e w' => e = .returned (.bool (false)) ∧ Below W.heap.size W w' := by
  have h1 := Aside0.mk (fun W => isNaN36 f W)
  rw [hn] at h1
  clear hn
  have HR := Aside0.mk hR
  have HR2 := Aside0.mk hR2
  clear hR hR2
  obtain ⟨K, hK⟩ : ∃ K, kindV k = K := ⟨_, rfl⟩
  obtain ⟨K2, hK2⟩ : ∃ K2, kindV k2 = K2 := ⟨_, rfl⟩
  have h31 := fun W => kind31 k i f s A l.length c W
  have h31b := fun W => kind31 k2 i2 f2 s2 A2 l2.length c2 W
  rw [hK] at h31
  rw [hK2] at h31b
  have H31 := Aside0.mk h31
  have H31b := Aside0.mk h31b
  have HK := Aside0.mk hK
  have HK2 := Aside0.mk hK2
  clear h31 h31b
  rw [hK, hK2] at hc0
  have HC0 := Aside0.mk hc0
  clear hK hK2 hc0
  go_enter Tryz.func13, Tryz.ntmps13
  go_upto_region 1 with (first
    | ((with_reducible refine gate_dst (N := 2) rfl ?_); refine box_event ?hg (N := 2) ?hd (cs := #[.int .i64 k, .int .i64 i, .float .f64 f, .string s, .slice A l.length c]) (t := 25) ?hr ?_; (case hd => rfl); (case hg => rfl); (case hr => first | (go_simp; done) | (go_simp; rfl)); intro ga hg w1 hbox hb; have HB := Aside0.mk hb; have KA := Aside0.mk hbox; clear hg hbox hb)
    | ((with_reducible refine gate_dst (N := 3) rfl ?_); refine box_event ?hg (N := 3) ?hd (cs := #[.int .i64 k2, .int .i64 i2, .float .f64 f2, .string s2, .slice A2 l2.length c2]) (t := 25) ?hr ?_; (case hd => rfl); (case hg => rfl); (case hr => first | (go_simp; done) | (go_simp; rfl)); intro gb hg w2 hbox hb; have KA := Aside0.mk (blk_below KA.out hb); have KB := Aside0.mk hbox; have HB := Aside0.mk (below_step HB.out hb); clear hg hbox hb))
  have a0 : w2.cell? ⟨ga, 0, none⟩ = some (.int .i64 k) := blk_cell KA.out 0
  have a1 : w2.cell? ⟨ga, 1, none⟩ = some (.int .i64 i) := blk_cell KA.out 1
  have a2 : w2.cell? ⟨ga, 2, none⟩ = some (.float .f64 f) := blk_cell KA.out 2
  have a3 : w2.cell? ⟨ga, 3, none⟩ = some (.string s) := blk_cell KA.out 3
  have a4 : w2.cell? ⟨ga, 4, none⟩ = some (.slice A l.length c) := blk_cell KA.out 4
  have b0 : w2.cell? ⟨gb, 0, none⟩ = some (.int .i64 k2) := blk_cell KB.out 0
  have b1 : w2.cell? ⟨gb, 1, none⟩ = some (.int .i64 i2) := blk_cell KB.out 1
  have b2 : w2.cell? ⟨gb, 2, none⟩ = some (.float .f64 f2) := blk_cell KB.out 2
  have b3 : w2.cell? ⟨gb, 3, none⟩ = some (.string s2) := blk_cell KB.out 3
  have b4 : w2.cell? ⟨gb, 4, none⟩ = some (.slice A2 l2.length c2) := blk_cell KB.out 4
  go_region_held3 (fun w' => w'.cell? ⟨ga, 0, none⟩ = some (.int .i64 k) ∧ w'.cell? ⟨ga, 1, none⟩ = some (.int .i64 i) ∧ w'.cell? ⟨ga, 2, none⟩ = some (.float .f64 f) ∧ w'.cell? ⟨ga, 3, none⟩ = some (.string s) ∧ w'.cell? ⟨ga, 4, none⟩ = some (.slice A l.length c) ∧ w'.cell? ⟨gb, 0, none⟩ = some (.int .i64 k2) ∧ w'.cell? ⟨gb, 1, none⟩ = some (.int .i64 i2) ∧ w'.cell? ⟨gb, 2, none⟩ = some (.float .f64 f2) ∧ w'.cell? ⟨gb, 3, none⟩ = some (.string s2) ∧ w'.cell? ⟨gb, 4, none⟩ = some (.slice A2 l2.length c2)) (first | exact tenO (W := w2.drew) KA.out KB.out (below_step hb1 hb2) | exact tenO (W := w2.drew) KA.out KB.out hb1 | exact ⟨a0, a1, a2, a3, a4, b0, b1, b2, b3, b4⟩)
    (first
      | (go_at_call 31; have tok := hb1; refine (H31b.out _).mono ?_; clear tok; rintro e w4 ⟨rfl, hb2⟩)
      | (go_at_call 31; refine (H31.out _).mono ?_; rintro e w3 ⟨rfl, hb1⟩))
  have HB4 := Aside0.mk (below_step (below_step HB.out.drew hb1) hb2)
  have KA4 := Aside0.mk (blk_below (w := w2.drew) KA.out (below_step hb1 hb2))
  have KB4 := Aside0.mk (blk_below (w := w2.drew) KB.out (below_step hb1 hb2))
  have H31c := Aside0.mk H31.out
  (try clear hHeld)
  clear hb1 hb2 a0 a1 a2 a3 a4 b0 b1 b2 b3 b4 KA KB HB
  have hc1 : (K != K2) = false := by rw [HC0.out]; simp
  have a0 : w4.cell? ⟨ga, 0, none⟩ = some (.int .i64 k) := blk_cell KA4.out 0
  have a1 : w4.cell? ⟨ga, 1, none⟩ = some (.int .i64 i) := blk_cell KA4.out 1
  have a2 : w4.cell? ⟨ga, 2, none⟩ = some (.float .f64 f) := blk_cell KA4.out 2
  have a3 : w4.cell? ⟨ga, 3, none⟩ = some (.string s) := blk_cell KA4.out 3
  have a4 : w4.cell? ⟨ga, 4, none⟩ = some (.slice A l.length c) := blk_cell KA4.out 4
  have b0 : w4.cell? ⟨gb, 0, none⟩ = some (.int .i64 k2) := blk_cell KB4.out 0
  have b1 : w4.cell? ⟨gb, 1, none⟩ = some (.int .i64 i2) := blk_cell KB4.out 1
  have b2 : w4.cell? ⟨gb, 2, none⟩ = some (.float .f64 f2) := blk_cell KB4.out 2
  have b3 : w4.cell? ⟨gb, 3, none⟩ = some (.string s2) := blk_cell KB4.out 3
  have b4 : w4.cell? ⟨gb, 4, none⟩ = some (.slice A2 l2.length c2) := blk_cell KB4.out 4
  go_upto_region 4 with (first
    | (go_at_call 31; refine (H31c.out _).mono ?_; rintro e w6 ⟨rfl, hb⟩; have HB6 := Aside0.mk (below_step HB4.out hb); have KA6 := Aside0.mk (blk_below KA4.out hb); have KB6 := Aside0.mk (blk_below KB4.out hb); clear hb))
  clear a0 a1 a2 a3 a4 b0 b1 b2 b3 b4
  have a0 : w6.cell? ⟨ga, 0, none⟩ = some (.int .i64 k) := blk_cell KA6.out 0
  have a1 : w6.cell? ⟨ga, 1, none⟩ = some (.int .i64 i) := blk_cell KA6.out 1
  have a2 : w6.cell? ⟨ga, 2, none⟩ = some (.float .f64 f) := blk_cell KA6.out 2
  have a3 : w6.cell? ⟨ga, 3, none⟩ = some (.string s) := blk_cell KA6.out 3
  have a4 : w6.cell? ⟨ga, 4, none⟩ = some (.slice A l.length c) := blk_cell KA6.out 4
  have b0 : w6.cell? ⟨gb, 0, none⟩ = some (.int .i64 k2) := blk_cell KB6.out 0
  have b1 : w6.cell? ⟨gb, 1, none⟩ = some (.int .i64 i2) := blk_cell KB6.out 1
  have b2 : w6.cell? ⟨gb, 2, none⟩ = some (.float .f64 f2) := blk_cell KB6.out 2
  have b3 : w6.cell? ⟨gb, 3, none⟩ = some (.string s2) := blk_cell KB6.out 3
  have b4 : w6.cell? ⟨gb, 4, none⟩ = some (.slice A2 l2.length c2) := blk_cell KB6.out 4
  obtain rfl : K = 2 := HK.out.symm.trans hkn
  clear hkn
  go_wp2_with (first | (go_at_call 36; with_reducible refine (h1.out _).mono ?_; rintro e w7 ⟨rfl, hw⟩; rw [hw]; clear hw w7))
  go_ret
  exact ⟨rfl, HB6.out⟩

set_option maxHeartbeats 8000000 in
set_option maxRecDepth 100000 in
theorem equal13_2c (k i : Int) (f : Nat) (s : ByteArray) (l : List Val) (A : Option Addr) (c : Nat) (k2 i2 : Int) (f2 : Nat) (s2 : ByteArray) (l2 : List Val) (A2 : Option Addr) (c2 : Nat) (W : World) (ok ok2 : Nat → Prop)
    (hR : RV W ok (.mk k i f s l) #[.int .i64 k, .int .i64 i, .float .f64 f, .string s, .slice A l.length c]) (hR2 : RV W ok2 (.mk k2 i2 f2 s2 l2) #[.int .i64 k2, .int .i64 i2, .float .f64 f2, .string s2, .slice A2 l2.length c2]) (hc0 : kindV k = kindV k2) (hkn : kindV k = 2) (he : (FloatKind.f64.format.order f f2 == some Ordering.eq) = false) (hn : isNan f = true) :
    Calls Tryz.prog 13 #[.agg #[.int .i64 k, .int .i64 i, .float .f64 f, .string s, .slice A l.length c], .agg #[.int .i64 k2, .int .i64 i2, .float .f64 f2, .string s2, .slice A2 l2.length c2]] W fun e w' => e = .returned (.bool (isNan f2)) ∧ Below W.heap.size W w' := by
  have h1 := Aside0.mk (fun W => isNaN36 f W)
  have h2 := Aside0.mk (fun W => isNaN36 f2 W)
  rw [hn] at h1
  obtain ⟨N, hN⟩ : ∃ N, isNan f2 = N := ⟨_, rfl⟩
  rw [hN] at h2 ⊢
  clear hn hN
  have HR := Aside0.mk hR
  have HR2 := Aside0.mk hR2
  clear hR hR2
  obtain ⟨K, hK⟩ : ∃ K, kindV k = K := ⟨_, rfl⟩
  obtain ⟨K2, hK2⟩ : ∃ K2, kindV k2 = K2 := ⟨_, rfl⟩
  have h31 := fun W => kind31 k i f s A l.length c W
  have h31b := fun W => kind31 k2 i2 f2 s2 A2 l2.length c2 W
  rw [hK] at h31
  rw [hK2] at h31b
  have H31 := Aside0.mk h31
  have H31b := Aside0.mk h31b
  have HK := Aside0.mk hK
  have HK2 := Aside0.mk hK2
  clear h31 h31b
  rw [hK, hK2] at hc0
  have HC0 := Aside0.mk hc0
  clear hK hK2 hc0
  go_enter Tryz.func13, Tryz.ntmps13
  go_upto_region 1 with (first
    | ((with_reducible refine gate_dst (N := 2) rfl ?_); refine box_event ?hg (N := 2) ?hd (cs := #[.int .i64 k, .int .i64 i, .float .f64 f, .string s, .slice A l.length c]) (t := 25) ?hr ?_; (case hd => rfl); (case hg => rfl); (case hr => first | (go_simp; done) | (go_simp; rfl)); intro ga hg w1 hbox hb; have HB := Aside0.mk hb; have KA := Aside0.mk hbox; clear hg hbox hb)
    | ((with_reducible refine gate_dst (N := 3) rfl ?_); refine box_event ?hg (N := 3) ?hd (cs := #[.int .i64 k2, .int .i64 i2, .float .f64 f2, .string s2, .slice A2 l2.length c2]) (t := 25) ?hr ?_; (case hd => rfl); (case hg => rfl); (case hr => first | (go_simp; done) | (go_simp; rfl)); intro gb hg w2 hbox hb; have KA := Aside0.mk (blk_below KA.out hb); have KB := Aside0.mk hbox; have HB := Aside0.mk (below_step HB.out hb); clear hg hbox hb))
  have a0 : w2.cell? ⟨ga, 0, none⟩ = some (.int .i64 k) := blk_cell KA.out 0
  have a1 : w2.cell? ⟨ga, 1, none⟩ = some (.int .i64 i) := blk_cell KA.out 1
  have a2 : w2.cell? ⟨ga, 2, none⟩ = some (.float .f64 f) := blk_cell KA.out 2
  have a3 : w2.cell? ⟨ga, 3, none⟩ = some (.string s) := blk_cell KA.out 3
  have a4 : w2.cell? ⟨ga, 4, none⟩ = some (.slice A l.length c) := blk_cell KA.out 4
  have b0 : w2.cell? ⟨gb, 0, none⟩ = some (.int .i64 k2) := blk_cell KB.out 0
  have b1 : w2.cell? ⟨gb, 1, none⟩ = some (.int .i64 i2) := blk_cell KB.out 1
  have b2 : w2.cell? ⟨gb, 2, none⟩ = some (.float .f64 f2) := blk_cell KB.out 2
  have b3 : w2.cell? ⟨gb, 3, none⟩ = some (.string s2) := blk_cell KB.out 3
  have b4 : w2.cell? ⟨gb, 4, none⟩ = some (.slice A2 l2.length c2) := blk_cell KB.out 4
  go_region_held3 (fun w' => w'.cell? ⟨ga, 0, none⟩ = some (.int .i64 k) ∧ w'.cell? ⟨ga, 1, none⟩ = some (.int .i64 i) ∧ w'.cell? ⟨ga, 2, none⟩ = some (.float .f64 f) ∧ w'.cell? ⟨ga, 3, none⟩ = some (.string s) ∧ w'.cell? ⟨ga, 4, none⟩ = some (.slice A l.length c) ∧ w'.cell? ⟨gb, 0, none⟩ = some (.int .i64 k2) ∧ w'.cell? ⟨gb, 1, none⟩ = some (.int .i64 i2) ∧ w'.cell? ⟨gb, 2, none⟩ = some (.float .f64 f2) ∧ w'.cell? ⟨gb, 3, none⟩ = some (.string s2) ∧ w'.cell? ⟨gb, 4, none⟩ = some (.slice A2 l2.length c2)) (first | exact tenO (W := w2.drew) KA.out KB.out (below_step hb1 hb2) | exact tenO (W := w2.drew) KA.out KB.out hb1 | exact ⟨a0, a1, a2, a3, a4, b0, b1, b2, b3, b4⟩)
    (first
      | (go_at_call 31; have tok := hb1; refine (H31b.out _).mono ?_; clear tok; rintro e w4 ⟨rfl, hb2⟩)
      | (go_at_call 31; refine (H31.out _).mono ?_; rintro e w3 ⟨rfl, hb1⟩))
  have HB4 := Aside0.mk (below_step (below_step HB.out.drew hb1) hb2)
  have KA4 := Aside0.mk (blk_below (w := w2.drew) KA.out (below_step hb1 hb2))
  have KB4 := Aside0.mk (blk_below (w := w2.drew) KB.out (below_step hb1 hb2))
  have H31c := Aside0.mk H31.out
  (try clear hHeld)
  clear hb1 hb2 a0 a1 a2 a3 a4 b0 b1 b2 b3 b4 KA KB HB
  have hc1 : (K != K2) = false := by rw [HC0.out]; simp
  have a0 : w4.cell? ⟨ga, 0, none⟩ = some (.int .i64 k) := blk_cell KA4.out 0
  have a1 : w4.cell? ⟨ga, 1, none⟩ = some (.int .i64 i) := blk_cell KA4.out 1
  have a2 : w4.cell? ⟨ga, 2, none⟩ = some (.float .f64 f) := blk_cell KA4.out 2
  have a3 : w4.cell? ⟨ga, 3, none⟩ = some (.string s) := blk_cell KA4.out 3
  have a4 : w4.cell? ⟨ga, 4, none⟩ = some (.slice A l.length c) := blk_cell KA4.out 4
  have b0 : w4.cell? ⟨gb, 0, none⟩ = some (.int .i64 k2) := blk_cell KB4.out 0
  have b1 : w4.cell? ⟨gb, 1, none⟩ = some (.int .i64 i2) := blk_cell KB4.out 1
  have b2 : w4.cell? ⟨gb, 2, none⟩ = some (.float .f64 f2) := blk_cell KB4.out 2
  have b3 : w4.cell? ⟨gb, 3, none⟩ = some (.string s2) := blk_cell KB4.out 3
  have b4 : w4.cell? ⟨gb, 4, none⟩ = some (.slice A2 l2.length c2) := blk_cell KB4.out 4
  go_upto_region 4 with (first
    | (go_at_call 31; refine (H31c.out _).mono ?_; rintro e w6 ⟨rfl, hb⟩; have HB6 := Aside0.mk (below_step HB4.out hb); have KA6 := Aside0.mk (blk_below KA4.out hb); have KB6 := Aside0.mk (blk_below KB4.out hb); clear hb))
  clear a0 a1 a2 a3 a4 b0 b1 b2 b3 b4
  have a0 : w6.cell? ⟨ga, 0, none⟩ = some (.int .i64 k) := blk_cell KA6.out 0
  have a1 : w6.cell? ⟨ga, 1, none⟩ = some (.int .i64 i) := blk_cell KA6.out 1
  have a2 : w6.cell? ⟨ga, 2, none⟩ = some (.float .f64 f) := blk_cell KA6.out 2
  have a3 : w6.cell? ⟨ga, 3, none⟩ = some (.string s) := blk_cell KA6.out 3
  have a4 : w6.cell? ⟨ga, 4, none⟩ = some (.slice A l.length c) := blk_cell KA6.out 4
  have b0 : w6.cell? ⟨gb, 0, none⟩ = some (.int .i64 k2) := blk_cell KB6.out 0
  have b1 : w6.cell? ⟨gb, 1, none⟩ = some (.int .i64 i2) := blk_cell KB6.out 1
  have b2 : w6.cell? ⟨gb, 2, none⟩ = some (.float .f64 f2) := blk_cell KB6.out 2
  have b3 : w6.cell? ⟨gb, 3, none⟩ = some (.string s2) := blk_cell KB6.out 3
  have b4 : w6.cell? ⟨gb, 4, none⟩ = some (.slice A2 l2.length c2) := blk_cell KB6.out 4
  obtain rfl : K = 2 := HK.out.symm.trans hkn
  clear hkn
  go_wp2_with (first | (go_at_call 36; with_reducible refine (h1.out _).mono ?_; rintro e w7 ⟨rfl, hw⟩; rw [hw]; clear hw w7) | (go_at_call 36; with_reducible refine (h2.out _).mono ?_; rintro e w8 ⟨rfl, hw⟩; rw [hw]; clear hw w8))
  go_ret
  exact ⟨rfl, HB6.out⟩

set_option maxHeartbeats 8000000 in
set_option maxRecDepth 100000 in
theorem equal13_3 (k i : Int) (f : Nat) (s : ByteArray) (l : List Val) (A : Option Addr) (c : Nat) (k2 i2 : Int) (f2 : Nat) (s2 : ByteArray) (l2 : List Val) (A2 : Option Addr) (c2 : Nat) (W : World) (ok ok2 : Nat → Prop)
    (hR : RV W ok (.mk k i f s l) #[.int .i64 k, .int .i64 i, .float .f64 f, .string s, .slice A l.length c]) (hR2 : RV W ok2 (.mk k2 i2 f2 s2 l2) #[.int .i64 k2, .int .i64 i2, .float .f64 f2, .string s2, .slice A2 l2.length c2]) (hc0 : kindV k = kindV k2) (hkn : kindV k = 3) :
    Calls Tryz.prog 13 #[.agg #[.int .i64 k, .int .i64 i, .float .f64 f, .string s, .slice A l.length c], .agg #[.int .i64 k2, .int .i64 i2, .float .f64 f2, .string s2, .slice A2 l2.length c2]] W fun e w' => e = .returned (.bool ((s == s2))) ∧ Below W.heap.size W w' := by
  have HR := Aside0.mk hR
  have HR2 := Aside0.mk hR2
  clear hR hR2
  obtain ⟨K, hK⟩ : ∃ K, kindV k = K := ⟨_, rfl⟩
  obtain ⟨K2, hK2⟩ : ∃ K2, kindV k2 = K2 := ⟨_, rfl⟩
  have h31 := fun W => kind31 k i f s A l.length c W
  have h31b := fun W => kind31 k2 i2 f2 s2 A2 l2.length c2 W
  rw [hK] at h31
  rw [hK2] at h31b
  have H31 := Aside0.mk h31
  have H31b := Aside0.mk h31b
  have HK := Aside0.mk hK
  have HK2 := Aside0.mk hK2
  clear h31 h31b
  rw [hK, hK2] at hc0
  have HC0 := Aside0.mk hc0
  clear hK hK2 hc0
  go_enter Tryz.func13, Tryz.ntmps13
  go_upto_region 1 with (first
    | ((with_reducible refine gate_dst (N := 2) rfl ?_); refine box_event ?hg (N := 2) ?hd (cs := #[.int .i64 k, .int .i64 i, .float .f64 f, .string s, .slice A l.length c]) (t := 25) ?hr ?_; (case hd => rfl); (case hg => rfl); (case hr => first | (go_simp; done) | (go_simp; rfl)); intro ga hg w1 hbox hb; have HB := Aside0.mk hb; have KA := Aside0.mk hbox; clear hg hbox hb)
    | ((with_reducible refine gate_dst (N := 3) rfl ?_); refine box_event ?hg (N := 3) ?hd (cs := #[.int .i64 k2, .int .i64 i2, .float .f64 f2, .string s2, .slice A2 l2.length c2]) (t := 25) ?hr ?_; (case hd => rfl); (case hg => rfl); (case hr => first | (go_simp; done) | (go_simp; rfl)); intro gb hg w2 hbox hb; have KA := Aside0.mk (blk_below KA.out hb); have KB := Aside0.mk hbox; have HB := Aside0.mk (below_step HB.out hb); clear hg hbox hb))
  have a0 : w2.cell? ⟨ga, 0, none⟩ = some (.int .i64 k) := blk_cell KA.out 0
  have a1 : w2.cell? ⟨ga, 1, none⟩ = some (.int .i64 i) := blk_cell KA.out 1
  have a2 : w2.cell? ⟨ga, 2, none⟩ = some (.float .f64 f) := blk_cell KA.out 2
  have a3 : w2.cell? ⟨ga, 3, none⟩ = some (.string s) := blk_cell KA.out 3
  have a4 : w2.cell? ⟨ga, 4, none⟩ = some (.slice A l.length c) := blk_cell KA.out 4
  have b0 : w2.cell? ⟨gb, 0, none⟩ = some (.int .i64 k2) := blk_cell KB.out 0
  have b1 : w2.cell? ⟨gb, 1, none⟩ = some (.int .i64 i2) := blk_cell KB.out 1
  have b2 : w2.cell? ⟨gb, 2, none⟩ = some (.float .f64 f2) := blk_cell KB.out 2
  have b3 : w2.cell? ⟨gb, 3, none⟩ = some (.string s2) := blk_cell KB.out 3
  have b4 : w2.cell? ⟨gb, 4, none⟩ = some (.slice A2 l2.length c2) := blk_cell KB.out 4
  go_region_held3 (fun w' => w'.cell? ⟨ga, 0, none⟩ = some (.int .i64 k) ∧ w'.cell? ⟨ga, 1, none⟩ = some (.int .i64 i) ∧ w'.cell? ⟨ga, 2, none⟩ = some (.float .f64 f) ∧ w'.cell? ⟨ga, 3, none⟩ = some (.string s) ∧ w'.cell? ⟨ga, 4, none⟩ = some (.slice A l.length c) ∧ w'.cell? ⟨gb, 0, none⟩ = some (.int .i64 k2) ∧ w'.cell? ⟨gb, 1, none⟩ = some (.int .i64 i2) ∧ w'.cell? ⟨gb, 2, none⟩ = some (.float .f64 f2) ∧ w'.cell? ⟨gb, 3, none⟩ = some (.string s2) ∧ w'.cell? ⟨gb, 4, none⟩ = some (.slice A2 l2.length c2)) (first | exact tenO (W := w2.drew) KA.out KB.out (below_step hb1 hb2) | exact tenO (W := w2.drew) KA.out KB.out hb1 | exact ⟨a0, a1, a2, a3, a4, b0, b1, b2, b3, b4⟩)
    (first
      | (go_at_call 31; have tok := hb1; refine (H31b.out _).mono ?_; clear tok; rintro e w4 ⟨rfl, hb2⟩)
      | (go_at_call 31; refine (H31.out _).mono ?_; rintro e w3 ⟨rfl, hb1⟩))
  have HB4 := Aside0.mk (below_step (below_step HB.out.drew hb1) hb2)
  have KA4 := Aside0.mk (blk_below (w := w2.drew) KA.out (below_step hb1 hb2))
  have KB4 := Aside0.mk (blk_below (w := w2.drew) KB.out (below_step hb1 hb2))
  have H31c := Aside0.mk H31.out
  (try clear hHeld)
  clear hb1 hb2 a0 a1 a2 a3 a4 b0 b1 b2 b3 b4 KA KB HB
  have hc1 : (K != K2) = false := by rw [HC0.out]; simp
  have a0 : w4.cell? ⟨ga, 0, none⟩ = some (.int .i64 k) := blk_cell KA4.out 0
  have a1 : w4.cell? ⟨ga, 1, none⟩ = some (.int .i64 i) := blk_cell KA4.out 1
  have a2 : w4.cell? ⟨ga, 2, none⟩ = some (.float .f64 f) := blk_cell KA4.out 2
  have a3 : w4.cell? ⟨ga, 3, none⟩ = some (.string s) := blk_cell KA4.out 3
  have a4 : w4.cell? ⟨ga, 4, none⟩ = some (.slice A l.length c) := blk_cell KA4.out 4
  have b0 : w4.cell? ⟨gb, 0, none⟩ = some (.int .i64 k2) := blk_cell KB4.out 0
  have b1 : w4.cell? ⟨gb, 1, none⟩ = some (.int .i64 i2) := blk_cell KB4.out 1
  have b2 : w4.cell? ⟨gb, 2, none⟩ = some (.float .f64 f2) := blk_cell KB4.out 2
  have b3 : w4.cell? ⟨gb, 3, none⟩ = some (.string s2) := blk_cell KB4.out 3
  have b4 : w4.cell? ⟨gb, 4, none⟩ = some (.slice A2 l2.length c2) := blk_cell KB4.out 4
  go_upto_region 4 with (first
    | (go_at_call 31; refine (H31c.out _).mono ?_; rintro e w6 ⟨rfl, hb⟩; have HB6 := Aside0.mk (below_step HB4.out hb); have KA6 := Aside0.mk (blk_below KA4.out hb); have KB6 := Aside0.mk (blk_below KB4.out hb); clear hb))
  clear a0 a1 a2 a3 a4 b0 b1 b2 b3 b4
  have a0 : w6.cell? ⟨ga, 0, none⟩ = some (.int .i64 k) := blk_cell KA6.out 0
  have a1 : w6.cell? ⟨ga, 1, none⟩ = some (.int .i64 i) := blk_cell KA6.out 1
  have a2 : w6.cell? ⟨ga, 2, none⟩ = some (.float .f64 f) := blk_cell KA6.out 2
  have a3 : w6.cell? ⟨ga, 3, none⟩ = some (.string s) := blk_cell KA6.out 3
  have a4 : w6.cell? ⟨ga, 4, none⟩ = some (.slice A l.length c) := blk_cell KA6.out 4
  have b0 : w6.cell? ⟨gb, 0, none⟩ = some (.int .i64 k2) := blk_cell KB6.out 0
  have b1 : w6.cell? ⟨gb, 1, none⟩ = some (.int .i64 i2) := blk_cell KB6.out 1
  have b2 : w6.cell? ⟨gb, 2, none⟩ = some (.float .f64 f2) := blk_cell KB6.out 2
  have b3 : w6.cell? ⟨gb, 3, none⟩ = some (.string s2) := blk_cell KB6.out 3
  have b4 : w6.cell? ⟨gb, 4, none⟩ = some (.slice A2 l2.length c2) := blk_cell KB6.out 4
  obtain rfl : K = 3 := HK.out.symm.trans hkn
  clear hkn
  go_wp2
  go_ret
  exact ⟨by rw [beq_toListBytes s s2]; rfl, HB6.out⟩

set_option maxHeartbeats 8000000 in
set_option maxRecDepth 100000 in
theorem equal13_4 (k i : Int) (f : Nat) (s : ByteArray) (l : List Val) (A : Option Addr) (c : Nat) (k2 i2 : Int) (f2 : Nat) (s2 : ByteArray) (l2 : List Val) (A2 : Option Addr) (c2 : Nat) (W : World) (ok ok2 : Nat → Prop)
    (hR : RV W ok (.mk k i f s l) #[.int .i64 k, .int .i64 i, .float .f64 f, .string s, .slice A l.length c]) (hR2 : RV W ok2 (.mk k2 i2 f2 s2 l2) #[.int .i64 k2, .int .i64 i2, .float .f64 f2, .string s2, .slice A2 l2.length c2]) (hc0 : kindV k = kindV k2) (hkn : kindV k = 4) (hE : ∀ (j : Nat) (hj : j < l.length), EqC l[j]) :
    Calls Tryz.prog 13 #[.agg #[.int .i64 k, .int .i64 i, .float .f64 f, .string s, .slice A l.length c], .agg #[.int .i64 k2, .int .i64 i2, .float .f64 f2, .string s2, .slice A2 l2.length c2]] W fun e w' => e = .returned (.bool (equals l l2)) ∧ Below W.heap.size W w' := by
  obtain ⟨F, hF⟩ : ∃ F, equals l l2 = F := ⟨_, rfl⟩
  have h35 := Aside0.mk (fun (W' : World) (hb : Below W.heap.size W W') => equal37 k i f s l k2 i2 f2 s2 l2 hE W' ok ok2 _ _ _ _ _ _ _ _ A A2 c c2 (hR.kept hb) (hR2.kept hb))
  rw [hF] at h35 ⊢
  clear hF hE
  have HR := Aside0.mk hR
  have HR2 := Aside0.mk hR2
  clear hR hR2
  obtain ⟨K, hK⟩ : ∃ K, kindV k = K := ⟨_, rfl⟩
  obtain ⟨K2, hK2⟩ : ∃ K2, kindV k2 = K2 := ⟨_, rfl⟩
  have h31 := fun W => kind31 k i f s A l.length c W
  have h31b := fun W => kind31 k2 i2 f2 s2 A2 l2.length c2 W
  rw [hK] at h31
  rw [hK2] at h31b
  have H31 := Aside0.mk h31
  have H31b := Aside0.mk h31b
  have HK := Aside0.mk hK
  have HK2 := Aside0.mk hK2
  clear h31 h31b
  rw [hK, hK2] at hc0
  have HC0 := Aside0.mk hc0
  clear hK hK2 hc0
  go_enter Tryz.func13, Tryz.ntmps13
  go_upto_region 1 with (first
    | ((with_reducible refine gate_dst (N := 2) rfl ?_); refine box_event ?hg (N := 2) ?hd (cs := #[.int .i64 k, .int .i64 i, .float .f64 f, .string s, .slice A l.length c]) (t := 25) ?hr ?_; (case hd => rfl); (case hg => rfl); (case hr => first | (go_simp; done) | (go_simp; rfl)); intro ga hg w1 hbox hb; have HB := Aside0.mk hb; have KA := Aside0.mk hbox; clear hg hbox hb)
    | ((with_reducible refine gate_dst (N := 3) rfl ?_); refine box_event ?hg (N := 3) ?hd (cs := #[.int .i64 k2, .int .i64 i2, .float .f64 f2, .string s2, .slice A2 l2.length c2]) (t := 25) ?hr ?_; (case hd => rfl); (case hg => rfl); (case hr => first | (go_simp; done) | (go_simp; rfl)); intro gb hg w2 hbox hb; have KA := Aside0.mk (blk_below KA.out hb); have KB := Aside0.mk hbox; have HB := Aside0.mk (below_step HB.out hb); clear hg hbox hb))
  have a0 : w2.cell? ⟨ga, 0, none⟩ = some (.int .i64 k) := blk_cell KA.out 0
  have a1 : w2.cell? ⟨ga, 1, none⟩ = some (.int .i64 i) := blk_cell KA.out 1
  have a2 : w2.cell? ⟨ga, 2, none⟩ = some (.float .f64 f) := blk_cell KA.out 2
  have a3 : w2.cell? ⟨ga, 3, none⟩ = some (.string s) := blk_cell KA.out 3
  have a4 : w2.cell? ⟨ga, 4, none⟩ = some (.slice A l.length c) := blk_cell KA.out 4
  have b0 : w2.cell? ⟨gb, 0, none⟩ = some (.int .i64 k2) := blk_cell KB.out 0
  have b1 : w2.cell? ⟨gb, 1, none⟩ = some (.int .i64 i2) := blk_cell KB.out 1
  have b2 : w2.cell? ⟨gb, 2, none⟩ = some (.float .f64 f2) := blk_cell KB.out 2
  have b3 : w2.cell? ⟨gb, 3, none⟩ = some (.string s2) := blk_cell KB.out 3
  have b4 : w2.cell? ⟨gb, 4, none⟩ = some (.slice A2 l2.length c2) := blk_cell KB.out 4
  go_region_held3 (fun w' => w'.cell? ⟨ga, 0, none⟩ = some (.int .i64 k) ∧ w'.cell? ⟨ga, 1, none⟩ = some (.int .i64 i) ∧ w'.cell? ⟨ga, 2, none⟩ = some (.float .f64 f) ∧ w'.cell? ⟨ga, 3, none⟩ = some (.string s) ∧ w'.cell? ⟨ga, 4, none⟩ = some (.slice A l.length c) ∧ w'.cell? ⟨gb, 0, none⟩ = some (.int .i64 k2) ∧ w'.cell? ⟨gb, 1, none⟩ = some (.int .i64 i2) ∧ w'.cell? ⟨gb, 2, none⟩ = some (.float .f64 f2) ∧ w'.cell? ⟨gb, 3, none⟩ = some (.string s2) ∧ w'.cell? ⟨gb, 4, none⟩ = some (.slice A2 l2.length c2)) (first | exact tenO (W := w2.drew) KA.out KB.out (below_step hb1 hb2) | exact tenO (W := w2.drew) KA.out KB.out hb1 | exact ⟨a0, a1, a2, a3, a4, b0, b1, b2, b3, b4⟩)
    (first
      | (go_at_call 31; have tok := hb1; refine (H31b.out _).mono ?_; clear tok; rintro e w4 ⟨rfl, hb2⟩)
      | (go_at_call 31; refine (H31.out _).mono ?_; rintro e w3 ⟨rfl, hb1⟩))
  have HB4 := Aside0.mk (below_step (below_step HB.out.drew hb1) hb2)
  have KA4 := Aside0.mk (blk_below (w := w2.drew) KA.out (below_step hb1 hb2))
  have KB4 := Aside0.mk (blk_below (w := w2.drew) KB.out (below_step hb1 hb2))
  have H31c := Aside0.mk H31.out
  (try clear hHeld)
  clear hb1 hb2 a0 a1 a2 a3 a4 b0 b1 b2 b3 b4 KA KB HB
  have hc1 : (K != K2) = false := by rw [HC0.out]; simp
  have a0 : w4.cell? ⟨ga, 0, none⟩ = some (.int .i64 k) := blk_cell KA4.out 0
  have a1 : w4.cell? ⟨ga, 1, none⟩ = some (.int .i64 i) := blk_cell KA4.out 1
  have a2 : w4.cell? ⟨ga, 2, none⟩ = some (.float .f64 f) := blk_cell KA4.out 2
  have a3 : w4.cell? ⟨ga, 3, none⟩ = some (.string s) := blk_cell KA4.out 3
  have a4 : w4.cell? ⟨ga, 4, none⟩ = some (.slice A l.length c) := blk_cell KA4.out 4
  have b0 : w4.cell? ⟨gb, 0, none⟩ = some (.int .i64 k2) := blk_cell KB4.out 0
  have b1 : w4.cell? ⟨gb, 1, none⟩ = some (.int .i64 i2) := blk_cell KB4.out 1
  have b2 : w4.cell? ⟨gb, 2, none⟩ = some (.float .f64 f2) := blk_cell KB4.out 2
  have b3 : w4.cell? ⟨gb, 3, none⟩ = some (.string s2) := blk_cell KB4.out 3
  have b4 : w4.cell? ⟨gb, 4, none⟩ = some (.slice A2 l2.length c2) := blk_cell KB4.out 4
  go_upto_region 4 with (first
    | (go_at_call 31; refine (H31c.out _).mono ?_; rintro e w6 ⟨rfl, hb⟩; have HB6 := Aside0.mk (below_step HB4.out hb); have KA6 := Aside0.mk (blk_below KA4.out hb); have KB6 := Aside0.mk (blk_below KB4.out hb); clear hb))
  clear a0 a1 a2 a3 a4 b0 b1 b2 b3 b4
  have a0 : w6.cell? ⟨ga, 0, none⟩ = some (.int .i64 k) := blk_cell KA6.out 0
  have a1 : w6.cell? ⟨ga, 1, none⟩ = some (.int .i64 i) := blk_cell KA6.out 1
  have a2 : w6.cell? ⟨ga, 2, none⟩ = some (.float .f64 f) := blk_cell KA6.out 2
  have a3 : w6.cell? ⟨ga, 3, none⟩ = some (.string s) := blk_cell KA6.out 3
  have a4 : w6.cell? ⟨ga, 4, none⟩ = some (.slice A l.length c) := blk_cell KA6.out 4
  have b0 : w6.cell? ⟨gb, 0, none⟩ = some (.int .i64 k2) := blk_cell KB6.out 0
  have b1 : w6.cell? ⟨gb, 1, none⟩ = some (.int .i64 i2) := blk_cell KB6.out 1
  have b2 : w6.cell? ⟨gb, 2, none⟩ = some (.float .f64 f2) := blk_cell KB6.out 2
  have b3 : w6.cell? ⟨gb, 3, none⟩ = some (.string s2) := blk_cell KB6.out 3
  have b4 : w6.cell? ⟨gb, 4, none⟩ = some (.slice A2 l2.length c2) := blk_cell KB6.out 4
  obtain rfl : K = 4 := HK.out.symm.trans hkn
  clear hkn
  go_wp2_with (go_at_call 37; refine (h35.out _ HB6.out).mono ?_; rintro e w7 ⟨rfl, hb⟩; have HB6 := Aside0.mk (below_step HB6.out hb); clear hb)
  go_ret
  exact ⟨rfl, HB6.out⟩

set_option maxHeartbeats 8000000 in
set_option maxRecDepth 100000 in
theorem equal13_0 (k i : Int) (f : Nat) (s : ByteArray) (l : List Val) (A : Option Addr) (c : Nat) (k2 i2 : Int) (f2 : Nat) (s2 : ByteArray) (l2 : List Val) (A2 : Option Addr) (c2 : Nat) (W : World) (ok ok2 : Nat → Prop)
    (hR : RV W ok (.mk k i f s l) #[.int .i64 k, .int .i64 i, .float .f64 f, .string s, .slice A l.length c]) (hR2 : RV W ok2 (.mk k2 i2 f2 s2 l2) #[.int .i64 k2, .int .i64 i2, .float .f64 f2, .string s2, .slice A2 l2.length c2]) (hc0 : kindV k = kindV k2) (hk1 : kindV k ≠ 1) (hk2 : kindV k ≠ 2) (hk3 : kindV k ≠ 3) (hk4 : kindV k ≠ 4) :
    Calls Tryz.prog 13 #[.agg #[.int .i64 k, .int .i64 i, .float .f64 f, .string s, .slice A l.length c], .agg #[.int .i64 k2, .int .i64 i2, .float .f64 f2, .string s2, .slice A2 l2.length c2]] W fun e w' => e = .returned (.bool (true)) ∧ Below W.heap.size W w' := by
  have HR := Aside0.mk hR
  have HR2 := Aside0.mk hR2
  clear hR hR2
  obtain ⟨K, hK⟩ : ∃ K, kindV k = K := ⟨_, rfl⟩
  obtain ⟨K2, hK2⟩ : ∃ K2, kindV k2 = K2 := ⟨_, rfl⟩
  have h31 := fun W => kind31 k i f s A l.length c W
  have h31b := fun W => kind31 k2 i2 f2 s2 A2 l2.length c2 W
  rw [hK] at h31
  rw [hK2] at h31b
  have H31 := Aside0.mk h31
  have H31b := Aside0.mk h31b
  have HK := Aside0.mk hK
  have HK2 := Aside0.mk hK2
  clear h31 h31b
  rw [hK, hK2] at hc0
  have HC0 := Aside0.mk hc0
  clear hK hK2 hc0
  go_enter Tryz.func13, Tryz.ntmps13
  go_upto_region 1 with (first
    | ((with_reducible refine gate_dst (N := 2) rfl ?_); refine box_event ?hg (N := 2) ?hd (cs := #[.int .i64 k, .int .i64 i, .float .f64 f, .string s, .slice A l.length c]) (t := 25) ?hr ?_; (case hd => rfl); (case hg => rfl); (case hr => first | (go_simp; done) | (go_simp; rfl)); intro ga hg w1 hbox hb; have HB := Aside0.mk hb; have KA := Aside0.mk hbox; clear hg hbox hb)
    | ((with_reducible refine gate_dst (N := 3) rfl ?_); refine box_event ?hg (N := 3) ?hd (cs := #[.int .i64 k2, .int .i64 i2, .float .f64 f2, .string s2, .slice A2 l2.length c2]) (t := 25) ?hr ?_; (case hd => rfl); (case hg => rfl); (case hr => first | (go_simp; done) | (go_simp; rfl)); intro gb hg w2 hbox hb; have KA := Aside0.mk (blk_below KA.out hb); have KB := Aside0.mk hbox; have HB := Aside0.mk (below_step HB.out hb); clear hg hbox hb))
  have a0 : w2.cell? ⟨ga, 0, none⟩ = some (.int .i64 k) := blk_cell KA.out 0
  have a1 : w2.cell? ⟨ga, 1, none⟩ = some (.int .i64 i) := blk_cell KA.out 1
  have a2 : w2.cell? ⟨ga, 2, none⟩ = some (.float .f64 f) := blk_cell KA.out 2
  have a3 : w2.cell? ⟨ga, 3, none⟩ = some (.string s) := blk_cell KA.out 3
  have a4 : w2.cell? ⟨ga, 4, none⟩ = some (.slice A l.length c) := blk_cell KA.out 4
  have b0 : w2.cell? ⟨gb, 0, none⟩ = some (.int .i64 k2) := blk_cell KB.out 0
  have b1 : w2.cell? ⟨gb, 1, none⟩ = some (.int .i64 i2) := blk_cell KB.out 1
  have b2 : w2.cell? ⟨gb, 2, none⟩ = some (.float .f64 f2) := blk_cell KB.out 2
  have b3 : w2.cell? ⟨gb, 3, none⟩ = some (.string s2) := blk_cell KB.out 3
  have b4 : w2.cell? ⟨gb, 4, none⟩ = some (.slice A2 l2.length c2) := blk_cell KB.out 4
  go_region_held3 (fun w' => w'.cell? ⟨ga, 0, none⟩ = some (.int .i64 k) ∧ w'.cell? ⟨ga, 1, none⟩ = some (.int .i64 i) ∧ w'.cell? ⟨ga, 2, none⟩ = some (.float .f64 f) ∧ w'.cell? ⟨ga, 3, none⟩ = some (.string s) ∧ w'.cell? ⟨ga, 4, none⟩ = some (.slice A l.length c) ∧ w'.cell? ⟨gb, 0, none⟩ = some (.int .i64 k2) ∧ w'.cell? ⟨gb, 1, none⟩ = some (.int .i64 i2) ∧ w'.cell? ⟨gb, 2, none⟩ = some (.float .f64 f2) ∧ w'.cell? ⟨gb, 3, none⟩ = some (.string s2) ∧ w'.cell? ⟨gb, 4, none⟩ = some (.slice A2 l2.length c2)) (first | exact tenO (W := w2.drew) KA.out KB.out (below_step hb1 hb2) | exact tenO (W := w2.drew) KA.out KB.out hb1 | exact ⟨a0, a1, a2, a3, a4, b0, b1, b2, b3, b4⟩)
    (first
      | (go_at_call 31; have tok := hb1; refine (H31b.out _).mono ?_; clear tok; rintro e w4 ⟨rfl, hb2⟩)
      | (go_at_call 31; refine (H31.out _).mono ?_; rintro e w3 ⟨rfl, hb1⟩))
  have HB4 := Aside0.mk (below_step (below_step HB.out.drew hb1) hb2)
  have KA4 := Aside0.mk (blk_below (w := w2.drew) KA.out (below_step hb1 hb2))
  have KB4 := Aside0.mk (blk_below (w := w2.drew) KB.out (below_step hb1 hb2))
  have H31c := Aside0.mk H31.out
  (try clear hHeld)
  clear hb1 hb2 a0 a1 a2 a3 a4 b0 b1 b2 b3 b4 KA KB HB
  have hc1 : (K != K2) = false := by rw [HC0.out]; simp
  have a0 : w4.cell? ⟨ga, 0, none⟩ = some (.int .i64 k) := blk_cell KA4.out 0
  have a1 : w4.cell? ⟨ga, 1, none⟩ = some (.int .i64 i) := blk_cell KA4.out 1
  have a2 : w4.cell? ⟨ga, 2, none⟩ = some (.float .f64 f) := blk_cell KA4.out 2
  have a3 : w4.cell? ⟨ga, 3, none⟩ = some (.string s) := blk_cell KA4.out 3
  have a4 : w4.cell? ⟨ga, 4, none⟩ = some (.slice A l.length c) := blk_cell KA4.out 4
  have b0 : w4.cell? ⟨gb, 0, none⟩ = some (.int .i64 k2) := blk_cell KB4.out 0
  have b1 : w4.cell? ⟨gb, 1, none⟩ = some (.int .i64 i2) := blk_cell KB4.out 1
  have b2 : w4.cell? ⟨gb, 2, none⟩ = some (.float .f64 f2) := blk_cell KB4.out 2
  have b3 : w4.cell? ⟨gb, 3, none⟩ = some (.string s2) := blk_cell KB4.out 3
  have b4 : w4.cell? ⟨gb, 4, none⟩ = some (.slice A2 l2.length c2) := blk_cell KB4.out 4
  go_upto_region 4 with (first
    | (go_at_call 31; refine (H31c.out _).mono ?_; rintro e w6 ⟨rfl, hb⟩; have HB6 := Aside0.mk (below_step HB4.out hb); have KA6 := Aside0.mk (blk_below KA4.out hb); have KB6 := Aside0.mk (blk_below KB4.out hb); clear hb))
  clear a0 a1 a2 a3 a4 b0 b1 b2 b3 b4
  have a0 : w6.cell? ⟨ga, 0, none⟩ = some (.int .i64 k) := blk_cell KA6.out 0
  have a1 : w6.cell? ⟨ga, 1, none⟩ = some (.int .i64 i) := blk_cell KA6.out 1
  have a2 : w6.cell? ⟨ga, 2, none⟩ = some (.float .f64 f) := blk_cell KA6.out 2
  have a3 : w6.cell? ⟨ga, 3, none⟩ = some (.string s) := blk_cell KA6.out 3
  have a4 : w6.cell? ⟨ga, 4, none⟩ = some (.slice A l.length c) := blk_cell KA6.out 4
  have b0 : w6.cell? ⟨gb, 0, none⟩ = some (.int .i64 k2) := blk_cell KB6.out 0
  have b1 : w6.cell? ⟨gb, 1, none⟩ = some (.int .i64 i2) := blk_cell KB6.out 1
  have b2 : w6.cell? ⟨gb, 2, none⟩ = some (.float .f64 f2) := blk_cell KB6.out 2
  have b3 : w6.cell? ⟨gb, 3, none⟩ = some (.string s2) := blk_cell KB6.out 3
  have b4 : w6.cell? ⟨gb, 4, none⟩ = some (.slice A2 l2.length c2) := blk_cell KB6.out 4
  have e1 : (K == 1) = false := beq_eq_false_iff_ne.2 (by rw [← HK.out]; exact hk1)
  have e2 : (K == 2) = false := beq_eq_false_iff_ne.2 (by rw [← HK.out]; exact hk2)
  have e3 : (K == 3) = false := beq_eq_false_iff_ne.2 (by rw [← HK.out]; exact hk3)
  have e4 : (K == 4) = false := beq_eq_false_iff_ne.2 (by rw [← HK.out]; exact hk4)
  clear hk1 hk2 hk3 hk4
  go_wp2
  go_ret
  exact ⟨rfl, HB6.out⟩
/-- Equal. -/
theorem equal13 (v : Val) : EqC v := by
  induction v using Val.ind with
  | h k i f s l ih =>
    intro W ok cs hR v2 ok2 cs2 hR2
    cases v2 with
    | mk k2 i2 f2 s2 l2 =>
      obtain ⟨A, c, rfl, _⟩ := hR.len
      obtain ⟨A2, c2, rfl, _⟩ := hR2.len
      unfold equalV
      by_cases h0 : kindV k = kindV k2
      · rw [if_pos h0]
        by_cases h1 : kindV k = 1
        · rw [if_pos h1]; exact equal13_1 k i f s l A c k2 i2 f2 s2 l2 A2 c2 W ok ok2 hR hR2 h0 h1
        · rw [if_neg h1]
          by_cases h2 : kindV k = 2
          · rw [if_pos h2]
            unfold eqF
            cases he : feq f f2
            · rw [if_neg (by decide)]
              cases hn : isNan f
              · rw [if_neg (by decide)]
                exact equal13_2b k i f s l A c k2 i2 f2 s2 l2 A2 c2 W ok ok2 hR hR2 h0 h2 he hn
              · rw [if_pos rfl]
                exact equal13_2c k i f s l A c k2 i2 f2 s2 l2 A2 c2 W ok ok2 hR hR2 h0 h2 he hn
            · rw [if_pos rfl]
              exact equal13_2a k i f s l A c k2 i2 f2 s2 l2 A2 c2 W ok ok2 hR hR2 h0 h2 he
          · rw [if_neg h2]
            by_cases h3 : kindV k = 3
            · rw [if_pos h3]; exact equal13_3 k i f s l A c k2 i2 f2 s2 l2 A2 c2 W ok ok2 hR hR2 h0 h3
            · rw [if_neg h3]
              by_cases h4 : kindV k = 4
              · rw [if_pos h4]; exact equal13_4 k i f s l A c k2 i2 f2 s2 l2 A2 c2 W ok ok2 hR hR2 h0 h4 ih
              · rw [if_neg h4]; exact equal13_0 k i f s l A c k2 i2 f2 s2 l2 A2 c2 W ok ok2 hR hR2 h0 h1 h2 h3 h4
      · rw [if_neg h0]; exact equal13_ne k i f s l A c k2 i2 f2 s2 l2 A2 c2 W ok ok2 hR hR2 h0
end Go.Proofs.YtejfmghjmhiodaaGreatDoor.Vz
