import Derived.Test.YtejfmghjmhiodaaGreatDoorRows
import Derived.ProofKit
import Derived.SizedLaws
import Derived.HandedShaped
import Derived.LaidLaws
import Derived.MakeChecks
import Derived.LaidMore
import Derived.Stop.LaidErr
import Derived.Lib.LaidTab
import Derived.Lib.LaidPrint
import Derived.Lay
import Derived.Lib.LaidU8T
import Derived.Test.YtejfmghjmhiodaaGreatDoorVzTxt1
namespace Go.Proofs.YtejfmghjmhiodaaGreatDoor.VzRow
open Go.ChangeShapes Go.WideShapes Go.ChangeAt Go.RowKit
set_option linter.unusedVariables false

/-- The plain row's builder: a condition beside the row, and the world's shape. -/
theorem returns_and_shaped {H : Type} {enc : TypeId × Value → H} {a : Assume} {C : Checked} {os : Os} {f : FuncId} {fn : Func} {s : ChangeSpec} {conds : List PathCond} {apart fresh handsOn again : Bool} {X : World → Array Value → Prop}
    (hX : ∀ (w w' : World) (args : Array Value), w.heap = w'.heap → X w args → X w' args)
    (own : ownKnob C.prog.godebug = none) (started : os.Started) (noInit : C.prog.inits.idxOf? f = none) (hfn : C.prog.funcs[f]? = some fn)
    (witness : ∃ (w : World) (tape : Tape) (i : Input), w.os = os ∧ (w.forCall tape i).Shaped C.prog ∧ i.vars = [] ∧ Input.okWide C.prog (w.forCall tape i) .any w.heap.size f i ∧
      ((s.pre enc C.prog fn conds apart (w.forCall tape i).memory i.args ∧ X (w.forCall tape i).memory i.args) ∧ sizedMet enc C.prog fn (OpenSpec.ofChange s) apart (w.forCall tape i).memory i.args) ∧ a.holds C.prog (lone (Frame.enter C.prog f i.args .normal) [] (w.forCall tape i)))
    (contract : ∀ (W : World) (base : Nat) (args : Array Value) (ds gs : List (DataW H)) (before : List MemPlace),
      (∀ (j : Nat) t v, fn.params[j]? = some t → args[j]? = some v → Value.okWide C.prog W .any base t v) →
      DataW.Whole enc C.prog fn.params.toList s.vars apart W args.toList ds gs before →
      X W args → W.ShapedOpen C.prog → (DataW.weightsEach C.prog (fn.params.toList ++ s.plain.varTypes C.prog) (ds ++ gs)).all (· ≤ reachBytes) = true →
      Calls C.prog f args W fun e W' => ∃ v, e = .returned v ∧ s.post enc C.prog fn apart fresh handsOn again W args v W') :
    ReturnsInHanded a C os f .any (fun w args => (s.pre enc C.prog fn conds apart w args ∧ X w args) ∧ sizedMet enc C.prog fn (OpenSpec.ofChange s) apart w args) (s.post enc C.prog fn apart fresh handsOn again) := by
  refine returnsInHanded_of_calls own started noInit witness ?_
  intro w tape i _ hsh _ hok hpre _
  obtain ⟨_, _, _, fn', hfn', _, _, _, _, hval⟩ := hok
  have e : fn' = fn := Option.some.inj (hfn'.symm.trans hfn)
  subst e
  obtain ⟨⟨⟨ds, gs, before, hw, _⟩, hx⟩, hz⟩ := hpre
  have hw' := DataW.Whole.of_heap (w' := w.forCall tape i) (by rfl) hw
  refine (contract (w.forCall tape i) w.heap.size i.args ds gs before hval hw' (hX _ _ _ (by rfl) hx) hsh (hz.weights hw)).mono fun e W' ⟨v, he, hp⟩ => ?_
  subst he
  exact ChangeSpec.post_blind hp

def laid5 : List (String × DataW Unit) := [("math/bits.deBruijn32tab", Rows.laid_math_bits_deBruijn32tab), ("math/bits.deBruijn64tab", Rows.laid_math_bits_deBruijn64tab), ("internal/strconv.optimize", Rows.laid_internal_strconv_optimize), ("internal/strconv.uint64pow10", Rows.laid_internal_strconv_uint64pow10), ("unicode/utf8.acceptRanges", Rows.laid_unicode_utf8_acceptRanges), ("internal/strconv.leftcheats", Rows.laid_internal_strconv_leftcheats), ("internal/strconv.pow10Tab", Rows.laid_internal_strconv_pow10Tab), ("strconv.isGraphic", Rows.laid_strconv_isGraphic), ("strconv.isNotPrint16", Rows.laid_strconv_isNotPrint16), ("strconv.isNotPrint32", Rows.laid_strconv_isNotPrint32), ("strconv.isPrint16", Rows.laid_strconv_isPrint16), ("strconv.isPrint32", Rows.laid_strconv_isPrint32), ("unicode/utf8.first", Rows.laid_unicode_utf8_first)]

theorem own : ownKnob Tryz.prog.godebug = none := by kernel_rfl
theorem printExtra : PrintExtra Tryz.prog Tryz.lays339_ren := {
  n20 := by kernel_rfl
  n21 := by kernel_rfl
  n22 := by kernel_rfl
  n23 := by kernel_rfl
  y20 := by kernel_rfl
  y21 := by kernel_rfl
  y22 := by kernel_rfl
  y23 := by kernel_rfl
  c49 := by kernel_rfl
  c51 := by kernel_rfl }
theorem u8Extra : U8Extra Tryz.prog Tryz.lays260_ren := {
  n3 := by kernel_rfl
  n4 := by kernel_rfl
  y3 := by kernel_rfl
  y4 := by kernel_rfl
  c5 := by kernel_rfl
  c119 := by kernel_rfl
  c138 := by kernel_rfl }
theorem p16 : Rows.laid_strconv_isPrint16 = Go.Lib.sliceData .u16 Go.Lib.goPrintTabs.p16 := by kernel_rfl
theorem n16 : Rows.laid_strconv_isNotPrint16 = Go.Lib.sliceData .u16 Go.Lib.goPrintTabs.n16 := by kernel_rfl
theorem p32 : Rows.laid_strconv_isPrint32 = Go.Lib.sliceData .u32 Go.Lib.goPrintTabs.p32 := by kernel_rfl
theorem n32 : Rows.laid_strconv_isNotPrint32 = Go.Lib.sliceData .u16 Go.Lib.goPrintTabs.n32 := by kernel_rfl
theorem u8f : Rows.laid_unicode_utf8_first = Go.Lib.firstData := by kernel_rfl
theorem u8a : (Rows.laid_unicode_utf8_acceptRanges : DataW Unit) = Go.Lib.acceptData := by kernel_rfl
theorem p10 : (Rows.laid_internal_strconv_uint64pow10 : DataW Unit) = Go.Lib.tabData .u64 Go.Lib.pow10Tab := by kernel_rfl
theorem und155 : ∃ n1 n2 : Field, Tryz.prog.underlying 155 = some (.struct #[n1, n2]) ∧ (n1.type = 32 ∧ n1.offset = 0) ∧ (n2.type = 32 ∧ n2.offset = 1) := ⟨_, _, Tryz.underlying155, ⟨rfl, rfl⟩, ⟨rfl, rfl⟩⟩

theorem rowCells {W : World} (h : Go.Lib.VarReads Tryz.prog W "internal/strconv.pow10Tab" Go.Pinned.pow10Tab) (i hi lo : Nat) (hl : i < 696) (he : (Go.Pinned.pow10Rows.map fun x => (DataW.agg [.lit (.int .u64 x.1), .lit (.int .u64 x.2)] : DataW Unit))[i]? = some (.agg [.lit (.int .u64 hi), .lit (.int .u64 lo)])) :
    W.cell? ⟨13, 2 * i, none⟩ = some (.int .u64 (hi : Int)) ∧ W.cell? ⟨13, 2 * i + 1, none⟩ = some (.int .u64 (lo : Int)) := by
  obtain ⟨g, t, cs, fuel, p, hg, hty, hvar, hd⟩ := h
  obtain rfl : g = 13 := Option.some.inj (hg.symm.trans (by kernel_rfl))
  obtain rfl : t = 156 := Option.some.inj (hty.symm.trans (by kernel_rfl))
  obtain ⟨fuel', d, q, hdi, hx⟩ := Go.Lib.array_elem Tryz.underlying156 hd i hl
  rw [he] at hdi
  obtain rfl := Option.some.inj hdi
  have c155 : Tryz.prog.cellsOf 155 = 2 := by kernel_rfl
  rw [c155] at hx
  obtain ⟨n1, n2, hu, ⟨ht1, ho1⟩, ht2, ho2⟩ := und155
  have hcs := Go.Lib.ints_of_struct (k := .u64) (zs := [(hi : Int), (lo : Int)]) hu (fun j f hj => by
    match j, hj with
    | 0, hj => simp at hj; subst hj; rw [ht1, ho1]; exact ⟨Tryz.underlying32, rfl, by kernel_rfl⟩
    | 1, hj => simp at hj; subst hj; rw [ht2, ho2]; exact ⟨Tryz.underlying32, rfl, by kernel_rfl⟩
    | j + 2, hj => simp at hj) (by rw [c155]; rfl) hx
  have e0 := congrArg (·[0]?) hcs
  have e1 := congrArg (·[1]?) hcs
  simp only [List.getElem?_take, List.getElem?_drop] at e0 e1
  constructor
  · rw [World.var?_cell hg hvar (2 * i), ← Array.getElem?_toList]
    simpa [Nat.mul_comm] using e0
  · rw [World.var?_cell hg hvar (2 * i + 1), ← Array.getElem?_toList]
    simpa [Nat.mul_comm] using e1
set_option maxRecDepth 100000 in
/-- What the listed variables give. -/
theorem ok_of_laid {W : World} (h : laidMetH Tryz.prog laid5 W) (hsh : W.ShapedOpen Tryz.prog) : Vz.Tabs3 W := by
  rw [MakeChecks.laidMetH_plain _ _ _ (by kernel_rfl)] at h
  have r1 := (Go.Lib.laidMet.reads h (n := "internal/strconv.pow10Tab") (d := Rows.laid_internal_strconv_pow10Tab) (by exact List.Mem.tail _ (List.Mem.tail _ (List.Mem.tail _ (List.Mem.tail _ (List.Mem.tail _ (List.Mem.tail _ (List.Mem.head _))))))))
  have a := rowCells r1 364 10240000000000000000 0 (by decide) (by kernel_rfl)
  have b := rowCells r1 365 12800000000000000000 0 (by decide) (by kernel_rfl)
  have r2 := (Go.Lib.laidMet.reads h (n := "internal/strconv.uint64pow10") (d := Rows.laid_internal_strconv_uint64pow10) (by exact List.Mem.tail _ (List.Mem.tail _ (List.Mem.tail _ (List.Mem.head _)))))
  rw [p10] at r2
  have r3 := (Go.Lib.laidMet.reads h (n := "strconv.isPrint16") (d := Rows.laid_strconv_isPrint16) (by exact List.Mem.tail _ (List.Mem.tail _ (List.Mem.tail _ (List.Mem.tail _ (List.Mem.tail _ (List.Mem.tail _ (List.Mem.tail _ (List.Mem.tail _ (List.Mem.tail _ (List.Mem.tail _ (List.Mem.head _))))))))))))
  rw [p16] at r3
  have r4 := (Go.Lib.laidMet.reads h (n := "strconv.isNotPrint16") (d := Rows.laid_strconv_isNotPrint16) (by exact List.Mem.tail _ (List.Mem.tail _ (List.Mem.tail _ (List.Mem.tail _ (List.Mem.tail _ (List.Mem.tail _ (List.Mem.tail _ (List.Mem.tail _ (List.Mem.head _))))))))))
  rw [n16] at r4
  have r5 := (Go.Lib.laidMet.reads h (n := "strconv.isPrint32") (d := Rows.laid_strconv_isPrint32) (by exact List.Mem.tail _ (List.Mem.tail _ (List.Mem.tail _ (List.Mem.tail _ (List.Mem.tail _ (List.Mem.tail _ (List.Mem.tail _ (List.Mem.tail _ (List.Mem.tail _ (List.Mem.tail _ (List.Mem.tail _ (List.Mem.head _)))))))))))))
  rw [p32] at r5
  have r6 := (Go.Lib.laidMet.reads h (n := "strconv.isNotPrint32") (d := Rows.laid_strconv_isNotPrint32) (by exact List.Mem.tail _ (List.Mem.tail _ (List.Mem.tail _ (List.Mem.tail _ (List.Mem.tail _ (List.Mem.tail _ (List.Mem.tail _ (List.Mem.tail _ (List.Mem.tail _ (List.Mem.head _)))))))))))
  rw [n32] at r6
  have r7 := (Go.Lib.laidMet.reads h (n := "unicode/utf8.first") (d := Rows.laid_unicode_utf8_first) (by exact List.Mem.tail _ (List.Mem.tail _ (List.Mem.tail _ (List.Mem.tail _ (List.Mem.tail _ (List.Mem.tail _ (List.Mem.tail _ (List.Mem.tail _ (List.Mem.tail _ (List.Mem.tail _ (List.Mem.tail _ (List.Mem.tail _ (List.Mem.head _))))))))))))))
  rw [u8f] at r7
  have r8 := (Go.Lib.laidMet.reads h (n := "unicode/utf8.acceptRanges") (d := Rows.laid_unicode_utf8_acceptRanges) (by exact List.Mem.tail _ (List.Mem.tail _ (List.Mem.tail _ (List.Mem.tail _ (List.Mem.head _))))))
  rw [u8a] at r8
  have ht : Go.Lib.TabIs Tryz.prog W "internal/strconv.uint64pow10" .u64 Go.Lib.pow10Tab := by
    obtain ⟨g, t, cs, fuel, p, hg, hty, hvar, hd⟩ := r2
    obtain rfl : g = 2 := Option.some.inj (hg.symm.trans (by kernel_rfl))
    obtain rfl : t = 96 := Option.some.inj (hty.symm.trans (by kernel_rfl))
    have hcs := Go.Lib.cells_of_tab (n := 20) Tryz.underlying96 Tryz.underlying32 (by kernel_rfl) (by kernel_rfl) hd
    unfold Go.Lib.TabIs
    rw [hvar, ← hcs]
  exact ⟨⟨a.1, a.2, b.1, b.2, ht⟩, printTabs_of_reads Tryz.lays339 printExtra r3 r4 r5 r6, utf8Tabs_of_readsT (U8Types.of260 Tryz.lays260) u8Extra r7 r8⟩

/-- The listed variables laid. -/
theorem door_met (os : Os) (args : Array Value) : laidMetH Tryz.prog laid5 ((World.laidAll Tryz.prog os laid5).forCall (fun _ _ => 0) ⟨#[], args, []⟩).memory := by
  rw [MakeChecks.laidMetH_plain _ _ _ (by kernel_rfl)]; exact laidMet_laidAll _ (by kernel_rfl) (by kernel_rfl)
end Go.Proofs.YtejfmghjmhiodaaGreatDoor.VzRow
