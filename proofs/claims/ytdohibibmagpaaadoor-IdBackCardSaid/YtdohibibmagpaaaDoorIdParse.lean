import Derived.Test.YtdohibibmagpaaaDoorIdText
import Derived.Lib.ParseIntBCases
namespace Go.Proofs.YtdohibibmagpaaaDoor.IdNum
open Go.Shelf Go.RowKit Go.Sort Go.Lib Go.Proofs.YtdohibibmagpaaaDoorW.PrintWords
set_option linter.unusedVariables false
set_option linter.unusedSimpArgs false

/-- The world in which the result's variable still holds the zero id. -/
structure Res (w W : World) : Prop where
  ok : Ok W
  below : Below w.heap.size w W
  blk : W.heap[w.heap.size]? = some (.cells #[.int .u32 0, .int .u32 0, .int .u16 0] 25 (0, 0))
theorem Res.step {w W W' : World} (h : Res w W) (hb : Below W.heap.size W W') : Res w W' :=
  ⟨h.ok.below hb, h.below.trans (hb.mono (by have := blk_lt h.blk; omega)), blk_below h.blk hb⟩
theorem Res.first {w : World} (hw : Ok w) : Res w (w.alloc (.cells #[.int .u32 0, .int .u32 0, .int .u16 0] 25 (0, 0))) :=
  ⟨hw.below ((Below.refl _ _).alloc (Nat.le_refl _) _), (Below.refl _ _).alloc (Nat.le_refl _) _, blk_new _ _⟩

theorem toList_beq (a b : ByteArray) : (a.toList == b.toList) = decide (a = b) := by
  rw [ByteArray.toList_eq, ByteArray.toList_eq]
  by_cases h : a = b
  · subst h; simp
  · have : a.data.toList ≠ b.data.toList := fun e => h (ByteArray.ext (Array.toList_inj.1 e))
    rw [decide_eq_false h]; exact beq_eq_false_iff_ne.mpr this
theorem three_set {W : World} {g : Nat} {t : TypeId} {a b c : Value} (h : W.heap[g]? = some (.cells #[a, b, c] t (0, 0))) (x y z : Value) :
    (((W.setCell ⟨g, 0, none⟩ x).setCell ⟨g, 1, none⟩ y).setCell ⟨g, 2, none⟩ z).heap[g]? = some (.cells #[x, y, z] t (0, 0)) :=
  blk_set (blk_set (blk_set h 0 x) 1 y) 2 z
theorem Res.stored {w W : World} (hw : Ok w) (h : Res w W) {g : Nat} (hge : w.heap.size < g) (hbk : W.heap[g]? = some (.cells #[.int .u32 0, .int .u32 0, .int .u16 0] 25 (0, 0))) (x y z : Value) :
    Res w (((W.setCell ⟨g, 0, none⟩ x).setCell ⟨g, 1, none⟩ y).setCell ⟨g, 2, none⟩ z) ∧ (((W.setCell ⟨g, 0, none⟩ x).setCell ⟨g, 1, none⟩ y).setCell ⟨g, 2, none⟩ z).heap[g]? = some (.cells #[x, y, z] 25 (0, 0)) := by
  have hb : Below w.heap.size w (((W.setCell ⟨g, 0, none⟩ x).setCell ⟨g, 1, none⟩ y).setCell ⟨g, 2, none⟩ z) := ((h.below.setCell (by show _ ≤ g; omega) x).setCell (by show _ ≤ g; omega) y).setCell (by show _ ≤ g; omega) z
  have hne : w.heap.size ≠ g := by omega
  exact ⟨⟨hw.below hb, hb, blk_far (blk_far (blk_far h.blk hne _) hne _) hne _⟩, three_set hbk x y z⟩
theorem Res.put {w W : World} (h : Res w W) (x y z : Value) :
    Below w.heap.size w (((W.setCell ⟨w.heap.size, 0, none⟩ x).setCell ⟨w.heap.size, 1, none⟩ y).setCell ⟨w.heap.size, 2, none⟩ z) ∧ (((W.setCell ⟨w.heap.size, 0, none⟩ x).setCell ⟨w.heap.size, 1, none⟩ y).setCell ⟨w.heap.size, 2, none⟩ z).heap[w.heap.size]? = some (.cells #[x, y, z] 25 (0, 0)) :=
  ⟨((h.below.setCell (Nat.le_refl _) x).setCell (Nat.le_refl _) y).setCell (Nat.le_refl _) z, three_set h.blk x y z⟩
theorem Res.facts {w W : World} (h : Res w W) :
    W.cell? ⟨w.heap.size, 0, none⟩ = some (.int .u32 0) ∧ W.cell? ⟨w.heap.size, 1, none⟩ = some (.int .u32 0) ∧ W.cell? ⟨w.heap.size, 2, none⟩ = some (.int .u16 0) ∧
    W.frozen? ⟨w.heap.size, 0, none⟩ = false ∧ W.frozen? ⟨w.heap.size, 1, none⟩ = false ∧ W.frozen? ⟨w.heap.size, 2, none⟩ = false :=
  ⟨blk_cell h.blk 0, blk_cell h.blk 1, blk_cell h.blk 2, blk_frozen h.blk 0, blk_frozen h.blk 1, blk_frozen h.blk 2⟩
theorem three_cells {W : World} {g : Nat} {t : TypeId} {x y z : Value} (h : W.heap[g]? = some (.cells #[x, y, z] t (0, 0))) :
    W.cell? ⟨g, 0, none⟩ = some x ∧ W.cell? ⟨g, 1, none⟩ = some y ∧ W.cell? ⟨g, 2, none⟩ = some z := ⟨blk_cell h 0, blk_cell h 1, blk_cell h 2⟩

set_option maxHeartbeats 8000000 in
set_option maxRecDepth 100000 in
theorem parse8_walk (s cl rest sq ne ne' t : ByteArray) (b1 nested : Bool) (a b c : Nat) (oa ob oc : Bool) (ha : a < 4294967296) (hb : b < 4294967296) (hc : c < 65536)
    (hne : ne' = if nested then ne else ⟨#[48]⟩) (w : World) (hw : Ok w)
    (h16a : ∀ W, Ok W → Calls Tryd.prog 16 #[.string s, .string ⟨#[45]⟩] W fun e w' => e = .returned (.tuple #[.string cl, .string rest, .bool b1]) ∧ Below W.heap.size W w')
    (h16b : ∀ W, Ok W → Calls Tryd.prog 16 #[.string rest, .string ⟨#[46]⟩] W fun e w' => e = .returned (.tuple #[.string sq, .string ne, .bool nested]) ∧ Below W.heap.size W w')
    (h17a : ∀ W, Ok W → Calls Tryd.prog 17 #[.string cl, .int .i64 32] W fun e w' => e = .returned (.tuple #[.int .u64 (a : Int), .bool oa]) ∧ Below W.heap.size W w')
    (h17b : ∀ W, Ok W → Calls Tryd.prog 17 #[.string sq, .int .i64 32] W fun e w' => e = .returned (.tuple #[.int .u64 (b : Int), .bool ob]) ∧ Below W.heap.size W w')
    (h17c : ∀ W, Ok W → Calls Tryd.prog 17 #[.string ne', .int .i64 16] W fun e w' => e = .returned (.tuple #[.int .u64 (c : Int), .bool oc]) ∧ Below W.heap.size W w')
    (h7 : ∀ W, Ok W → Calls Tryd.prog 7 #[.agg #[.int .u32 (a : Int), .int .u32 (b : Int), .int .u16 (c : Int)]] W fun e w' => e = .returned (.string t) ∧ Below W.heap.size W w') :
    Calls Tryd.prog 8 #[.string s] w fun e w' => e = .returned (.tuple #[if (oa && ob && oc && decide (t = s)) = true then .agg #[.int .u32 (a : Int), .int .u32 (b : Int), .int .u16 (c : Int)] else .agg #[.int .u32 0, .int .u32 0, .int .u16 0], .bool (oa && ob && oc && decide (t = s))]) ∧ Below w.heap.size w w' := by
  have H0 := Aside0.mk (Res.first hw)
  have HW := Aside0.mk hw
  have wa : IntKind.u32.wrap (a : Int) = (a : Int) := by rw [IntKind.wrap_u32]; omega
  have wb : IntKind.u32.wrap (b : Int) = (b : Int) := by rw [IntKind.wrap_u32]; omega
  have wc : IntKind.u16.wrap (c : Int) = (c : Int) := by rw [IntKind.wrap_u16]; omega
  clear hw ha hb hc
  generalize hr : (oa && ob && oc && decide (t = s)) = r
  generalize hv : (if r = true then Value.agg #[.int .u32 (a : Int), .int .u32 (b : Int), .int .u16 (c : Int)] else .agg #[.int .u32 0, .int .u32 0, .int .u16 0]) = v
  have HR := Aside0.mk hr
  have HV := Aside0.mk hv
  clear hr hv
  cases nested <;> (
    first | rw [if_pos rfl] at hne | rw [if_neg (by simp)] at hne
    subst hne
    go_enter Tryd.func8, Tryd.ntmps8
    go_upto_region 9 with (first
      | (go_at_call_of 16 (Value.string ⟨#[45]⟩); refine (h16a _ ?_).mono ?_; exact H0.out.ok; rintro e W1 ⟨rfl, h1⟩; have H1 := Aside0.mk (H0.out.step h1); clear h1 H0)
      | (go_at_call_of 16 (Value.string ⟨#[46]⟩); refine (h16b _ ?_).mono ?_; exact H1.out.ok; rintro e W2 ⟨rfl, h2⟩; have H2 := Aside0.mk (H1.out.step h2); clear h2 H1)
      | (go_at_call_of 17 (Value.string cl); refine (h17a _ ?_).mono ?_; exact H2.out.ok; rintro e W3 ⟨rfl, h3⟩; have H3 := Aside0.mk (H2.out.step h3); clear h3 H2)
      | (go_at_call_of 17 (Value.string sq); refine (h17b _ ?_).mono ?_; exact H3.out.ok; rintro e W4 ⟨rfl, h4⟩; have H4 := Aside0.mk (H3.out.step h4); clear h4 H3)
      | (go_at_call_of 17 (Value.int .i64 16); refine (h17c _ ?_).mono ?_; exact H4.out.ok; rintro e W5 ⟨rfl, h5⟩; have H5 := Aside0.mk (H4.out.step h5); clear h5 H4)
      | ((with_reducible refine gate_dst (N := 16) rfl ?_); refine box_event ?hg (N := 16) ?hd (cs := #[.int .u32 0, .int .u32 0, .int .u16 0]) (t := 25) ?hr ?_; (case hd => rfl); (case hg => rfl); (case hr => first | (go_simp; done) | (go_simp; rfl)); intro g hg W6 hbox hb; have BK := Aside0.mk hbox; have H6 := Aside0.mk (H5.out.step hb); have q0 : W6.cell? ⟨g, 0, none⟩ = some (.int .u32 0) := blk_cell hbox 0; have q1 : W6.cell? ⟨g, 1, none⟩ = some (.int .u32 0) := blk_cell hbox 1; have q2 : W6.cell? ⟨g, 2, none⟩ = some (.int .u16 0) := blk_cell hbox 2; have f0 : W6.frozen? ⟨g, 0, none⟩ = false := blk_frozen hbox 0; have f1 : W6.frozen? ⟨g, 1, none⟩ = false := blk_frozen hbox 1; have f2 : W6.frozen? ⟨g, 2, none⟩ = false := blk_frozen hbox 2; have hge := Aside0.mk (show w.heap.size < g by rw [hg]; exact blk_lt H5.out.blk); clear hg hb hbox H5))
    obtain ⟨h7_, b7⟩ := Res.stored HW.out H6.out hge.out BK.out (.int .u32 (a : Int)) (.int .u32 (b : Int)) (.int .u16 (c : Int))
    clear H6 BK q0 q1 q2 f0 f1 f2
    generalize (((W6.setCell ⟨g, 0, none⟩ (.int .u32 (a : Int))).setCell ⟨g, 1, none⟩ (.int .u32 (b : Int))).setCell ⟨g, 2, none⟩ (.int .u16 (c : Int))) = W7 at h7_ b7 ⊢
    have H7 := Aside0.mk h7_
    have B7 := Aside0.mk b7
    obtain ⟨p0, p1, p2⟩ := three_cells b7
    obtain ⟨q0, q1, q2, f0, f1, f2⟩ := h7_.facts
    clear h7_ b7
    cases oa
    · go_wp2
      have HP := Aside0.mk (H7.out.put (.int .u32 0) (.int .u32 0) (.int .u16 0))
      refine bodyPost_ret (results_ct rfl _ _ w.heap.size 25 _ (0, 0) _ rfl HP.out.2 Tryd.underlying25 rfl (by kernel_rfl)) rfl ?_
      exact ⟨by have e1 := HR.out; have e2 := HV.out; simp only [Bool.false_and, Bool.and_false, Bool.true_and] at e1; subst e1; simp only [Bool.false_eq_true, if_false] at e2; subst e2; rfl, HP.out.1⟩
    cases ob
    · go_wp2
      have HP := Aside0.mk (H7.out.put (.int .u32 0) (.int .u32 0) (.int .u16 0))
      refine bodyPost_ret (results_ct rfl _ _ w.heap.size 25 _ (0, 0) _ rfl HP.out.2 Tryd.underlying25 rfl (by kernel_rfl)) rfl ?_
      exact ⟨by have e1 := HR.out; have e2 := HV.out; simp only [Bool.false_and, Bool.and_false, Bool.true_and] at e1; subst e1; simp only [Bool.false_eq_true, if_false] at e2; subst e2; rfl, HP.out.1⟩
    cases oc
    · go_wp2
      have HP := Aside0.mk (H7.out.put (.int .u32 0) (.int .u32 0) (.int .u16 0))
      refine bodyPost_ret (results_ct rfl _ _ w.heap.size 25 _ (0, 0) _ rfl HP.out.2 Tryd.underlying25 rfl (by kernel_rfl)) rfl ?_
      exact ⟨by have e1 := HR.out; have e2 := HV.out; simp only [Bool.false_and, Bool.and_false, Bool.true_and] at e1; subst e1; simp only [Bool.false_eq_true, if_false] at e2; subst e2; rfl, HP.out.1⟩
    by_cases ht : t = s
    · have ht1 : (t.toList == s.toList) = true := by rw [toList_beq]; exact decide_eq_true ht
      have HT := Aside0.mk ht
      clear ht
      go_wp2_with (go_at_call 7; refine (h7 _ H7.out.ok).mono ?_; rintro e W8 ⟨rfl, h8⟩; have H8 := Aside0.mk (H7.out.step h8); have B8 := Aside0.mk (blk_below B7.out h8); obtain ⟨p0, p1, p2⟩ := three_cells B8.out; obtain ⟨q0, q1, q2, f0, f1, f2⟩ := H8.out.facts; clear h8)
      have HP := Aside0.mk (H8.out.put (.int .u32 (a : Int)) (.int .u32 (b : Int)) (.int .u16 (c : Int)))
      refine bodyPost_ret (results_ct rfl _ _ w.heap.size 25 _ (0, 0) _ rfl HP.out.2 Tryd.underlying25 rfl (by kernel_rfl)) rfl ?_
      exact ⟨by have e1 := HR.out; have e2 := HV.out; rw [decide_eq_true HT.out] at e1; simp only [Bool.and_true] at e1; subst e1; simp only [if_true] at e2; subst e2; rfl, HP.out.1⟩
    · have ht1 : (t.toList == s.toList) = false := by rw [toList_beq]; exact decide_eq_false ht
      have HT := Aside0.mk ht
      clear ht
      go_wp2_with (go_at_call 7; refine (h7 _ H7.out.ok).mono ?_; rintro e W8 ⟨rfl, h8⟩; have H8 := Aside0.mk (H7.out.step h8); obtain ⟨q0, q1, q2, f0, f1, f2⟩ := H8.out.facts; clear h8)
      have HP := Aside0.mk (H8.out.put (.int .u32 0) (.int .u32 0) (.int .u16 0))
      refine bodyPost_ret (results_ct rfl _ _ w.heap.size 25 _ (0, 0) _ rfl HP.out.2 Tryd.underlying25 rfl (by kernel_rfl)) rfl ?_
      exact ⟨by have e1 := HR.out; have e2 := HV.out; rw [decide_eq_false HT.out] at e1; simp only [Bool.and_false] at e1; subst e1; simp only [Bool.false_eq_true, if_false] at e2; subst e2; rfl, HP.out.1⟩)

theorem num_lt (b : Nat) (s : List UInt8) : (num b s).1 < 2 ^ b := by
  have hp : 0 < 2 ^ b := Nat.two_pow_pos b
  unfold num
  rcases h : Lib.parseUintB b s with u | _ | _
  · have := Lib.parseUintB_le h; show u < _; omega
  · exact hp
  · show 2 ^ b - 1 < _; omega

/-- opid.Parse's three pieces. -/
def pieces (s : List UInt8) : List UInt8 × List UInt8 × List UInt8 :=
  ((Lib.cut s [45]).1, (Lib.cut (Lib.cut s [45]).2.1 [46]).1, if (Lib.cut (Lib.cut s [45]).2.1 [46]).2.2 = true then (Lib.cut (Lib.cut s [45]).2.1 [46]).2.1 else [48])
def parsed (s : List UInt8) : Nat × Nat × Nat := ((num 32 (pieces s).1).1, (num 32 (pieces s).2.1).1, (num 16 (pieces s).2.2).1)
def parseOk (s : List UInt8) : Bool :=
  (num 32 (pieces s).1).2 && (num 32 (pieces s).2.1).2 && (num 16 (pieces s).2.2).2 && decide (textL (parsed s).1 (parsed s).2.1 (parsed s).2.2 = s)

theorem cut_le (s sep : List UInt8) : (Lib.cut s sep).1.length ≤ s.length ∧ (Lib.cut s sep).2.1.length ≤ s.length := by
  unfold Lib.cut
  split
  · constructor
    · simp only [List.length_take]; omega
    · simp only [List.length_drop]; omega
  · exact ⟨Nat.le_refl _, Nat.zero_le _⟩

theorem cut16 (s sep : List UInt8) (hs : s.length < 4294967281) (W : World) (hW : Ok W) :
    Calls Tryd.prog 16 #[.string (str s), .string ⟨sep.toArray⟩] W fun e w' => e = .returned (.tuple #[.string (str (Lib.cut s sep).1), .string (str (Lib.cut s sep).2.1), .bool (Lib.cut s sep).2.2]) ∧ Below W.heap.size W w' := by
  refine (Tryd.strings_Cut_shaped (str s) ⟨sep.toArray⟩ W hW.shaped (by simpa [str, ByteArray.size] using hs)).mono ?_
  rintro e w' ⟨rfl, n, rfl⟩
  exact ⟨rfl, ⟨rfl, rfl, rfl, Nat.le_refl _, fun _ _ => rfl⟩⟩

theorem num17 (b : Nat) (hb : b = 32 ∨ b = 16) (s : List UInt8) (hs : s.length < 4294967281) (W : World) (hW : Ok W) :
    Calls Tryd.prog 17 #[.string (str s), .int .i64 (b : Int)] W fun e w' => e = .returned (.tuple #[.int .u64 ((num b s).1 : Int), .bool (num b s).2]) ∧ Below W.heap.size W w' :=
  number17 b hb (str s) (by have : (str s).size = s.length := by simp [str, ByteArray.size]
                            omega) W hW

theorem str_inj {a b : List UInt8} : str a = str b ↔ a = b := ⟨fun h => by have := congrArg (fun x => x.data.toList) h; simpa [str] using this, fun h => h ▸ rfl⟩

theorem parse8 (s : List UInt8) (hs : s.length < 4294967281) (w : World) (hw : Ok w) :
    Calls Tryd.prog 8 #[.string (str s)] w fun e w' => e = .returned (.tuple #[if parseOk s = true then .agg #[.int .u32 ((parsed s).1 : Int), .int .u32 ((parsed s).2.1 : Int), .int .u16 ((parsed s).2.2 : Int)] else .agg #[.int .u32 0, .int .u32 0, .int .u16 0], .bool (parseOk s)]) ∧ Below w.heap.size w w' := by
  have l1 := (cut_le s [45])
  have l2 := (cut_le (Lib.cut s [45]).2.1 [46])
  have l3 : (pieces s).2.2.length < 4294967281 := by
    unfold pieces
    dsimp only
    split
    · omega
    · decide
  have ha : (parsed s).1 < 4294967296 := num_lt 32 _
  have hb : (parsed s).2.1 < 4294967296 := num_lt 32 _
  have hc : (parsed s).2.2 < 65536 := num_lt 16 _
  refine (parse8_walk (str s) (str (pieces s).1) (str (Lib.cut s [45]).2.1) (str (pieces s).2.1) (str (Lib.cut (Lib.cut s [45]).2.1 [46]).2.1) (str (pieces s).2.2) (str (textL (parsed s).1 (parsed s).2.1 (parsed s).2.2)) _ _ (parsed s).1 (parsed s).2.1 (parsed s).2.2 _ _ _ ha hb hc ?_ w hw
    (fun W hW => cut16 s [45] hs W hW) (fun W hW => cut16 _ [46] (by omega) W hW) (fun W hW => num17 32 (.inl rfl) _ (by show (Lib.cut s [45]).1.length < _; omega) W hW) (fun W hW => num17 32 (.inl rfl) _ (by show (Lib.cut (Lib.cut s [45]).2.1 [46]).1.length < _; omega) W hW) (fun W hW => num17 16 (.inr rfl) _ l3 W hW) (fun W hW => text7 _ _ _ ha hb hc W hW)).mono ?_
  · unfold pieces
    dsimp only
    split <;> rfl
  · rintro e w' ⟨rfl, hB⟩
    have e1 : decide (str (textL (parsed s).1 (parsed s).2.1 (parsed s).2.2) = str s) = decide (textL (parsed s).1 (parsed s).2.1 (parsed s).2.2 = s) := decide_eq_decide.2 str_inj
    rw [e1]
    exact ⟨rfl, hB⟩

theorem known_text : textL 7 3 1 = [55, 45, 51, 46, 49] := by
  unfold textL
  rw [Lib.decDigits_one (by omega), Lib.decDigits_one (by omega), Lib.decDigits_one (by omega)]
  rfl
theorem known_parsed : parsed [55, 45, 51, 46, 49] = (7, 3, 1) := by kernel_rfl
theorem known_ok : parseOk [55, 45, 51, 46, 49] = true := by
  unfold parseOk
  rw [known_parsed]
  show (_ && decide (textL 7 3 1 = _)) = true
  rw [known_text]
  kernel_rfl
end Go.Proofs.YtdohibibmagpaaaDoor.IdNum
