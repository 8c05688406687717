import Derived.Lib.PrintData
import Derived.Test.YtejfmghjmhiodaaGreatDoorVzFl9
import Derived.Test.YtejfmghjmhiodaaGreatDoorVzSize
namespace Go.Proofs.YtejfmghjmhiodaaGreatDoor.Vz
open Go.RowKit Go.Proofs.YtejfmghjmhiodaaGreatDoorW.PrintWords
set_option linter.unusedVariables false
set_option linter.unusedSimpArgs false
attribute [local go_sem] store_float

/-- What writing reads of the library's tables. -/
structure Tabs3 (W : World) : Prop where
  tabs : Tabs W
  pt : Lib.PrintTabsAt 8 9 10 11 Lib.goPrintTabs W
  ut : Lib.Utf8Tabs 6 7 W
theorem Tabs3.below {W W' : World} (h : Tabs3 W) (hb : Below W.heap.size W W') : Tabs3 W' := ⟨h.tabs.below hb, printTabs_below h.pt hb, Utf8Tabs_below h.ut hb⟩
theorem info9 : (Tryz.prog.info? 9).map (fun i => (i.zero, i.size, i.bytes)) = some (some (.string ⟨#[]⟩), 1, 16) := by kernel_rfl
def TxtC (v : Val) (t : ByteArray) : Prop := ∀ (W : World) (ok : Nat → Prop) (cs : Array Value), Tabs3 W → RV W ok v cs → Calls Tryz.prog 22 #[.agg cs] W fun e w' => e = .returned (.string t) ∧ Below W.heap.size W w'

set_option maxHeartbeats 8000000 in
set_option maxRecDepth 100000 in
theorem txt_int1 (f : Nat) (s : ByteArray) (l : List Val) : TxtC (.mk 1 1 f s l) ⟨#[49]⟩ := by
  intro W ok cs T hR
  obtain ⟨A, c, rfl, _⟩ := hR.len
  have c1 : ∀ w, Calls Tryz.prog 44 #[.int .i64 1, .int .i64 10] w (fun e w' => e = .returned (.string ⟨#[49]⟩) ∧ w' = w) := fun w => by
    have h := Tryz.strconv_FormatInt_10_small 1 (by decide) w
    rwa [show Lib.decDigits 1 = [49] by decide +kernel] at h
  clear hR T
  generalize l.length = n
  go_enter Tryz.func22, Tryz.ntmps22
  go_wp2_with (first
    | ((with_reducible refine gate_dst (N := 1) rfl ?_); refine box_event ?hg (N := 1) ?hd (cs := #[.int .i64 1, .int .i64 1, .float .f64 f, .string s, .slice A n c]) (t := 25) ?hr ?_; (case hd => rfl); (case hg => rfl); (case hr => first | (go_simp; done) | (go_simp; rfl)); intro gb hg w1 hbox hb; have HB := Aside0.mk hb; have KB := Aside0.mk hbox; have b0 : w1.cell? ⟨gb, 0, none⟩ = some (.int .i64 1) := blk_cell hbox 0; have b1 : w1.cell? ⟨gb, 1, none⟩ = some (.int .i64 1) := blk_cell hbox 1; clear hg hbox hb)
    | (go_at_call 44; refine (c1 _).mono ?_; rintro e w2 ⟨rfl, hw⟩; rw [hw]; clear hw w2))
  go_ret
  exact ⟨rfl, HB.out⟩

set_option maxHeartbeats 8000000 in
set_option maxRecDepth 100000 in
theorem txt_half (i : Int) (s : ByteArray) (l : List Val) : TxtC (.mk 2 i 4602678819172646912 s l) ⟨#[48, 46, 53]⟩ := by
  intro W ok cs T hR
  obtain ⟨A, c, rfl, _⟩ := hR.len
  have HT := Aside0.mk T
  clear hR T
  generalize l.length = n
  go_enter Tryz.func22, Tryz.ntmps22
  go_wp2_with (first
    | ((with_reducible refine gate_dst (N := 1) rfl ?_); refine box_event ?hg (N := 1) ?hd (cs := #[.int .i64 2, .int .i64 i, .float .f64 4602678819172646912, .string s, .slice A n c]) (t := 25) ?hr ?_; (case hd => rfl); (case hg => rfl); (case hr => first | (go_simp; done) | (go_simp; rfl)); intro gb hg w1 hbox hb; have HB := Aside0.mk hb; have KB := Aside0.mk hbox; have b0 : w1.cell? ⟨gb, 0, none⟩ = some (.int .i64 2) := blk_cell hbox 0; have b2 : w1.cell? ⟨gb, 2, none⟩ = some (.float .f64 4602678819172646912) := blk_cell hbox 2; clear hg hbox hb)
    | (go_at_call 45; refine (float_half _ (HT.out.tabs.below HB.out)).mono ?_; rintro e w2 ⟨rfl, hb⟩; have HB := Aside0.mk (below_step HB.out hb); clear hb))
  go_ret
  exact ⟨rfl, HB.out⟩

set_option maxHeartbeats 8000000 in
set_option maxRecDepth 100000 in
theorem txt_two (i : Int) (s : ByteArray) (l : List Val) : TxtC (.mk 2 i 4611686018427387904 s l) ⟨#[50, 46, 48]⟩ := by
  intro W ok cs T hR
  obtain ⟨A, c, rfl, _⟩ := hR.len
  have HT := Aside0.mk T
  clear hR T
  generalize l.length = n
  go_enter Tryz.func22, Tryz.ntmps22
  go_wp2_with (first
    | ((with_reducible refine gate_dst (N := 1) rfl ?_); refine box_event ?hg (N := 1) ?hd (cs := #[.int .i64 2, .int .i64 i, .float .f64 4611686018427387904, .string s, .slice A n c]) (t := 25) ?hr ?_; (case hd => rfl); (case hg => rfl); (case hr => first | (go_simp; done) | (go_simp; rfl)); intro gb hg w1 hbox hb; have HB := Aside0.mk hb; have KB := Aside0.mk hbox; have b0 : w1.cell? ⟨gb, 0, none⟩ = some (.int .i64 2) := blk_cell hbox 0; have b2 : w1.cell? ⟨gb, 2, none⟩ = some (.float .f64 4611686018427387904) := blk_cell hbox 2; clear hg hbox hb)
    | (go_at_call 45; refine (float_two _ (HT.out.tabs.below HB.out)).mono ?_; rintro e w2 ⟨rfl, hb⟩; have HB := Aside0.mk (below_step HB.out hb); clear hb))
  go_ret
  exact ⟨rfl, HB.out⟩

set_option maxHeartbeats 8000000 in
set_option maxRecDepth 100000 in
theorem txt_a (i : Int) (f : Nat) (l : List Val) : TxtC (.mk 3 i f ⟨#[97]⟩ l) ⟨#[34, 97, 34]⟩ := by
  intro W ok cs T hR
  obtain ⟨A, c, rfl, _⟩ := hR.len
  have HC := Aside0.mk (show ∀ w, Tabs3 w → Calls Tryz.prog 46 #[.string ⟨#[97]⟩] w (fun e w' => e = .returned (.string ⟨#[34, 97, 34]⟩) ∧ Below w.heap.size w w') from fun w T => by
    have h := Tryz.strconv_Quote Lib.goPrintTabs ⟨#[97]⟩ w (by decide) T.pt T.ut
    rwa [show strOfNums (Lib.quoteZ Lib.goPrintTabs ⟨#[97]⟩) = ⟨#[34, 97, 34]⟩ by decide +kernel] at h)
  have HT := Aside0.mk T
  clear hR T
  generalize l.length = n
  go_enter Tryz.func22, Tryz.ntmps22
  go_wp2_with (first
    | ((with_reducible refine gate_dst (N := 1) rfl ?_); refine box_event ?hg (N := 1) ?hd (cs := #[.int .i64 3, .int .i64 i, .float .f64 f, .string ⟨#[97]⟩, .slice A n c]) (t := 25) ?hr ?_; (case hd => rfl); (case hg => rfl); (case hr => first | (go_simp; done) | (go_simp; rfl)); intro gb hg w1 hbox hb; have HB := Aside0.mk hb; have KB := Aside0.mk hbox; have b0 : w1.cell? ⟨gb, 0, none⟩ = some (.int .i64 3) := blk_cell hbox 0; have b3 : w1.cell? ⟨gb, 3, none⟩ = some (.string ⟨#[97]⟩) := blk_cell hbox 3; clear hg hbox hb)
    | (go_at_call 46; refine (HC.out _ (HT.out.below HB.out)).mono ?_; rintro e w2 ⟨rfl, hb⟩; have HB := Aside0.mk (below_step HB.out hb); clear hb))
  go_ret
  exact ⟨rfl, HB.out⟩
end Go.Proofs.YtejfmghjmhiodaaGreatDoor.Vz
