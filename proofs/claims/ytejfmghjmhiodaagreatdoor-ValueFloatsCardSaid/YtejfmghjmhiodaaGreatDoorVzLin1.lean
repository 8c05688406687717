import Derived.Test.YtejfmghjmhiodaaGreatDoorVzOrd2
namespace Go.Proofs.YtejfmghjmhiodaaGreatDoor.Vz
open Go.RowKit Go.Proofs.YtejfmghjmhiodaaGreatDoorW.PrintWords
set_option linter.unusedVariables false
set_option linter.unusedSimpArgs false
attribute [local go_sem] store_float

/-- A comparator that tells a line. -/
structure Lin {α : Type} (c : α → α → Int) : Prop where
  anti : ∀ x y, c x y = - c y x
  t : ∀ x y z, c x y ≤ 0 → c y z ≤ 0 → c x z ≤ 0 ∧ (c x z = 0 → c x y = 0 ∧ c y z = 0)
  e : ∀ x y z, c x y = 0 → c y z = 0 → c x z = 0
def lex {α : Type} (c d : α → α → Int) (x y : α) : Int := if c x y = 0 then d x y else c x y
theorem lin_cmpI : Lin cmpI where
  anti x y := by unfold cmpI; split <;> split <;> omega
  t x y z := by unfold cmpI; split <;> split <;> split <;> (try split) <;> (try split) <;> (try split) <;> omega
  e x y z := by unfold cmpI; split <;> split <;> split <;> (try split) <;> (try split) <;> (try split) <;> omega
theorem Lin.comap {α β : Type} {c : β → β → Int} (h : Lin c) (f : α → β) : Lin (fun x y => c (f x) (f y)) := ⟨fun x y => h.anti _ _, fun x y z => h.t _ _ _, fun x y z => h.e _ _ _⟩
theorem Lin.lex {α : Type} {c d : α → α → Int} (hc : Lin c) (hd : Lin d) : Lin (lex c d) where
  anti x y := by
    unfold Vz.lex
    have h1 := hc.anti x y
    have h2 := hd.anti x y
    split <;> split <;> omega
  t x y z := by
    unfold Vz.lex
    have h1 := hc.t x y z
    have h2 := hd.t x y z
    have h3 := hc.e x y z
    have h4 := hd.e x y z
    split <;> split <;> split <;> intro ha hb <;> (try have h1' := h1 (by omega) (by omega)) <;> (try have h2' := h2 (by omega) (by omega)) <;> omega
  e x y z := by
    unfold Vz.lex
    have h3 := hc.e x y z
    have h4 := hd.e x y z
    split <;> split <;> split <;> intro ha hb <;> omega
theorem Lin.refl {α : Type} {c : α → α → Int} (h : Lin c) (x : α) : c x x = 0 := by have := h.anti x x; omega
end Go.Proofs.YtejfmghjmhiodaaGreatDoor.Vz
