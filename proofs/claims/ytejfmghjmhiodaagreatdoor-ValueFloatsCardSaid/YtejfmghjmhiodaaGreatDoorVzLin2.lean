import Derived.Lib.Bytealg
import Derived.Test.YtejfmghjmhiodaaGreatDoorVzLin1
namespace Go.Proofs.YtejfmghjmhiodaaGreatDoor.Vz
open Go.RowKit Go.Proofs.YtejfmghjmhiodaaGreatDoorW.PrintWords
set_option linter.unusedVariables false
set_option linter.unusedSimpArgs false
attribute [local go_sem] store_float

structure LinAt {α : Type} (c : α → α → Int) (x : α) : Prop where
  anti : ∀ y, c x y = - c y x
  t : ∀ y z, c x y ≤ 0 → c y z ≤ 0 → c x z ≤ 0 ∧ (c x z = 0 → c x y = 0 ∧ c y z = 0)
  e : ∀ y z, c x y = 0 → c y z = 0 → c x z = 0
theorem Lin.at {α : Type} {c : α → α → Int} (h : Lin c) (x : α) : LinAt c x := ⟨h.anti x, h.t x, h.e x⟩
theorem lin_of_at {α : Type} {c : α → α → Int} (h : ∀ x, LinAt c x) : Lin c := ⟨fun x => (h x).anti, fun x => (h x).t, fun x => (h x).e⟩
def listc {α : Type} (c : α → α → Int) : List α → List α → Int
  | [], [] => 0
  | [], _ :: _ => -1
  | _ :: _, [] => 1
  | x :: r, y :: t => if c x y = 0 then listc c r t else c x y
theorem linAt_list {α : Type} {c : α → α → Int} (l : List α) (h : ∀ x ∈ l, LinAt c x) : LinAt (listc c) l := by
  induction l with
  | nil =>
    refine ⟨fun y => ?_, fun y z => ?_, fun y z => ?_⟩
    · cases y <;> simp [listc]
    · cases y <;> cases z <;> simp [listc]
    · cases y <;> cases z <;> simp [listc]
  | cons x r ih =>
    have hx := h x (by simp)
    have hr := ih (fun y hy => h y (by simp [hy]))
    refine ⟨fun y => ?_, fun y z => ?_, fun y z => ?_⟩
    · cases y with
      | nil => simp [listc]
      | cons y t =>
        have h1 := hx.anti y
        have h2 := hr.anti t
        simp only [listc]
        split <;> split <;> omega
    · cases y with
      | nil => simp [listc]
      | cons y t =>
        cases z with
        | nil => simp [listc]
        | cons z u =>
          have h1 := hx.t y z
          have h2 := hr.t t u
          have h3 := hx.e y z
          simp only [listc]
          split <;> split <;> split <;> intro ha hb <;> (try have h1' := h1 (by omega) (by omega)) <;> (try have h2' := h2 (by omega) (by omega)) <;> omega
    · cases y with
      | nil => simp [listc]
      | cons y t =>
        cases z with
        | nil => simp [listc]
        | cons z u =>
          have h3 := hx.e y z
          have h4 := hr.e t u
          simp only [listc]
          split <;> split <;> split <;> intro ha hb <;> omega
theorem LinAt.lex {α : Type} {c d : α → α → Int} {x : α} (hc : Lin c) (ha : ∀ y, c x y = 0 → d x y = - d y x) (ht : ∀ y z, c x y = 0 → c y z = 0 → d x y ≤ 0 → d y z ≤ 0 → d x z ≤ 0 ∧ (d x z = 0 → d x y = 0 ∧ d y z = 0))
    (he : ∀ y z, c x y = 0 → c y z = 0 → d x y = 0 → d y z = 0 → d x z = 0) : LinAt (lex c d) x where
  anti y := by
    unfold Vz.lex
    have h1 := hc.anti x y
    have h2 := ha y
    split <;> split <;> omega
  t y z := by
    unfold Vz.lex
    have h1 := hc.t x y z
    have h2 := ht y z
    have h3 := hc.e x y z
    split <;> split <;> split <;> intro ha' hb <;> (try have h1' := h1 (by omega) (by omega)) <;> (try have h2' := h2 (by omega) (by omega) (by omega) (by omega)) <;> omega
  e y z := by
    unfold Vz.lex
    have h3 := hc.e x y z
    have h4 := he y z
    split <;> split <;> split <;> intro ha' hb <;> omega
theorem bytes_list (a b : List UInt8) : Lib.compareBytes a b = listc (fun x y : UInt8 => cmpI x.toNat y.toNat) a b := by
  induction a generalizing b with
  | nil => cases b <;> rfl
  | cons x r ih =>
    cases b with
    | nil => rfl
    | cons y t =>
      show (if x < y then -1 else if y < x then 1 else Lib.compareBytes r t) = if cmpI x.toNat y.toNat = 0 then listc (fun x y : UInt8 => cmpI x.toNat y.toNat) r t else cmpI x.toNat y.toNat
      rw [ih]
      by_cases h1 : x.toNat < y.toNat
      · have e : cmpI (x.toNat : Int) (y.toNat : Int) = -1 := by unfold cmpI; rw [if_pos (by omega)]
        rw [if_pos (UInt8.lt_iff_toNat_lt.2 h1), e, if_neg (by decide)]
      · by_cases h2 : y.toNat < x.toNat
        · have e : cmpI (x.toNat : Int) (y.toNat : Int) = 1 := by unfold cmpI; rw [if_neg (by omega), if_pos (by omega)]
          rw [if_neg (fun h => h1 (UInt8.lt_iff_toNat_lt.1 h)), if_pos (UInt8.lt_iff_toNat_lt.2 h2), e, if_neg (by decide)]
        · have e : cmpI (x.toNat : Int) (y.toNat : Int) = 0 := by unfold cmpI; rw [if_neg (by omega), if_neg (by omega)]
          rw [if_neg (fun h => h1 (UInt8.lt_iff_toNat_lt.1 h)), if_neg (fun h => h2 (UInt8.lt_iff_toNat_lt.1 h)), e, if_pos rfl]
theorem lin_bytes : Lin Lib.compareBytes := by
  have h : Lin (listc (fun x y : UInt8 => cmpI x.toNat y.toNat)) := lin_of_at fun l => linAt_list l fun x _ => (lin_cmpI.comap (fun x : UInt8 => (x.toNat : Int))).at x
  rw [show Lib.compareBytes = listc (fun x y : UInt8 => cmpI x.toNat y.toNat) from funext fun a => funext fun b => bytes_list a b]
  exact h
theorem orders_list (a b : List Val) : orders a b = listc order a b := by
  induction a generalizing b with
  | nil => cases b <;> rfl
  | cons x r ih =>
    cases b with
    | nil => rfl
    | cons y t => rw [orders_cons, listc, ih]
def knd : Val → Int
  | .mk k _ _ _ _ => kindV k
def sub : Val → Val → Int
  | .mk k i f s l, .mk _ i2 f2 s2 l2 => if kindV k = 1 then cmpI i i2 else if kindV k = 2 then floatsV f f2 else if kindV k = 3 then Lib.compareBytes s.data.toList s2.data.toList else if kindV k = 4 then orders l l2 else 0
theorem order_lex (a b : Val) : order a b = lex (fun x y => cmpI (knd x) (knd y)) sub a b := by
  cases a; cases b; rfl
theorem cmpI_eq {a b : Int} (h : cmpI a b = 0) : a = b := by unfold cmpI at h; split at h <;> (try split at h) <;> omega
/-- Order tells a line, where floats do. -/
theorem linAt_order (hF : Lin floatsV) (v : Val) : LinAt order v := by
  rw [show order = lex (fun x y => cmpI (knd x) (knd y)) sub from funext fun a => funext fun b => order_lex a b]
  induction v using Val.ind with
  | h k i f s l ih =>
    have hL : LinAt (listc order) l := linAt_list l fun x hx => by
      obtain ⟨j, hj, rfl⟩ := List.getElem_of_mem hx
      rw [show order = lex (fun x y => cmpI (knd x) (knd y)) sub from funext fun a => funext fun b => order_lex a b]
      exact ih j hj
    refine LinAt.lex (lin_cmpI.comap knd) (fun y hy => ?_) (fun y z hy hz => ?_) (fun y z hy hz => ?_)
    · cases y with
      | mk k2 i2 f2 s2 l2 =>
        have e : kindV k = kindV k2 := cmpI_eq hy
        simp only [sub, e]
        split
        · exact lin_cmpI.anti _ _
        · split
          · exact hF.anti _ _
          · split
            · exact lin_bytes.anti _ _
            · split
              · rw [orders_list, orders_list]; exact hL.anti _
              · rfl
    · cases y with
      | mk k2 i2 f2 s2 l2 =>
        cases z with
        | mk k3 i3 f3 s3 l3 =>
          have e : kindV k = kindV k2 := cmpI_eq hy
          simp only [sub, e]
          split
          · exact lin_cmpI.t _ _ _
          · split
            · exact hF.t _ _ _
            · split
              · exact lin_bytes.t _ _ _
              · split
                · rw [orders_list, orders_list, orders_list]; exact hL.t _ _
                · intro _ _; exact ⟨Int.le_refl _, fun _ => ⟨rfl, rfl⟩⟩
    · cases y with
      | mk k2 i2 f2 s2 l2 =>
        cases z with
        | mk k3 i3 f3 s3 l3 =>
          have e : kindV k = kindV k2 := cmpI_eq hy
          simp only [sub, e]
          split
          · exact lin_cmpI.e _ _ _
          · split
            · exact hF.e _ _ _
            · split
              · exact lin_bytes.e _ _ _
              · split
                · rw [orders_list, orders_list, orders_list]; exact hL.e _ _
                · intro _ _; rfl
end Go.Proofs.YtejfmghjmhiodaaGreatDoor.Vz
