import Derived.Test.YtejfmghjmhiodaaGreatDoorVzLin2
namespace Go.Proofs.YtejfmghjmhiodaaGreatDoor.Vz
open Go.RowKit Go.Proofs.YtejfmghjmhiodaaGreatDoorW.PrintWords
set_option linter.unusedVariables false
set_option linter.unusedSimpArgs false
attribute [local go_sem] store_float
open Ieee
def LP : Int := FloatKind.f64.format.leastPlace
def dkey : Datum → Int × Int
  | .number s m i => (0, signed s m (i - LP).toNat)
  | .infinity s => (if s then -1 else 1, 0)
  | .nan _ _ => (0, 0)
def cmpO (p q : Int × Int) : Ordering := if p.1 < q.1 then .lt else if q.1 < p.1 then .gt else if p.2 < q.2 then .lt else if q.2 < p.2 then .gt else .eq
theorem signed_add (s : Bool) (m u k : Nat) : signed s m (u + k) = signed s m u * 2 ^ k := by
  unfold signed
  have e : ((m <<< (u + k) : Nat) : Int) = (m <<< u : Nat) * 2 ^ k := by
    rw [Nat.shiftLeft_add, Nat.shiftLeft_eq (m <<< u) k]; push_cast; rfl
  cases s <;> simp only [Bool.false_eq_true, if_true, if_false, e]
  rw [Int.neg_mul]
theorem compare_cmpO (a b : Int) : compare a b = cmpO (0, a) (0, b) := by
  unfold cmpO
  simp only [Int.lt_irrefl, if_false]
  rw [show compare a b = compareOfLessAndEq a b from rfl]
  unfold compareOfLessAndEq
  split
  · rfl
  · split
    · rw [if_neg (by omega)]
    · rw [if_pos (by omega)]
theorem cmpO_scale (a b : Int) (k : Nat) : cmpO (0, a * 2 ^ k) (0, b * 2 ^ k) = cmpO (0, a) (0, b) := by
  have hk : (0 : Int) < 2 ^ k := Int.pow_pos (by decide)
  unfold cmpO
  simp only [Int.lt_irrefl, if_false]
  have h1 : a * 2 ^ k < b * 2 ^ k ↔ a < b := Int.mul_lt_mul_right hk
  have h2 : b * 2 ^ k < a * 2 ^ k ↔ b < a := Int.mul_lt_mul_right hk
  simp only [h1, h2]
def isN : Datum → Bool
  | .nan _ _ => true
  | _ => false
def high : Datum → Prop
  | .number _ _ i => LP ≤ i
  | _ => True
theorem order_key (d e : Datum) (hd : isN d = false) (he : isN e = false) (pd : high d) (pe : high e) : d.order e = some (cmpO (dkey d) (dkey e)) := by
  cases d with
  | nan => cases hd
  | infinity s =>
    cases e with
    | nan => cases he
    | infinity t => cases s <;> cases t <;> decide
    | number t n j => cases s <;> rfl
  | number s m i =>
    cases e with
    | nan => cases he
    | infinity t => cases t <;> rfl
    | number t n j =>
      have pd' : LP ≤ i := pd
      have pe' : LP ≤ j := pe
      show some (compare (signed s m (i - min i j).toNat) (signed t n (j - min i j).toNat)) = _
      rw [compare_cmpO]
      obtain ⟨k, hk⟩ : ∃ k : Nat, min i j - LP = k := ⟨(min i j - LP).toNat, by omega⟩
      rw [show dkey (.number s m i) = (0, signed s m (i - min i j).toNat * 2 ^ k) by
        show (0, signed s m (i - LP).toNat) = _
        rw [show (i - LP).toNat = (i - min i j).toNat + k by omega, signed_add]]
      rw [show dkey (.number t n j) = (0, signed t n (j - min i j).toNat * 2 ^ k) by
        show (0, signed t n (j - LP).toNat) = _
        rw [show (j - LP).toNat = (j - min i j).toNat + k by omega, signed_add]]
      rw [cmpO_scale]
theorem read_high (f : Nat) : high (FloatKind.f64.format.read f) := by
  unfold Format.read
  simp only
  split
  · exact Int.le_refl _
  · split
    · show LP ≤ LP + _
      omega
    · split <;> trivial
theorem ord_read (a b : Nat) : FloatKind.f64.format.order a b = (FloatKind.f64.format.read a).order (FloatKind.f64.format.read b) := rfl
theorem order_nan_l (d e : Datum) (h : isN d = true) : d.order e = none := by cases d <;> first | (cases h; done) | (cases e <;> rfl)
theorem order_nan_r (d e : Datum) (h : isN e = true) : d.order e = none := by cases e <;> first | (cases h; done) | (cases d <;> rfl)
theorem cmpO_refl (p : Int × Int) : cmpO p p = .eq := by unfold cmpO; simp
theorem isNan_read (f : Nat) : isNan f = isN (FloatKind.f64.format.read f) := by
  unfold isNan
  rw [ord_read]
  cases h : isN (FloatKind.f64.format.read f)
  · rw [order_key _ _ h h (read_high f) (read_high f), cmpO_refl]; rfl
  · rw [order_nan_l _ _ h]; rfl
def rk (f : Nat) : Int × Int := dkey (FloatKind.f64.format.read f)
theorem ord_rk {a b : Nat} (ha : isNan a = false) (hb : isNan b = false) : FloatKind.f64.format.order a b = some (cmpO (rk a) (rk b)) := by
  rw [isNan_read] at ha hb
  exact order_key _ _ ha hb (read_high a) (read_high b)
theorem rk0 : rk 0 = (0, 0) := by decide +kernel
theorem nan0 : isNan 0 = false := by rw [isNan_read]; decide +kernel
theorem cmpO_eq (p q : Int × Int) : (cmpO p q = .eq) ↔ p = q := by
  unfold cmpO
  constructor
  · intro h
    split at h
    · cases h
    · split at h
      · cases h
      · split at h
        · cases h
        · split at h
          · cases h
          · exact Prod.ext (by omega) (by omega)
  · rintro rfl; simp
theorem feq0 {a : Nat} (ha : isNan a = false) : feq a 0 = decide (rk a = (0, 0)) := by
  unfold feq
  rw [ord_rk ha nan0, rk0]
  rw [Bool.eq_iff_iff]
  simp [cmpO_eq]
def KF (f : Nat) : Int × Int × Int × Int := if isNan f then (0, 0, 0, 0) else (1, (rk f).1, (rk f).2, if rk f = (0, 0) then signV f else 0)
def c4 (x y : Int × Int × Int × Int) : Int := lex (fun x y : Int × Int × Int × Int => cmpI x.1 y.1) (lex (fun x y => cmpI x.2.1 y.2.1) (lex (fun x y => cmpI x.2.2.1 y.2.2.1) (fun x y => cmpI x.2.2.2 y.2.2.2))) x y
theorem lin_c4 : Lin c4 := Lin.lex (lin_cmpI.comap _) (Lin.lex (lin_cmpI.comap _) (Lin.lex (lin_cmpI.comap _) (lin_cmpI.comap _)))
theorem cmpI_self (a : Int) : cmpI a a = 0 := by unfold cmpI; simp
theorem cmpF_key {a b : Nat} (ha : isNan a = false) (hb : isNan b = false) (hz : ¬ (rk a = rk b ∧ rk a = (0, 0))) : cmpF a b = if cmpI (rk a).1 (rk b).1 = 0 then (if cmpI (rk a).2 (rk b).2 = 0 then cmpI (if rk a = (0, 0) then signV a else 0) (if rk b = (0, 0) then signV b else 0) else cmpI (rk a).2 (rk b).2) else cmpI (rk a).1 (rk b).1 := by
  have e : cmpF a b = if cmpO (rk a) (rk b) = .lt then -1 else if cmpO (rk a) (rk b) = .gt then 1 else 0 := by
    unfold cmpF flt fgt
    rw [ord_rk ha hb, ha, hb]
    cases cmpO (rk a) (rk b) <;> rfl
  rw [e]
  by_cases h : rk a = rk b
  · rw [h, cmpO_refl, cmpI_self, cmpI_self, if_pos rfl, if_pos rfl]
    have hb0 : ¬ rk b = (0, 0) := fun h2 => hz ⟨h, h.trans h2⟩
    rw [if_neg hb0, if_neg hb0]
    rfl
  · unfold cmpO
    by_cases h1 : (rk a).1 < (rk b).1
    · rw [if_pos h1, show cmpI (rk a).1 (rk b).1 = -1 by unfold cmpI; rw [if_pos h1]]; rfl
    · by_cases h2 : (rk b).1 < (rk a).1
      · rw [if_neg h1, if_pos h2, show cmpI (rk a).1 (rk b).1 = 1 by unfold cmpI; rw [if_neg h1, if_pos h2]]; rfl
      · rw [if_neg h1, if_neg h2, show cmpI (rk a).1 (rk b).1 = 0 by unfold cmpI; rw [if_neg h1, if_neg h2]]
        by_cases h3 : (rk a).2 < (rk b).2
        · rw [if_pos h3, show cmpI (rk a).2 (rk b).2 = -1 by unfold cmpI; rw [if_pos h3]]; rfl
        · by_cases h4 : (rk b).2 < (rk a).2
          · rw [if_neg h3, if_pos h4, show cmpI (rk a).2 (rk b).2 = 1 by unfold cmpI; rw [if_neg h3, if_pos h4]]; rfl
          · exact absurd (Prod.ext (by omega) (by omega)) h
theorem feq_nan {a : Nat} (ha : isNan a = true) (b : Nat) : feq a b = false := by
  rw [isNan_read] at ha
  unfold feq
  rw [ord_read, order_nan_l _ _ ha]; rfl
theorem floats_key (a b : Nat) : floatsV a b = c4 (KF a) (KF b) := by
  unfold c4 lex KF
  cases ha : isNan a
  · cases hb : isNan b
    · simp only [Bool.false_eq_true, if_false, cmpI_self, if_true]
      unfold floatsV
      rw [feq0 ha, feq0 hb]
      by_cases h1 : rk a = (0, 0)
      · by_cases h2 : rk b = (0, 0)
        · rw [h1, h2]; simp [cmpI_self]
        · rw [decide_eq_false h2, Bool.and_false, if_neg (by decide)]
          exact cmpF_key ha hb (fun e => h2 (e.1.symm.trans e.2))
      · rw [decide_eq_false h1, Bool.false_and, if_neg (by decide)]
        exact cmpF_key ha hb (fun e => h1 e.2)
    · have e : floatsV a b = 1 := by
        unfold floatsV cmpF
        rw [feq_nan hb, Bool.and_false, if_neg (by decide), ha, hb]; rfl
      rw [e]; rfl
  · cases hb : isNan b
    · have e : floatsV a b = -1 := by
        unfold floatsV cmpF
        rw [feq_nan ha, Bool.false_and, if_neg (by decide), ha, hb]; rfl
      rw [e]; rfl
    · have e : floatsV a b = 0 := by
        unfold floatsV cmpF
        rw [feq_nan ha, Bool.false_and, if_neg (by decide), ha, hb]; rfl
      rw [e]; rfl
/-- Floats stand in a line. -/
theorem lin_floats : Lin floatsV := by
  rw [show floatsV = fun a b => c4 (KF a) (KF b) from funext fun a => funext fun b => floats_key a b]
  exact lin_c4.comap KF
theorem lin_order : Lin order := lin_of_at fun v => linAt_order lin_floats v
end Go.Proofs.YtejfmghjmhiodaaGreatDoor.Vz
