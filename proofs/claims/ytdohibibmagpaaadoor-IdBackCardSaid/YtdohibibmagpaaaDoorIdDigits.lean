import Derived.Lib.ItoaNum
import Derived.Lib.ItoaLen
import Derived.Lib.ParseIntB
import Derived.Lib.ParseIntBCases
namespace Go.Proofs.YtdohibibmagpaaaDoor.IdPure
open Go.Lib

/-- A decimal digit. -/
def Dig (c : UInt8) : Prop := 48 ≤ c.toNat ∧ c.toNat ≤ 57
instance (c : UInt8) : Decidable (Dig c) := by unfold Dig; infer_instance
/-- The number that digits go on to spell. -/
def vfrom (n : Nat) (l : List UInt8) : Nat := l.foldl (fun n c => 10 * n + (c.toNat - 48)) n

theorem vfrom_nil (n : Nat) : vfrom n [] = n := rfl
theorem vfrom_cons (n : Nat) (c : UInt8) (l : List UInt8) : vfrom n (c :: l) = vfrom (10 * n + (c.toNat - 48)) l := by unfold vfrom; rw [List.foldl_cons]
theorem vfrom_snoc (n : Nat) (l : List UInt8) (c : UInt8) : vfrom n (l ++ [c]) = 10 * vfrom n l + (c.toNat - 48) := by simp [vfrom, List.foldl_append]
theorem vfrom_le (l : List UInt8) : ∀ n, n ≤ vfrom n l := by
  induction l with
  | nil => intro n; exact Nat.le_refl _
  | cons c l ih => intro n; rw [vfrom_cons]; have := ih (10 * n + (c.toNat - 48)); omega

theorem dig_of (d : Nat) (h : d < 10) : (UInt8.ofNat (48 + d)).toNat = 48 + d := by
  rw [UInt8.toNat_ofNat']; omega
theorem dec_lt {u : Nat} (h : u < 10) : decDigits u = [UInt8.ofNat (48 + u)] := by rw [decDigits, dif_pos h]
theorem dec_ge {u : Nat} (h : ¬ u < 10) : decDigits u = decDigits (u / 10) ++ [UInt8.ofNat (48 + u % 10)] := by rw [decDigits, dif_neg h]

theorem dec_dig (u : Nat) : ∀ c ∈ decDigits u, Dig c := by
  induction u using Nat.strongRecOn with
  | _ u ih =>
    intro c hc
    by_cases h : u < 10
    · rw [dec_lt h, List.mem_singleton] at hc
      subst hc
      unfold Dig
      rw [dig_of u h]
      omega
    · rw [dec_ge h, List.mem_append, List.mem_singleton] at hc
      rcases hc with hc | rfl
      · exact ih (u / 10) (by omega) c hc
      · unfold Dig
        rw [dig_of _ (by omega)]
        omega

theorem dec_val (u : Nat) : vfrom 0 (decDigits u) = u := by
  induction u using Nat.strongRecOn with
  | _ u ih =>
    by_cases h : u < 10
    · rw [dec_lt h, vfrom_cons, vfrom_nil, dig_of u h]; omega
    · rw [dec_ge h, vfrom_snoc, ih (u / 10) (by omega), dig_of _ (by omega)]; omega

theorem dec_head (u : Nat) : ∃ c r, decDigits u = c :: r ∧ (c.toNat = 48 → u = 0 ∧ r = []) := by
  induction u using Nat.strongRecOn with
  | _ u ih =>
    by_cases h : u < 10
    · exact ⟨_, [], dec_lt h, fun e => by rw [dig_of u h] at e; exact ⟨by omega, rfl⟩⟩
    · obtain ⟨c, r, e, hz⟩ := ih (u / 10) (by omega)
      refine ⟨c, r ++ [UInt8.ofNat (48 + u % 10)], by rw [dec_ge h, e]; rfl, fun e0 => ?_⟩
      have := (hz e0).1
      omega

theorem dec_ne (u : Nat) : decDigits u ≠ [] := by
  obtain ⟨c, r, e, _⟩ := dec_head u
  rw [e]
  exact List.cons_ne_nil _ _

/-- Digits without a leading nought spell their number's numeral. -/
theorem canon : ∀ (n : Nat) (ds : List UInt8), ds.length = n → (∀ c ∈ ds, Dig c) → ds ≠ [] → (∀ c r, ds = c :: r → r ≠ [] → c.toNat ≠ 48) → decDigits (vfrom 0 ds) = ds := by
  intro n
  induction n using Nat.strongRecOn with
  | _ n ih =>
    intro ds hl hd hne hh
    obtain ⟨l, c, rfl⟩ : ∃ l c, ds = l ++ [c] := ⟨ds.dropLast, ds.getLast hne, (List.dropLast_concat_getLast hne).symm⟩
    have hc : Dig c := hd c (by simp)
    have ec : UInt8.ofNat (48 + (c.toNat - 48)) = c := by
      have : 48 + (c.toNat - 48) = c.toNat := by have := hc.1; omega
      rw [this]
      exact UInt8.ofNat_toNat
    by_cases hn : l = []
    · subst hn
      rw [List.nil_append, vfrom_cons, vfrom_nil, dec_lt (by have := hc.2; omega), show 10 * 0 + (c.toNat - 48) = c.toNat - 48 by omega, ec]
    · have hll : l.length < n := by rw [← hl]; simp
      have hd' : ∀ c ∈ l, Dig c := fun x hx => hd x (by simp [hx])
      have hh' : ∀ c r, l = c :: r → r ≠ [] → c.toNat ≠ 48 := fun x r e hr => hh x (r ++ [c]) (by rw [e]; rfl) (by simp)
      have hi := ih l.length hll l rfl hd' hn hh'
      have hpos : 1 ≤ vfrom 0 l := by
        cases l with
        | nil => exact absurd rfl hn
        | cons x r =>
          have hx := hh x (r ++ [c]) rfl (by simp)
          have hxd := hd' x (by simp)
          rw [vfrom_cons]
          have := vfrom_le r (10 * 0 + (x.toNat - 48))
          unfold Dig at hxd
          omega
      unfold Dig at hc
      rw [vfrom_snoc, dec_ge (by omega), show (10 * vfrom 0 l + (c.toNat - 48)) / 10 = vfrom 0 l by omega, show (10 * vfrom 0 l + (c.toNat - 48)) % 10 = c.toNat - 48 by omega, hi, ec]

/-- strconv.ParseUint reads a numeral. -/
theorem parseM_dig (M : Nat) (hM : M < 18446744073709551616) : ∀ (l : List UInt8) (acc : Nat), (∀ c ∈ l, Dig c) → vfrom acc l ≤ M → parseUintM M acc l = .ok (vfrom acc l) := by
  intro l
  induction l with
  | nil => intro acc _ _; rfl
  | cons c l ih =>
    intro acc hd hv
    have hc := hd c (by simp)
    rw [vfrom_cons] at hv
    have h1 := vfrom_le l (10 * acc + (c.toNat - 48))
    unfold Dig at hc
    rw [parseUintM, if_pos hc, if_neg (by omega), if_neg (by omega), vfrom_cons, show acc * 10 + (c.toNat - 48) = 10 * acc + (c.toNat - 48) by omega]
    exact ih _ (fun x hx => hd x (by simp [hx])) hv
theorem parse_dec (b u : Nat) (hb : 2 ^ b ≤ 18446744073709551616) (hu : u < 2 ^ b) : parseUintB b (decDigits u) = .ok u := by
  have hp : 0 < 2 ^ b := Nat.two_pow_pos b
  rw [parseUintB, if_neg (dec_ne u)]
  have := parseM_dig (2 ^ b - 1) (by omega) (decDigits u) 0 (dec_dig u) (by rw [dec_val]; omega)
  rw [dec_val] at this
  exact this

/-! The document's own reader of a number. -/
def scan (most n : Nat) : List UInt8 → Nat × List UInt8 × Nat
  | [] => (n, [], 0)
  | c :: r => if Dig c ∧ n ≤ most then ((scan most (10 * n + (c.toNat - 48)) r).1, (scan most (10 * n + (c.toNat - 48)) r).2.1, (scan most (10 * n + (c.toNat - 48)) r).2.2 + 1) else (n, c :: r, 0)
def numL (most : Nat) (s : List UInt8) : Option (Nat × List UInt8) :=
  if (scan most 0 s).2.2 = 0 then none else if (scan most 0 s).1 > most then none else if (scan most 0 s).2.2 > 1 ∧ (s.head?.map UInt8.toNat) = some 48 then none else some ((scan most 0 s).1, (scan most 0 s).2.1)

def NoDig (t : List UInt8) : Prop := ∀ c r, t = c :: r → ¬ Dig c

theorem scan_dig (most : Nat) (t : List UInt8) (ht : NoDig t) : ∀ (l : List UInt8) (n : Nat), (∀ c ∈ l, Dig c) → vfrom n l ≤ most → scan most n (l ++ t) = (vfrom n l, t, l.length) := by
  intro l
  induction l with
  | nil =>
    intro n _ _
    rw [List.nil_append, vfrom_nil]
    cases t with
    | nil => rfl
    | cons c r => rw [scan, if_neg (fun h => ht c r rfl h.1)]; rfl
  | cons c l ih =>
    intro n hd hv
    rw [vfrom_cons] at hv
    have h1 := vfrom_le l (10 * n + (c.toNat - 48))
    rw [List.cons_append, scan, if_pos ⟨hd c (by simp), by omega⟩, ih _ (fun x hx => hd x (by simp [hx])) hv]
    rfl

theorem numL_dec (most m : Nat) (t : List UInt8) (ht : NoDig t) (hm : m ≤ most) : numL most (decDigits m ++ t) = some (m, t) := by
  have h := scan_dig most t ht (decDigits m) 0 (dec_dig m) (by rw [dec_val]; exact hm)
  rw [dec_val] at h
  obtain ⟨c, r, e, hz⟩ := dec_head m
  unfold numL
  rw [h]
  dsimp only
  rw [if_neg (by rw [e]; simp), if_neg (by omega), if_neg]
  rintro ⟨h1, h2⟩
  rw [e] at h1 h2
  simp only [List.cons_append, List.head?_cons, Option.map_some, Option.some.injEq] at h2
  rw [(hz h2).2] at h1
  simp at h1

theorem scan_parts (most : Nat) : ∀ (s : List UInt8) (n : Nat), ∃ l, s = l ++ (scan most n s).2.1 ∧ l.length = (scan most n s).2.2 ∧ (∀ c ∈ l, Dig c) ∧ (scan most n s).1 = vfrom n l ∧ ((scan most n s).1 ≤ most → NoDig (scan most n s).2.1) := by
  intro s
  induction s with
  | nil => intro n; exact ⟨[], rfl, rfl, by simp, rfl, fun _ c r e => by cases e⟩
  | cons c s ih =>
    intro n
    by_cases h : Dig c ∧ n ≤ most
    · obtain ⟨l, e1, e2, e3, e4, e5⟩ := ih (10 * n + (c.toNat - 48))
      rw [scan, if_pos h]
      refine ⟨c :: l, ?_, ?_, ?_, e4, e5⟩
      · rw [List.cons_append]; exact congrArg _ e1
      · simp [e2]
      · intro x hx
        rcases List.mem_cons.1 hx with rfl | hx
        · exact h.1
        · exact e3 x hx
    · rw [scan, if_neg h]
      refine ⟨[], rfl, rfl, by simp, rfl, fun hm c' r' e => ?_⟩
      cases e
      intro hd
      exact h ⟨hd, hm⟩

theorem numL_some {most : Nat} {s : List UInt8} {m : Nat} {t : List UInt8} (h : numL most s = some (m, t)) : m ≤ most ∧ s = decDigits m ++ t ∧ NoDig t := by
  unfold numL at h
  obtain ⟨l, e1, e2, e3, e4, e5⟩ := scan_parts most s 0
  split at h
  · cases h
  · rename_i h0
    split at h
    · cases h
    · rename_i h1
      split at h
      · cases h
      · rename_i h2
        cases h
        refine ⟨by omega, ?_, e5 (by omega)⟩
        have hne : l ≠ [] := by intro e; rw [e] at e2; exact h0 e2.symm
        have hc := canon l.length l rfl e3 hne (fun c r e hr e48 => by
          apply h2
          refine ⟨?_, ?_⟩
          · rw [← e2, e]; cases r with
            | nil => exact absurd rfl hr
            | cons x y => simp
          · rw [e1, e]; simp [e48])
        rw [e4, hc]
        exact e1
end Go.Proofs.YtdohibibmagpaaaDoor.IdPure
