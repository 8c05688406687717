import Derived.Test.YtdohibibmagpaaaDoorIdBackPure
namespace Go.Proofs.YtdohibibmagpaaaDoor.IdPure
open Go.Lib Go.RowKit Go.Proofs.YtdohibibmagpaaaDoorW.PrintWords Go.Proofs.YtdohibibmagpaaaDoor.IdNum Go.Proofs.YtdohibibmagpaaaDoor.S
set_option linter.unusedVariables false
set_option linter.unusedSimpArgs false

theorem ev_eq {α : Type} {g : Nat → Option α} {r s : α} (h : Ev g r) (e : r = s) : Ev g s := e ▸ h
theorem str_app (a b : List UInt8) : str a ++ str b = str (a ++ b) := by
  apply ByteArray.ext
  simp [str, ByteArray.data_append]
theorem str_size (a : List UInt8) : (str a).size = a.length := by simp [str, ByteArray.size]

/-! Dec, IdText. -/
theorem dec_small (k n : Nat) (h : n < 10) : choirref3_Dec.f (k + 1) (n : Int) = some (str (decDigits n)) := by
  have w1 : IntKind.u64.wrap ((n : Int) + 1) = (n : Int) + 1 := by rw [IntKind.wrap_u64]; omega
  rw [choirref3_Dec.f, if_pos (by omega), if_pos (by omega), w1, if_pos (by omega), if_pos (by omega), dec_lt h]
  congr 1
  have hn : n = 0 ∨ n = 1 ∨ n = 2 ∨ n = 3 ∨ n = 4 ∨ n = 5 ∨ n = 6 ∨ n = 7 ∨ n = 8 ∨ n = 9 := by omega
  rcases hn with rfl | rfl | rfl | rfl | rfl | rfl | rfl | rfl | rfl | rfl <;> rfl

theorem dec_len (n : Nat) (h : n < 18446744073709551616) : (decDigits n).length ≤ 20 := by
  rw [decDigits_length]; exact nDigits_le20 n h

theorem dec_ev (n : Nat) (hn : n < 18446744073709551616) : Ev (fun k => choirref3_Dec.f k (n : Int)) (str (decDigits n)) := by
  induction n using Nat.strongRecOn with
  | _ n ih =>
    by_cases h : n < 10
    · exact Ev.step (f := fun _ => some (str (decDigits n))) (fun k => dec_small k n h) (Ev.now _)
    · have e1 : IntKind.u64.wrap (Int.tdiv (n : Int) 10) = ((n / 10 : Nat) : Int) := by
        rw [Int.tdiv_eq_ediv_of_nonneg (by omega), IntKind.wrap_u64]; omega
      have e2 : Int.tmod (n : Int) 10 = ((n % 10 : Nat) : Int) := by rw [Int.tmod_eq_emod_of_nonneg (by omega)]; omega
      refine Ev.step (f := fun k => (choirref3_Dec.f k ((n / 10 : Nat) : Int)).bind fun a => (choirref3_Dec.f k ((n % 10 : Nat) : Int)).bind fun b => if a.size + b.size ≤ 9223372036854775807 then some (a ++ b) else none) (fun k => ?_) ?_
      · rw [choirref3_Dec.f, if_neg (by omega), e1, e2]
      · refine Ev.bind (ih (n / 10) (by omega) (by omega)) (Ev.bind (ih (n % 10) (by omega) (by omega)) ?_)
        refine Ev.congr (f := fun _ => some (str (decDigits n))) (fun k => ?_) (Ev.now _)
        have l1 := dec_len (n / 10) (by omega)
        have l2 := dec_len (n % 10) (by omega)
        rw [str_size, str_size, if_pos (by omega), str_app, dec_lt (show n % 10 < 10 by omega), ← dec_ge h]

theorem idtext_ev (c q n : Nat) (hc : c < 4294967296) (hq : q < 4294967296) (hn : n < 65536) : Ev (fun k => choirref3_IdText.f k (c : Int) (q : Int) (n : Int)) (str (textL c q n)) := by
  have wc : IntKind.u64.wrap (c : Int) = (c : Int) := by rw [IntKind.wrap_u64]; omega
  have wq : IntKind.u64.wrap (q : Int) = (q : Int) := by rw [IntKind.wrap_u64]; omega
  have wn : IntKind.u64.wrap (n : Int) = (n : Int) := by rw [IntKind.wrap_u64]; omega
  have l1 := dec_len c (by omega)
  have l2 := dec_len q (by omega)
  have l3 := dec_len n (by omega)
  have d1 : (⟨#[45]⟩ : ByteArray) = str [45] := rfl
  have d2 : (⟨#[46]⟩ : ByteArray) = str [46] := rfl
  unfold choirref3_IdText.f
  rw [wc, wq, wn, d1, d2]
  refine Ev.bind (dec_ev c (by omega)) ?_
  refine Ev.congr (fun k => if_pos (by rw [str_size]; omega)) ?_
  refine Ev.bind (dec_ev q (by omega)) ?_
  rw [str_app, str_app]
  refine Ev.congr (fun k => if_pos (by rw [str_size, str_size]; simp; omega)) ?_
  by_cases h0 : n = 0
  · subst h0
    refine Ev.congr (fun k => if_pos (by rfl)) ?_
    refine ev_eq (Ev.now _) (congrArg str ?_)
    simp [textL]
  · refine Ev.congr (fun k => if_neg (by omega)) ?_
    refine Ev.congr (fun k => if_pos (by rw [str_size]; simp; omega)) ?_
    refine Ev.bind (dec_ev n (by omega)) ?_
    rw [str_app, str_app]
    refine Ev.congr (fun k => if_pos (by rw [str_size, str_size]; simp; omega)) ?_
    refine ev_eq (Ev.now _) (congrArg str ?_)
    simp [textL, h0]

/-! num. -/
theorem bt_str (p r : List UInt8) (c : UInt8) : bt (str (p ++ c :: r)) (p.length : Int) = (c.toNat : Int) := by
  have h : ((p.length : Int)).toNat < (str (p ++ c :: r)).size := by rw [str_size]; simp
  unfold bt
  rw [dif_pos h]
  congr 2
  show (p ++ c :: r).toArray[((p.length : Int)).toNat]'_ = c
  simp
theorem drop_str (p r : List UInt8) : (str (p ++ r)).extract ((p.length : Int)).toNat (str (p ++ r)).size = str r := by
  apply ByteArray.ext
  rw [ByteArray.data_extract, str_size]
  simp [str]

def fin (s : ByteArray) (most n i : Int) : Int × ByteArray × Bool :=
  if i = 0 then (0, ⟨#[]⟩, false) else if n > most then (0, ⟨#[]⟩, false) else if i > 1 ∧ bt s 0 = 48 then (0, ⟨#[]⟩, false) else (n, s.extract i.toNat s.size, true)

theorem num_go (k : Nat) (s : ByteArray) (most n i : Int) (h0 : 0 ≤ i) (h1 : i < (s.size : Int)) (h2 : 48 ≤ bt s i) (h3 : bt s i ≤ 57) (h4 : n ≤ most) :
    choirref3_num.l0 (k + 1) s most n i = choirref3_num.l0 k s most (IntKind.u64.wrap ((IntKind.u64.wrap (10 * n)) + (((bt s i) - 48) % 256))) (wrap64 (i + 1)) := by
  rw [choirref3_num.l0, if_pos h1, if_pos h0, if_pos h2, if_pos h3, if_pos h4]

theorem num_end (k : Nat) (s : ByteArray) (most n i : Int) (h0 : 0 ≤ i) (h1 : i ≤ (s.size : Int)) (h2 : ¬ (i < (s.size : Int) ∧ 48 ≤ bt s i ∧ bt s i ≤ 57 ∧ n ≤ most)) :
    choirref3_num.l0 (k + 1) s most n i = some (fin s most n i) := by
  have tail : (if i = 0 then some ((0 : Int), (⟨#[]⟩ : ByteArray), false) else (if n > most then some (0, (⟨#[]⟩ : ByteArray), false) else (if i > 1 then (if 0 < (s.size : Int) then (if (bt s 0) = 48 then some (0, (⟨#[]⟩ : ByteArray), false) else (if i ≤ (s.size : Int) then some (n, s.extract i.toNat s.size, true) else none)) else none) else (if i ≤ (s.size : Int) then some (n, s.extract i.toNat s.size, true) else none)))) = some (fin s most n i) := by
    unfold fin
    by_cases a : i = 0
    · rw [if_pos a, if_pos a]
    · rw [if_neg a, if_neg a]
      by_cases b : n > most
      · rw [if_pos b, if_pos b]
      · rw [if_neg b, if_neg b]
        by_cases c : i > 1
        · rw [if_pos c, if_pos (show 0 < (s.size : Int) by omega)]
          by_cases d : bt s 0 = 48
          · rw [if_pos d, if_pos ⟨c, d⟩]
          · rw [if_neg d, if_pos h1, if_neg (fun e => d e.2)]
        · rw [if_neg c, if_pos h1, if_neg (fun e => c e.1)]
  rw [choirref3_num.l0]
  by_cases a : i < (s.size : Int)
  · rw [if_pos a, if_pos h0]
    by_cases b : bt s i ≥ 48
    · rw [if_pos b]
      by_cases c : bt s i ≤ 57
      · rw [if_pos c]
        by_cases d : n ≤ most
        · exact absurd ⟨a, b, c, d⟩ h2
        · rw [if_neg d]; exact tail
      · rw [if_neg c]; exact tail
    · rw [if_neg b]; exact tail
  · rw [if_neg a]
    simp only [if_pos h0]
    exact tail

/-- What num tells, out of what 'scan' tells. -/
def told (s : List UInt8) (most : Nat) (i : Nat) (x : Nat × List UInt8 × Nat) : Int × ByteArray × Bool :=
  if i + x.2.2 = 0 then (0, ⟨#[]⟩, false) else if x.1 > most then (0, ⟨#[]⟩, false) else if i + x.2.2 > 1 ∧ (s.head?.map UInt8.toNat) = some 48 then (0, ⟨#[]⟩, false) else ((x.1 : Int), str x.2.1, true)

theorem bt_zero (s : List UInt8) (h : s ≠ []) : bt (str s) 0 = 48 ↔ (s.head?.map UInt8.toNat) = some 48 := by
  cases s with
  | nil => exact absurd rfl h
  | cons c r =>
    have := bt_str [] r c
    rw [List.nil_append] at this
    rw [show ((0 : Int)) = (([] : List UInt8).length : Int) from rfl, this]
    simp
    omega

theorem fin_told (p r : List UInt8) (most n : Nat) : fin (str (p ++ r)) (most : Int) (n : Int) (p.length : Int) = told (p ++ r) most p.length (n, r, 0) := by
  unfold fin told
  rw [drop_str]
  dsimp only
  by_cases a : p.length = 0
  · rw [if_pos (show ((p.length : Nat) : Int) = 0 by omega), if_pos (show p.length + 0 = 0 by omega)]
  · have hne : p ++ r ≠ [] := by intro e; rw [List.append_eq_nil_iff] at e; rw [e.1] at a; exact a rfl
    rw [if_neg (show ¬ ((p.length : Nat) : Int) = 0 by omega), if_neg (show ¬ p.length + 0 = 0 by omega)]
    by_cases b : n > most
    · rw [if_pos (show (n : Int) > (most : Int) by omega), if_pos b]
    · rw [if_neg (show ¬ (n : Int) > (most : Int) by omega), if_neg b]
      by_cases c : p.length > 1 ∧ ((p ++ r).head?.map UInt8.toNat) = some 48
      · rw [if_pos (show ((p.length : Nat) : Int) > 1 ∧ bt (str (p ++ r)) 0 = 48 from ⟨by omega, (bt_zero _ hne).2 c.2⟩), if_pos (show p.length + 0 > 1 ∧ _ from ⟨by omega, c.2⟩)]
      · rw [if_neg (show ¬ (((p.length : Nat) : Int) > 1 ∧ bt (str (p ++ r)) 0 = 48) from fun e => c ⟨by omega, (bt_zero _ hne).1 e.2⟩), if_neg (show ¬ (p.length + 0 > 1 ∧ ((p ++ r).head?.map UInt8.toNat) = some 48) from fun e => c ⟨by omega, e.2⟩)]

theorem num_l0 (most : Nat) (hm : most ≤ 4294967295) : ∀ (r p : List UInt8) (n : Nat), (p ++ r).length < 4611686018427387904 → n ≤ 10 * most + 9 →
    Ev (fun k => choirref3_num.l0 k (str (p ++ r)) (most : Int) (n : Int) (p.length : Int)) (told (p ++ r) most p.length (scan most n r)) := by
  intro r
  induction r with
  | nil =>
    intro p n hl hn
    refine Ev.step (f := fun _ => some (told (p ++ []) most p.length (n, [], 0))) (fun k => ?_) (Ev.now _)
    rw [num_end k _ _ _ _ (by omega) (by rw [str_size]; simp) (by rw [str_size]; simp), fin_told]
  | cons c r ih =>
    intro p n hl hn
    have hb := bt_str p r c
    by_cases h : Dig c ∧ n ≤ most
    · have hd := h.1
      unfold Dig at hd
      have e1 : IntKind.u64.wrap ((IntKind.u64.wrap (10 * (n : Int))) + (((bt (str (p ++ c :: r)) (p.length : Int)) - 48) % 256)) = ((10 * n + (c.toNat - 48) : Nat) : Int) := by
        rw [hb, IntKind.wrap_u64, IntKind.wrap_u64]; omega
      have e2 : wrap64 ((p.length : Int) + 1) = (((p ++ [c]).length : Nat) : Int) := by
        simp at hl ⊢
        unfold wrap64; omega
      have es : p ++ c :: r = (p ++ [c]) ++ r := by simp
      have hi := ih (p ++ [c]) (10 * n + (c.toNat - 48)) (by rw [← es]; exact hl) (by omega)
      refine Ev.step (f := fun k => choirref3_num.l0 k (str (p ++ c :: r)) (most : Int) ((10 * n + (c.toNat - 48) : Nat) : Int) (((p ++ [c]).length : Nat) : Int)) (fun k => ?_) ?_
      · rw [num_go k _ _ _ _ (by omega) (by rw [str_size]; simp; omega) (by rw [hb]; omega) (by rw [hb]; omega) (by omega), e1, e2]
      · rw [es]
        refine ev_eq hi ?_
        rw [scan, if_pos h]
        unfold told
        simp only [List.length_append, List.length_singleton]
        have e3 : p.length + 1 + (scan most (10 * n + (c.toNat - 48)) r).2.2 = p.length + ((scan most (10 * n + (c.toNat - 48)) r).2.2 + 1) := by omega
        rw [e3]
    · refine Ev.step (f := fun _ => some (told (p ++ c :: r) most p.length (n, c :: r, 0))) (fun k => ?_) (ev_eq (Ev.now _) (by rw [scan, if_neg h]))
      rw [num_end k _ _ _ _ (by omega) (by rw [str_size]; simp; omega) (by
        rintro ⟨_, h2, h3, h4⟩
        rw [hb] at h2 h3
        exact h ⟨by unfold Dig; omega, by omega⟩), fin_told]

def numR (o : Option (Nat × List UInt8)) : Int × ByteArray × Bool := match o with | none => (0, ⟨#[]⟩, false) | some x => ((x.1 : Int), str x.2, true)
theorem num_ev (most : Nat) (hm : most ≤ 4294967295) (s : List UInt8) (hs : s.length < 4611686018427387904) : Ev (fun k => choirref3_num.f k (str s) (most : Int)) (numR (numL most s)) := by
  refine ev_eq (num_l0 most hm s [] 0 hs (by omega)) ?_
  unfold told numL
  simp only [List.length_nil, Nat.zero_add, List.nil_append]
  split
  · rfl
  · split
    · rfl
    · split <;> rfl

/-! IdParse. -/
theorem str_toList (l : List UInt8) : (str l).toList = l := by rw [ByteArray.toList_eq]; rfl
theorem bt_head (c : UInt8) (r : List UInt8) : bt (str (c :: r)) 0 = (c.toNat : Int) := bt_str [] r c
theorem str_tail (c : UInt8) (r : List UInt8) : (str (c :: r)).extract 1 (str (c :: r)).size = str r := drop_str [c] r
theorem u8_eq {c : UInt8} {n : Nat} (hn : n < 256) : c = UInt8.ofNat n ↔ c.toNat = n := by
  constructor
  · rintro rfl; rw [UInt8.toNat_ofNat']; omega
  · intro h; subst h; exact UInt8.ofNat_toNat.symm

def refR (o : Option (Nat × Nat × Nat)) : Int × Int × Int × Bool := match o with | none => (0, 0, 0, false) | some x => ((x.1 : Int), (x.2.1 : Int), (x.2.2 : Int), true)

theorem j0_no (x : ByteArray) (c : Int) : Ev (fun k => choirref3_IdParse.j0 k x c true) (0, 0, 0, false) :=
  Ev.step (f := fun _ => some (0, 0, 0, false)) (fun k => by rw [choirref3_IdParse.j0, if_pos rfl]) (Ev.now _)

theorem numL_len {most : Nat} {s : List UInt8} {m : Nat} {t : List UInt8} (h : numL most s = some (m, t)) : t.length ≤ s.length := by
  have := (numL_some h).2.1
  rw [this, List.length_append]; omega

theorem idparse_ev (s : List UInt8) (hs : s.length < 4611686018427387904) : Ev (fun k => choirref3_IdParse.f k (str s)) (refR (refL s)) := by
  have h1 := num_ev 4294967295 (by omega) s hs
  unfold choirref3_IdParse.f
  refine Ev.bind h1 ?_
  unfold refL
  cases hn : numL 4294967295 s with
  | none =>
    refine Ev.congr (fun k => if_neg (by simp [numR])) ?_
    exact j0_no _ _
  | some x =>
    obtain ⟨c, t⟩ := x
    have hcm := (numL_some hn).1
    have htl := numL_len hn
    rw [Option.bind_some]
    refine Ev.congr (fun k => if_pos (by rfl)) ?_
    show Ev (fun n => if (str t).toList = [] then choirref3_IdParse.j0 n (str t) (c : Int) true else if 0 < ((str t).size : Int) then choirref3_IdParse.j0 n (str t) (c : Int) (bt (str t) 0 != 45) else none) _
    rw [str_toList]
    cases t with
    | nil =>
      refine Ev.congr (fun k => if_pos rfl) ?_
      exact j0_no _ _
    | cons y t =>
      refine Ev.congr (fun k => if_neg (List.cons_ne_nil _ _)) ?_
      refine Ev.congr (fun k => if_pos (by rw [str_size]; simp <;> omega)) ?_
      rw [bt_head]
      by_cases hy : y = 45
      · have hyn : ((y.toNat : Int) != 45) = false := by subst hy; rfl
        rw [hyn]
        refine ev_eq (r := refR ((numL 4294967295 t).bind fun z => if z.2 = [] then some (c, z.1, 0) else if z.2.head? = some 46 then ((numL 65535 z.2.tail).bind fun z_1 => if z_1.2 = [] then (if z_1.1 = 0 then none else some (c, z.1, z_1.1)) else none) else none)) ?_ (congrArg refR (if_pos (by subst hy; rfl)).symm)
        have h2 := num_ev 4294967295 (by omega) t (by simp at htl; omega)
        refine Ev.step (f := fun k => (choirref3_num.f k (str t) 4294967295).bind fun bt168 => (if bt168.2.2 = true then (if bt168.2.1.toList = ([] : List UInt8) then (some (((c : Int)) % 4294967296, (bt168.1) % 4294967296, 0, true)) else (if 0 < (bt168.2.1.size : Int) then (if (bt bt168.2.1 0) = 46 then (if 1 ≤ (bt168.2.1.size : Int) then ((choirref3_num.f k (bt168.2.1.extract 1 bt168.2.1.size) 65535).bind fun bt172 => (if bt172.2.2 = true then (if bt172.2.1.toList = ([] : List UInt8) then (if bt172.1 = 0 then (some (0, 0, 0, false)) else (some (((c : Int)) % 4294967296, (bt168.1) % 4294967296, IntKind.u16.wrap (bt172.1), true))) else (some (0, 0, 0, false))) else (some (0, 0, 0, false)))) else (none)) else (some (0, 0, 0, false))) else (none))) else (some (0, 0, 0, false)))) (fun k => ?_) ?_
        · rw [choirref3_IdParse.j0, if_neg (by simp), if_pos (by rw [str_size]; simp <;> omega), str_tail]
        · refine Ev.bind h2 ?_
          cases hq : numL 4294967295 t with
          | none => exact Ev.congr (fun k => if_neg (by simp [numR])) (Ev.now _)
          | some x =>
            obtain ⟨q, u⟩ := x
            have hqm := (numL_some hq).1
            have hul := numL_len hq
            have ec : (c : Int) % 4294967296 = (c : Int) := by omega
            have eq : (q : Int) % 4294967296 = (q : Int) := by omega
            rw [Option.bind_some]
            refine Ev.congr (fun k => if_pos (by rfl)) ?_
            show Ev (fun k => if (str u).toList = [] then some ((c : Int) % 4294967296, (q : Int) % 4294967296, 0, true) else if 0 < ((str u).size : Int) then (if bt (str u) 0 = 46 then (if 1 ≤ ((str u).size : Int) then ((choirref3_num.f k ((str u).extract 1 (str u).size) 65535).bind fun bt172 => (if bt172.2.2 = true then (if bt172.2.1.toList = ([] : List UInt8) then (if bt172.1 = 0 then (some (0, 0, 0, false)) else (some ((c : Int) % 4294967296, (q : Int) % 4294967296, IntKind.u16.wrap (bt172.1), true))) else (some (0, 0, 0, false))) else (some (0, 0, 0, false)))) else none) else some (0, 0, 0, false)) else none) _
            rw [str_toList, ec, eq]
            cases u with
            | nil => exact Ev.congr (fun k => if_pos rfl) (Ev.now _)
            | cons z u =>
              refine Ev.congr (fun k => if_neg (List.cons_ne_nil _ _)) ?_
              refine Ev.congr (fun k => if_pos (by rw [str_size]; simp <;> omega)) ?_
              rw [bt_head, str_tail]
              by_cases hz : z = 46
              · refine Ev.congr (fun k => if_pos (by subst hz; rfl)) ?_
                refine Ev.congr (fun k => if_pos (by rw [str_size]; simp <;> omega)) ?_
                refine ev_eq (r := refR ((numL 65535 u).bind fun z_1 => if z_1.2 = [] then (if z_1.1 = 0 then none else some (c, q, z_1.1)) else none)) ?_ (congrArg refR ((if_neg (List.cons_ne_nil _ _)).trans (if_pos (by subst hz; rfl))).symm)
                have h3 := num_ev 65535 (by omega) u (by simp at htl hul; omega)
                refine Ev.bind h3 ?_
                cases hm : numL 65535 u with
                | none => exact Ev.congr (fun k => if_neg (by simp [numR])) (Ev.now _)
                | some x =>
                  obtain ⟨n, v⟩ := x
                  have hnm := (numL_some hm).1
                  have en : IntKind.u16.wrap (n : Int) = (n : Int) := by rw [IntKind.wrap_u16]; omega
                  rw [Option.bind_some]
                  refine Ev.congr (fun k => if_pos (by rfl)) ?_
                  show Ev (fun k => if (str v).toList = [] then (if (n : Int) = 0 then some (0, 0, 0, false) else some ((c : Int), (q : Int), IntKind.u16.wrap (n : Int), true)) else some (0, 0, 0, false)) _
                  rw [str_toList, en]
                  by_cases hv : v = []
                  · refine Ev.congr (fun k => if_pos hv) ?_
                    by_cases h0 : n = 0
                    · refine Ev.congr (fun k => if_pos (by omega)) (ev_eq (Ev.now _) ?_)
                      rw [if_pos hv, if_pos h0]; rfl
                    · refine Ev.congr (fun k => if_neg (by omega)) (ev_eq (Ev.now _) ?_)
                      rw [if_pos hv, if_neg h0]; rfl
                  · refine Ev.congr (fun k => if_neg hv) (ev_eq (Ev.now _) ?_)
                    rw [if_neg hv]; rfl
              · have hzn : ¬ ((z.toNat : Int) = 46) := fun e => hz ((u8_eq (n := 46) (by omega)).2 (by omega))
                refine Ev.congr (fun k => if_neg hzn) (ev_eq (Ev.now _) ?_)
                rw [if_neg (List.cons_ne_nil _ _), if_neg (by simpa using hz)]
                rfl
      · have hyn : ((y.toNat : Int) != 45) = true := by
          rw [bne_iff_ne]
          intro e
          exact hy ((u8_eq (n := 45) (by omega)).2 (by omega))
        rw [hyn]
        refine ev_eq (j0_no _ _) ?_
        rw [if_neg (by simpa using hy)]
        rfl
end Go.Proofs.YtdohibibmagpaaaDoor.IdPure
