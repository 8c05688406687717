import Derived.Test.YtdohibibmagpaaaDoorIdDigits
import Derived.Test.YtdohibibmagpaaaDoorIdParse
import Derived.Test.YtdohibibmagpaaaDoorSx4
import Derived.Test.YtdohibibmagpaaaDoorSx6
namespace Go.Proofs.YtdohibibmagpaaaDoor.IdPure
open Go.Lib Go.RowKit Go.Proofs.YtdohibibmagpaaaDoorW.PrintWords Go.Proofs.YtdohibibmagpaaaDoor.IdNum Go.Proofs.YtdohibibmagpaaaDoor.S
set_option linter.unusedVariables false
set_option linter.unusedSimpArgs false

/-! Where a byte stands first. -/
theorem index_at (x : UInt8) (r : List UInt8) : ∀ l : List UInt8, x ∉ l → Lib.index (l ++ x :: r) [x] = (l.length : Int) := by
  intro l
  induction l with
  | nil => intro _; simp [Lib.index, List.isPrefixOf]
  | cons b l ih =>
    intro h
    have hb : ¬ (x = b) := fun e => h (by simp [e])
    have hi := ih (fun e => h (by simp [e]))
    rw [List.cons_append, Lib.index, hi]
    have h1 : ([x].isPrefixOf (b :: (l ++ x :: r))) = false := by simp [List.isPrefixOf, hb]
    rw [h1]
    have h2 : ((l.length : Int) == -1) = false := by rw [beq_eq_false_iff_ne]; omega
    simp only [Bool.false_eq_true, if_false, h2, List.length_cons]
    omega
theorem index_no (x : UInt8) : ∀ l : List UInt8, x ∉ l → Lib.index l [x] = -1 := by
  intro l
  induction l with
  | nil => intro _; rfl
  | cons b l ih =>
    intro h
    have hb : ¬ (x = b) := fun e => h (by simp [e])
    have hi := ih (fun e => h (by simp [e]))
    rw [Lib.index, hi]
    have h1 : ([x].isPrefixOf (b :: l)) = false := by simp [List.isPrefixOf, hb]
    rw [h1]
    simp
theorem cut_at (x : UInt8) (l r : List UInt8) (h : x ∉ l) : Lib.cut (l ++ x :: r) [x] = (l, r, true) := by
  unfold Lib.cut
  rw [index_at x r l h, if_pos (by omega)]
  simp
theorem cut_no (x : UInt8) (l : List UInt8) (h : x ∉ l) : Lib.cut l [x] = (l, [], false) := by
  unfold Lib.cut
  rw [index_no x l h, if_neg (by omega)]

theorem dec_no (u : Nat) (x : UInt8) (hx : ¬ Dig x) : x ∉ decDigits u := fun h => hx (dec_dig u x h)
theorem not45 : ¬ Dig 45 := by decide
theorem not46 : ¬ Dig 46 := by decide

/-- What Parse makes of a text that Text wrote. -/
theorem text_pieces (c q n : Nat) : pieces (textL c q n) = (decDigits c, decDigits q, decDigits n) := by
  have e1 : textL c q n = decDigits c ++ 45 :: (decDigits q ++ if n = 0 then [] else [46] ++ decDigits n) := by simp [textL]
  have c1 := cut_at 45 (decDigits c) (decDigits q ++ if n = 0 then [] else [46] ++ decDigits n) (dec_no c 45 not45)
  unfold pieces
  rw [e1, c1]
  dsimp only
  by_cases h0 : n = 0
  · subst h0
    rw [if_pos rfl, List.append_nil, cut_no 46 (decDigits q) (dec_no q 46 not46), dec_lt (show 0 < 10 by omega)]
    rfl
  · rw [if_neg h0, show decDigits q ++ ([46] ++ decDigits n) = decDigits q ++ 46 :: decDigits n from rfl, cut_at 46 (decDigits q) (decDigits n) (dec_no q 46 not46)]
    rfl
theorem num_dec (b u : Nat) (hb : 2 ^ b ≤ 18446744073709551616) (hu : u < 2 ^ b) : num b (decDigits u) = (u, true) := by
  unfold num
  rw [parse_dec b u hb hu]
theorem text_parsed (c q n : Nat) (hc : c < 4294967296) (hq : q < 4294967296) (hn : n < 65536) : parsed (textL c q n) = (c, q, n) ∧ parseOk (textL c q n) = true := by
  have h1 : parsed (textL c q n) = (c, q, n) := by
    unfold parsed
    rw [text_pieces]
    dsimp only
    rw [num_dec 32 c (by decide) hc, num_dec 32 q (by decide) hq, num_dec 16 n (by decide) hn]
  refine ⟨h1, ?_⟩
  unfold parseOk
  rw [h1, text_pieces]
  dsimp only
  rw [num_dec 32 c (by decide) hc, num_dec 32 q (by decide) hq, num_dec 16 n (by decide) hn]
  simp

theorem ok_text {s : List UInt8} (h : parseOk s = true) : s = textL (parsed s).1 (parsed s).2.1 (parsed s).2.2 ∧ (parsed s).1 < 4294967296 ∧ (parsed s).2.1 < 4294967296 ∧ (parsed s).2.2 < 65536 := by
  unfold parseOk at h
  simp only [Bool.and_eq_true, decide_eq_true_eq] at h
  exact ⟨h.2.symm, num_lt 32 _, num_lt 32 _, num_lt 16 _⟩

/-! The document's reader. -/
def refL (s : List UInt8) : Option (Nat × Nat × Nat) :=
  (numL 4294967295 s).bind fun x => if x.2.head? = some 45 then
    ((numL 4294967295 x.2.tail).bind fun y => if y.2 = [] then some (x.1, y.1, 0) else if y.2.head? = some 46 then
      ((numL 65535 y.2.tail).bind fun z => if z.2 = [] then (if z.1 = 0 then none else some (x.1, y.1, z.1)) else none) else none) else none

theorem refL_text (c q n : Nat) (hc : c < 4294967296) (hq : q < 4294967296) (hn : n < 65536) : refL (textL c q n) = some (c, q, n) := by
  have e1 : textL c q n = decDigits c ++ 45 :: (decDigits q ++ if n = 0 then [] else [46] ++ decDigits n) := by simp [textL]
  have n1 := numL_dec 4294967295 c (45 :: (decDigits q ++ if n = 0 then [] else [46] ++ decDigits n)) (fun x r e => by cases e; exact not45) (by omega)
  unfold refL
  rw [e1, n1, Option.bind_some]
  refine (if_pos (show (45 :: (decDigits q ++ if n = 0 then [] else [46] ++ decDigits n)).head? = some 45 from rfl)).trans ?_
  show (numL 4294967295 (decDigits q ++ if n = 0 then [] else [46] ++ decDigits n)).bind _ = _
  by_cases h0 : n = 0
  · subst h0
    rw [if_pos rfl, numL_dec 4294967295 q [] (fun x r e => by cases e) (by omega), Option.bind_some]
    rfl
  · rw [if_neg h0, show decDigits q ++ ([46] ++ decDigits n) = decDigits q ++ 46 :: decDigits n from rfl, numL_dec 4294967295 q (46 :: decDigits n) (fun x r e => by cases e; exact not46) (by omega), Option.bind_some]
    have n3 := numL_dec 65535 n [] (fun x r e => by cases e) (by omega)
    rw [List.append_nil] at n3
    refine (if_neg (show ¬ (46 :: decDigits n) = [] by simp)).trans ((if_pos (show (46 :: decDigits n).head? = some 46 from rfl)).trans ?_)
    show (numL 65535 (decDigits n)).bind _ = _
    rw [n3, Option.bind_some]
    exact (if_pos rfl).trans (if_neg h0)

theorem head_tail {l : List UInt8} {x : UInt8} (h : l.head? = some x) : l = x :: l.tail := by
  cases l with
  | nil => cases h
  | cons a r => simp at h; rw [h]; rfl

theorem refL_some {s : List UInt8} {c q n : Nat} (h : refL s = some (c, q, n)) : s = textL c q n ∧ c < 4294967296 ∧ q < 4294967296 ∧ n < 65536 := by
  unfold refL at h
  obtain ⟨⟨c', t⟩, h1, h⟩ := Option.bind_eq_some_iff.1 h
  obtain ⟨b1, e1, _⟩ := numL_some h1
  dsimp only at h
  split at h
  · rename_i ht
    obtain ⟨⟨q', u⟩, h2, h⟩ := Option.bind_eq_some_iff.1 h
    obtain ⟨b2, e2, _⟩ := numL_some h2
    dsimp only at h
    split at h
    · rename_i hu
      cases h
      refine ⟨?_, by omega, by omega, by omega⟩
      rw [e1, head_tail ht, e2, hu]
      simp [textL]
    · split at h
      · rename_i hu
        obtain ⟨⟨n', v⟩, h3, h⟩ := Option.bind_eq_some_iff.1 h
        obtain ⟨b3, e3, _⟩ := numL_some h3
        dsimp only at h
        split at h
        · rename_i hv
          split at h
          · cases h
          · rename_i hn0
            cases h
            refine ⟨?_, by omega, by omega, by omega⟩
            rw [e1, head_tail ht, e2, head_tail hu, e3, hv]
            simp [textL, hn0]
        · cases h
      · cases h
  · cases h

/-- Both readers say the same of any text. -/
theorem readers (s : List UInt8) : refL s = if parseOk s = true then some (parsed s) else none := by
  by_cases h : parseOk s = true
  · rw [if_pos h]
    obtain ⟨e, h1, h2, h3⟩ := ok_text h
    have := refL_text _ _ _ h1 h2 h3
    rw [← e] at this
    exact this
  · rw [if_neg h]
    cases hr : refL s with
    | none => rfl
    | some x =>
      obtain ⟨c, q, n⟩ := x
      obtain ⟨e, h1, h2, h3⟩ := refL_some hr
      have := (text_parsed c q n h1 h2 h3).2
      rw [← e] at this
      exact absurd this h
end Go.Proofs.YtdohibibmagpaaaDoor.IdPure
