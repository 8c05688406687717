/- A frame opened: what a frame and whatever stands behind it open as; a byte turned behind the length is told by another sum. No program is in sight. -/
import Derived.Test.YtlledjfhpdgbhaaFrameMath
import Derived.Test.YtlledjfhpdgbhaaWMore
namespace Go.Proofs.Ytlledjfhpdgbhaa.FM
open Go.Proofs.YtlledjfhpdgbhaaW.PrintWords Go.Proofs.YtlledjfhpdgbhaaW.PrintMore
theorem opened_of {p S more : List Int} (hp : p.length ≤ 65536) (hS : S.length = 4) :
    opened (be 4 p.length ++ (S ++ (p ++ more))) = if crc (be 4 p.length ++ p) = num S then (p, 8 + (p.length : Int), 0) else ([], 0, 21) := by
  have hA : (be 4 p.length).length = 4 := be_length 4 _
  have hnA : num (be 4 p.length) = p.length := by rw [num_be]; omega
  have t4 : (be 4 p.length ++ (S ++ (p ++ more))).take 4 = be 4 p.length := List.take_left' hA
  have d4 : (be 4 p.length ++ (S ++ (p ++ more))).drop 4 = S ++ (p ++ more) := List.drop_left' hA
  have hln : (be 4 p.length ++ (S ++ (p ++ more))).length = 8 + p.length + more.length := by simp [hA, hS]; omega
  unfold opened
  rw [if_neg (by omega), t4, hnA, if_neg (by omega), if_neg (by omega), d4, List.take_left' hS]
  have hm : ((be 4 p.length ++ (S ++ (p ++ more))).take (8 + (p.length : Int)).toNat).drop 8 = p := by
    rw [show (8 + (p.length : Int)).toNat = 8 + p.length by omega]
    have e : be 4 p.length ++ (S ++ (p ++ more)) = (be 4 p.length ++ S) ++ (p ++ more) := by simp
    have hl8 : (be 4 p.length ++ S).length = 8 := by simp [hA, hS]
    rw [e, List.take_append, hl8, List.take_of_length_le (by omega), show 8 + p.length - 8 = p.length by omega, List.take_left' rfl, List.drop_left' hl8]
  rw [hm]
theorem framed_eq (p more : List Int) : framed p ++ more = be 4 p.length ++ (be 4 (crc (be 4 p.length ++ p)) ++ (p ++ more)) := by simp [framed]
theorem opened_framed {p more : List Int} (hb : Bytes p) (hp : p.length ≤ 65536) : opened (framed p ++ more) = (p, 8 + (p.length : Int), 0) := by
  have hc := crc_lt (bytes_append (be_bytes 4 p.length) hb)
  rw [framed_eq, opened_of hp (be_length 4 _), num_be, Int.emod_eq_of_lt hc.1 (by have := hc.2; omega), if_pos rfl]
theorem set_other {l : List Int} {i : Nat} {b : Int} (hi : i < l.length) (hne : b ≠ l[i]) : l.set i b ≠ l := fun h => hne (by
  have : (l.set i b)[i]? = l[i]? := by rw [h]
  simpa [hi] using this)
theorem crc_set {a l : List Int} {i : Nat} {b : Int} (ha : Bytes a) (hl : Bytes l) (hb : Byte b) (hi : i < l.length) (hne : b ≠ l[i]) : crc (a ++ l.set i b) ≠ crc (a ++ l) := by
  have e1 : a ++ l = (a ++ l.take i) ++ l[i] :: l.drop (i + 1) := by
    rw [List.append_assoc, ← List.drop_eq_getElem_cons hi, List.take_append_drop]
  have e2 : a ++ l.set i b = (a ++ l.take i) ++ b :: l.drop (i + 1) := by
    rw [List.append_assoc, List.set_eq_take_append_cons_drop, if_pos hi]
  rw [e1, e2]
  exact crc_other (bytes_append ha (bytes_take hl i)) hb (hl _ (List.getElem_mem hi)) (bytes_drop hl _) hne
theorem bytes_set {l : List Int} (h : Bytes l) {i : Nat} {b : Int} (hb : Byte b) : Bytes (l.set i b) := fun x hx => by
  rcases List.mem_or_eq_of_mem_set hx with h' | rfl
  · exact h x h'
  · exact hb
theorem opened_turned {p : List Int} (hb : Bytes p) (hp : p.length ≤ 65536) {i : Nat} (h4 : 4 ≤ i) (hi : i < (framed p).length) {b : Int} (hbb : Byte b) (hne : b ≠ (framed p)[i]) : opened ((framed p).set i b) = ([], 0, 21) := by
  have hA : (be 4 p.length).length = 4 := be_length 4 _
  have hc := crc_lt (bytes_append (be_bytes 4 p.length) hb)
  have hf : framed p = be 4 p.length ++ (be 4 (crc (be 4 p.length ++ p)) ++ p) := by simp [framed]
  have hS := be_bytes 4 (crc (be 4 p.length ++ p))
  have hSl : (be 4 (crc (be 4 p.length ++ p))).length = 4 := be_length 4 _
  have hnS : num (be 4 (crc (be 4 p.length ++ p))) = crc (be 4 p.length ++ p) := by rw [num_be, Int.emod_eq_of_lt hc.1 (by have := hc.2; omega)]
  have hln := framed_length p
  have hgi : ∀ (h : i < (framed p).length), (framed p)[i] = (be 4 (crc (be 4 p.length ++ p)) ++ p)[i - 4]'(by simp [hSl]; omega) := by
    intro h
    have : (framed p)[i]? = (be 4 (crc (be 4 p.length ++ p)) ++ p)[i - 4]? := by
      rw [hf, List.getElem?_append_right (by omega), hA]
    rw [List.getElem?_eq_getElem h, List.getElem?_eq_getElem (by simp [hSl]; omega)] at this
    exact Option.some.inj this
  rw [hgi hi] at hne
  have hset : (framed p).set i b = be 4 p.length ++ (be 4 (crc (be 4 p.length ++ p)) ++ p).set (i - 4) b := by
    rw [hf, List.set_append_right _ _ (by omega), hA]
  rw [hset]
  by_cases h8 : i < 8
  · have e1 : (be 4 (crc (be 4 p.length ++ p)) ++ p).set (i - 4) b = (be 4 (crc (be 4 p.length ++ p))).set (i - 4) b ++ (p ++ []) := by
      rw [List.set_append_left _ _ (by omega), List.append_nil]
    rw [List.getElem_append_left (by omega)] at hne
    have hno : ¬ crc (be 4 p.length ++ p) = num ((be 4 (crc (be 4 p.length ++ p))).set (i - 4) b) := fun h =>
      set_other (by omega) hne (num_inj (bytes_set hS hbb) hS (by simp) (h.symm.trans hnS.symm))
    rw [e1, opened_of hp (by simp [hSl]), if_neg hno]
  · have e1 : (be 4 (crc (be 4 p.length ++ p)) ++ p).set (i - 4) b = be 4 (crc (be 4 p.length ++ p)) ++ (p.set (i - 8) b ++ []) := by
      rw [List.set_append_right _ _ (by omega), hSl, List.append_nil, show i - 4 - 4 = i - 8 by omega]
    have e2 : (p.set (i - 8) b).length = p.length := by simp
    have h9 := opened_of (p := p.set (i - 8) b) (S := be 4 (crc (be 4 p.length ++ p))) (more := []) (by omega) hSl
    rw [e2] at h9
    rw [List.getElem_append_right (by omega)] at hne
    simp only [hSl] at hne
    have hno : ¬ crc (be 4 p.length ++ p.set (i - 8) b) = num (be 4 (crc (be 4 p.length ++ p))) := by
      rw [hnS]
      exact crc_set (be_bytes 4 _) hb hbb (by omega) (by simpa [show i - 4 - 4 = i - 8 by omega] using hne)
    rw [e1, h9, if_neg hno]
/-- One bit turned makes another byte. -/
theorem turned {x j : Int} (hx : Byte x) (h0 : 0 ≤ j) (h1 : j < 8) : Byte (Go.bits .xor .u8 x (shl .u8 1 j)) ∧ Go.bits .xor .u8 x (shl .u8 1 j) ≠ x := by
  obtain ⟨x0, x1⟩ := hx
  have hs : shl .u8 1 j = ((2 ^ j.toNat : Nat) : Int) := by
    unfold shl
    rw [IntKind.wrap_u8, show min j.toNat IntKind.u8.bits = j.toNat by simp [IntKind.bits]; omega]
    have : j.toNat < 8 := by omega
    have h2 : (2 : Nat) ^ j.toNat < 256 := Nat.pow_lt_pow_right (n := 8) (by decide) this
    have h3 : (2 : Int) ^ j.toNat = ((2 ^ j.toNat : Nat) : Int) := by simp
    rw [Int.one_mul, h3]
    generalize (2 : Nat) ^ j.toNat = q at *
    omega
  have h2 : (2 : Nat) ^ j.toNat < 256 := Nat.pow_lt_pow_right (n := 8) (by decide) (by omega)
  have h3 : 0 < (2 : Nat) ^ j.toNat := Nat.pow_pos (by decide)
  rw [hs, u8_xor x _ x0 x1 (by omega) (by omega), Int.toNat_natCast]
  refine ⟨⟨by omega, ?_⟩, fun h => ?_⟩
  · have := Nat.xor_lt_two_pow (n := 8) (x := x.toNat) (y := 2 ^ j.toNat) (by omega) h2
    omega
  · have h4 : x.toNat ^^^ 2 ^ j.toNat = x.toNat := by omega
    have h5 : (x.toNat ^^^ 2 ^ j.toNat) ^^^ x.toNat = x.toNat ^^^ x.toNat := by rw [h4]
    rw [Nat.xor_comm, ← Nat.xor_assoc, Nat.xor_self, Nat.zero_xor] at h5
    omega
end Go.Proofs.Ytlledjfhpdgbhaa.FM
