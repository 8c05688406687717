/- The plain arithmetic of frames: sums bit by bit, numbers in bytes, a frame written and opened; no program is in sight. -/
import Derived.Laws.BitsAllLaws
import Derived.Laws.Bits64
namespace Go.Proofs.Ytlledjfhpdgbhaa.FM
/-- One bit of a sum. -/
def bit (c : Nat) : Nat := if c % 2 = 1 then c / 2 ^^^ 3988292384 else c / 2
theorem half_lt {c : Nat} (h : c < 4294967296) : c / 2 < 2147483648 := by omega
theorem bit_lt {c : Nat} (h : c < 4294967296) : bit c < 4294967296 := by
  unfold bit
  split
  · exact Nat.xor_lt_two_pow (n := 32) (by omega) (by decide)
  · omega
theorem top_of {c : Nat} (h : c < 4294967296) : (bit c).testBit 31 = decide (c % 2 = 1) := by
  unfold bit
  have h0 : (c / 2).testBit 31 = false := Nat.testBit_lt_two_pow (by omega)
  split
  · rename_i h1
    rw [Nat.testBit_xor, h0]
    simp [h1]
    decide
  · rename_i h1
    rw [h0]
    simp [h1]
theorem xor_cancel {a b c : Nat} (h : a ^^^ c = b ^^^ c) : a = b := by
  have h2 : (a ^^^ c) ^^^ c = (b ^^^ c) ^^^ c := by rw [h]
  simpa [Nat.xor_assoc] using h2
theorem bit_inj {c d : Nat} (hc : c < 4294967296) (hd : d < 4294967296) (h : bit c = bit d) : c = d := by
  have h1 := top_of hc
  have h2 := top_of hd
  rw [h] at h1
  rw [h1] at h2
  have hp : (c % 2 = 1) ↔ (d % 2 = 1) := by simpa using h2
  unfold bit at h
  by_cases e : c % 2 = 1
  · rw [if_pos e, if_pos (hp.1 e)] at h
    have := xor_cancel h
    have := hp.1 e
    omega
  · rw [if_neg e, if_neg (fun x => e (hp.2 x))] at h
    have : ¬ d % 2 = 1 := fun x => e (hp.2 x)
    omega
def bitn : Nat → Nat → Nat
  | 0, c => c
  | j + 1, c => bitn j (bit c)
theorem bitn_lt : ∀ j {c : Nat}, c < 4294967296 → bitn j c < 4294967296
  | 0, _, h => h
  | j + 1, _, h => bitn_lt j (bit_lt h)
theorem bitn_inj : ∀ j {c d : Nat}, c < 4294967296 → d < 4294967296 → bitn j c = bitn j d → c = d
  | 0, _, _, _, _, h => h
  | j + 1, _, _, hc, hd, h => bit_inj hc hd (bitn_inj j (bit_lt hc) (bit_lt hd) h)
/-- A byte more. -/
def up (c : Nat) (b : Int) : Nat := bitn 8 (c ^^^ b.toNat)
def Byte (b : Int) : Prop := 0 ≤ b ∧ b < 256
def Bytes (l : List Int) : Prop := ∀ b ∈ l, Byte b
theorem xor_lt {c : Nat} {b : Int} (hc : c < 4294967296) (hb : Byte b) : c ^^^ b.toNat < 4294967296 :=
  Nat.xor_lt_two_pow (n := 32) hc (by have := hb.1; have := hb.2; omega)
theorem up_lt {c : Nat} {b : Int} (hc : c < 4294967296) (hb : Byte b) : up c b < 4294967296 := bitn_lt 8 (xor_lt hc hb)
theorem up_inj {c d : Nat} {b : Int} (hc : c < 4294967296) (hd : d < 4294967296) (hb : Byte b) (h : up c b = up d b) : c = d :=
  xor_cancel (bitn_inj 8 (xor_lt hc hb) (xor_lt hd hb) h)
theorem up_other {c : Nat} {b b' : Int} (hc : c < 4294967296) (hb : Byte b) (hb' : Byte b') (h : up c b = up c b') : b = b' := by
  have h1 := bitn_inj 8 (xor_lt hc hb) (xor_lt hc hb') h
  rw [Nat.xor_comm c, Nat.xor_comm c] at h1
  have := xor_cancel h1
  have := hb.1; have := hb'.1
  omega
def fold (c : Nat) (l : List Int) : Nat := l.foldl up c
theorem fold_lt : ∀ (l : List Int) {c : Nat}, c < 4294967296 → Bytes l → fold c l < 4294967296
  | [], _, h, _ => h
  | b :: l, _, h, hl => fold_lt l (up_lt h (hl b (by simp))) (fun x hx => hl x (by simp [hx]))
theorem fold_inj : ∀ (l : List Int) {c d : Nat}, c < 4294967296 → d < 4294967296 → Bytes l → fold c l = fold d l → c = d
  | [], _, _, _, _, _, h => h
  | b :: l, _, _, hc, hd, hl, h =>
    up_inj hc hd (hl b (by simp)) (fold_inj l (up_lt hc (hl b (by simp))) (up_lt hd (hl b (by simp))) (fun x hx => hl x (by simp [hx])) h)
theorem fold_append (c : Nat) (a b : List Int) : fold c (a ++ b) = fold (fold c a) b := by simp [fold]
/-- The sum of bytes. -/
def crc (l : List Int) : Int := ((4294967295 ^^^ fold 4294967295 l : Nat) : Int)
theorem crc_lt {l : List Int} (h : Bytes l) : 0 ≤ crc l ∧ crc l < 4294967296 := by
  unfold crc
  have := Nat.xor_lt_two_pow (n := 32) (x := 4294967295) (by decide) (fold_lt l (c := 4294967295) (by decide) h)
  omega
/-- One byte turned: another sum. -/
theorem crc_other {a : List Int} {b b' : Int} {r : List Int} (ha : Bytes a) (hb : Byte b) (hb' : Byte b') (hr : Bytes r) (hne : b ≠ b') : crc (a ++ b :: r) ≠ crc (a ++ b' :: r) := by
  intro h
  unfold crc at h
  have h1 : 4294967295 ^^^ fold 4294967295 (a ++ b :: r) = 4294967295 ^^^ fold 4294967295 (a ++ b' :: r) := by exact_mod_cast h
  rw [Nat.xor_comm, Nat.xor_comm 4294967295] at h1
  have h2 := xor_cancel h1
  rw [fold_append, fold_append] at h2
  have hf := fold_lt a (c := 4294967295) (by decide) ha
  exact hne (up_other hf hb hb' (fold_inj r (up_lt hf hb) (up_lt hf hb') hr h2))
/-! ### as Go's operations tell it -/
theorem go_bit {c : Nat} (h : c < 4294967296) : Go.bits .xor .u32 ((c : Int) / 2) ((3988292384 * Go.bits .and .u32 (c : Int) 1) % 4294967296) = (bit c : Int) := by
  have h1 : Go.bits .and .u32 (c : Int) 1 = ((c % 2 : Nat) : Int) := by
    have := u32_and_nat c 1 h (by decide)
    rw [Nat.and_one_is_mod] at this
    exact this
  rw [h1]
  have h2 : ((c : Int) / 2) = ((c / 2 : Nat) : Int) := by omega
  rw [h2]
  unfold bit
  by_cases e : c % 2 = 1
  · rw [if_pos e, e]
    exact u32_xor_nat (c / 2) 3988292384 (by omega) (by decide)
  · rw [if_neg e, show c % 2 = 0 by omega]
    have := u32_xor_nat (c / 2) 0 (by omega) (by decide)
    simpa using this
theorem go_bit1 {c : Nat} (h : c < 4294967296) (e : c % 2 = 1) : Go.bits .xor .u32 ((c : Int) / 2) 3988292384 = (bit c : Int) := by
  have h2 : ((c : Int) / 2) = ((c / 2 : Nat) : Int) := by omega
  rw [h2]
  unfold bit
  rw [if_pos e]
  exact u32_xor_nat (c / 2) 3988292384 (by omega) (by decide)
theorem go_bit0 {c : Nat} (e : ¬ c % 2 = 1) : (c : Int) / 2 = (bit c : Int) := by
  unfold bit
  rw [if_neg e]
  omega
theorem go_odd {c : Nat} (h : c < 4294967296) : (Go.bits .and .u32 (c : Int) 1 = 1) ↔ c % 2 = 1 := by
  have := u32_and_nat c 1 h (by decide)
  rw [Nat.and_one_is_mod] at this
  rw [show Go.bits .and .u32 (c : Int) 1 = ((c % 2 : Nat) : Int) from this]
  omega
theorem go_xor {c : Nat} {b : Int} (h : c < 4294967296) (hb : Byte b) : Go.bits .xor .u32 (c : Int) (b % 4294967296) = ((c ^^^ b.toNat : Nat) : Int) := by
  have h0 := hb.1; have h1 := hb.2
  have := u32_xor_nat c b.toNat h (by omega)
  rw [← this]
  congr 1
  omega
theorem go_not {c : Nat} (h : c < 4294967296) : Go.bits .xor .u32 4294967295 (c : Int) = ((4294967295 ^^^ c : Nat) : Int) := u32_xor_nat 4294967295 c (by decide) h
/-! ### numbers in bytes -/
def be : Nat → Int → List Int
  | 0, _ => []
  | n + 1, v => v / 2 ^ (8 * n) % 256 :: be n v
theorem be_length : ∀ n v, (be n v).length = n
  | 0, _ => rfl
  | n + 1, v => by simp [be, be_length n v]
theorem be_bytes : ∀ n v, Bytes (be n v)
  | 0, _ => fun _ h => by cases h
  | n + 1, v => fun b h => by
    rcases List.mem_cons.1 h with rfl | h
    · exact ⟨by omega, by omega⟩
    · exact be_bytes n v b h
theorem pow_mono {m n : Nat} (h : m ≤ n) : (256 : Int) ^ m ≤ 256 ^ n := by
  obtain ⟨d, rfl⟩ := Nat.exists_eq_add_of_le h
  clear h
  induction d with
  | zero => exact Int.le_refl _
  | succ d ih =>
    have hp : (0 : Int) < 256 ^ (m + d) := Int.pow_pos (by decide)
    rw [← Nat.add_assoc, Int.pow_succ]
    omega
def num (l : List Int) : Int := l.foldl (fun a b => a * 256 + b) 0
theorem foldn (l : List Int) : ∀ a : Int, l.foldl (fun a b => a * 256 + b) a = a * 256 ^ l.length + num l := by
  unfold num
  induction l with
  | nil => intro a; simp
  | cons b l ih =>
    intro a
    simp only [List.foldl_cons, List.length_cons]
    rw [ih, ih (0 * 256 + b)]
    rw [Int.pow_succ, Int.add_mul]
    simp only [Int.zero_mul, Int.zero_add, Int.mul_assoc]
    rw [Int.mul_comm 256 (256 ^ l.length)]
    omega
theorem num_cons (b : Int) (l : List Int) : num (b :: l) = b * 256 ^ l.length + num l := by
  have := foldn l b
  simpa [num] using this
theorem num_range : ∀ (l : List Int), Bytes l → 0 ≤ num l ∧ num l < 256 ^ l.length
  | [], _ => by simp [num]
  | b :: l, h => by
    obtain ⟨h1, h2⟩ := num_range l (fun x hx => h x (by simp [hx]))
    obtain ⟨h3, h4⟩ := h b (by simp)
    have hp : (0 : Int) < 256 ^ l.length := Int.pow_pos (by decide)
    rw [num_cons, List.length_cons, Int.pow_succ]
    generalize (256 : Int) ^ l.length = q at *
    have h5 : 0 ≤ b * q := Int.mul_nonneg h3 (Int.le_of_lt hp)
    have h6 : b * q ≤ 255 * q := Int.mul_le_mul_of_nonneg_right (by omega) (Int.le_of_lt hp)
    omega
theorem num_append (a b : List Int) : num (a ++ b) = num a * 256 ^ b.length + num b := by
  unfold num
  rw [List.foldl_append, foldn b]
  rfl
theorem num_be : ∀ n (v : Int), num (be n v) = v % 256 ^ n
  | 0, v => by simp [be, num]
  | n + 1, v => by
    rw [be, num_cons, be_length, num_be n v]
    have e : (2 : Int) ^ (8 * n) = 256 ^ n := by rw [Int.pow_mul]; rfl
    have hq : (0 : Int) < 256 ^ n := Int.pow_pos (by decide)
    rw [e, Int.pow_succ]
    generalize (256 : Int) ^ n = q at *
    have h1 : v % q + q * (v / q) = v := Int.emod_add_mul_ediv v q
    have h2 : v / q % 256 + 256 * (v / q / 256) = v / q := Int.emod_add_mul_ediv (v / q) 256
    have h3 : 0 ≤ v % q := Int.emod_nonneg v (by omega)
    have h4 : v % q < q := Int.emod_lt_of_pos v hq
    have h5 : 0 ≤ v / q % 256 ∧ v / q % 256 < 256 := by omega
    generalize v / q % 256 = s at *
    generalize v / q / 256 = t at *
    generalize v % q = r at *
    have h6 : v = (s * q + r) + (q * 256) * t := by
      rw [← h1, ← h2, Int.mul_add, Int.mul_comm q s, Int.mul_assoc q 256 t]
      omega
    rw [h6, Int.add_mul_emod_self_left]
    have h7 : 0 ≤ s * q := Int.mul_nonneg h5.1 (Int.le_of_lt hq)
    have h8 : s * q ≤ 255 * q := Int.mul_le_mul_of_nonneg_right (by omega) (Int.le_of_lt hq)
    rw [Int.emod_eq_of_lt (by omega) (by omega)]
theorem be_num : ∀ (l : List Int), Bytes l → be l.length (num l) = l
  | [], _ => rfl
  | b :: l, h => by
    have hl : Bytes l := fun x hx => h x (by simp [hx])
    obtain ⟨h1, h2⟩ := num_range l hl
    obtain ⟨h3, h4⟩ := h b (by simp)
    have hp : (0 : Int) < 256 ^ l.length := Int.pow_pos (by decide)
    rw [List.length_cons, be]
    have e : (2 : Int) ^ (8 * l.length) = 256 ^ l.length := by rw [Int.pow_mul]; rfl
    have h5 : num (b :: l) / 2 ^ (8 * l.length) = b := by
      rw [e, num_cons, Int.mul_comm, Int.mul_add_ediv_left _ _ (by omega), Int.ediv_eq_zero_of_lt h1 h2]
      omega
    have h6 : ∀ m (b v w : Int), be m (b * 256 ^ (m + w.toNat) + v) = be m v := by
      intro m
      induction m with
      | zero => intros; rfl
      | succ m ih =>
        intro b v w
        rw [be, be]
        have := ih (b * 256) v w
        have e1 : b * 256 * 256 ^ (m + w.toNat) = b * 256 ^ (m + 1 + w.toNat) := by
          rw [show m + 1 + w.toNat = (m + w.toNat) + 1 by omega, Int.pow_succ, Int.mul_assoc, Int.mul_comm 256]
        rw [e1] at this
        rw [this]
        congr 1
        have e2 : (2 : Int) ^ (8 * m) = 256 ^ m := by rw [Int.pow_mul]; rfl
        rw [e2]
        have e3 : b * 256 ^ (m + 1 + w.toNat) = 256 ^ m * (b * 256 ^ w.toNat * 256) := by
          rw [show m + 1 + w.toNat = m + (w.toNat + 1) by omega, Int.pow_add, Int.pow_succ]
          rw [← Int.mul_assoc, Int.mul_comm b, Int.mul_assoc, ← Int.mul_assoc b]
        have hq : (256 : Int) ^ m ≠ 0 := by have : (0 : Int) < 256 ^ m := Int.pow_pos (by decide); omega
        rw [e3, Int.mul_add_ediv_left _ _ hq]
        omega
    rw [h5, num_cons]
    have := h6 l.length b (num l) 0
    simp only [Int.toNat_zero, Nat.add_zero] at this
    rw [this, be_num l hl]
    congr 1
    omega
theorem be_inj {n : Nat} {v w : Int} (hv : 0 ≤ v ∧ v < 256 ^ n) (hw : 0 ≤ w ∧ w < 256 ^ n) (h : be n v = be n w) : v = w := by
  have h1 := num_be n v
  have h2 := num_be n w
  rw [h, h2, Int.emod_eq_of_lt hv.1 hv.2, Int.emod_eq_of_lt hw.1 hw.2] at h1
  exact h1.symm
theorem num_inj {a b : List Int} (ha : Bytes a) (hb : Bytes b) (hl : a.length = b.length) (h : num a = num b) : a = b := by
  rw [← be_num a ha, ← be_num b hb, h, hl]
theorem go_or {v b : Int} (h0 : 0 ≤ v) (h1 : v < 72057594037927936) (hb : Byte b) : Go.bits .or .u64 (IntKind.u64.wrap (v * 256)) (IntKind.u64.wrap b) = v * 256 + b := by
  obtain ⟨hb0, hb1⟩ := hb
  rw [IntKind.wrap_u64, IntKind.wrap_u64, Int.emod_eq_of_lt (by omega) (by omega), Int.emod_eq_of_lt (by omega) (by omega)]
  have := u64_or_nat (v * 256).toNat b.toNat (by omega) (by omega)
  rw [show (((v * 256).toNat : Nat) : Int) = v * 256 by omega, show ((b.toNat : Nat) : Int) = b by omega] at this
  rw [this]
  have e : (v * 256).toNat ||| b.toNat = (v * 256).toNat + b.toNat := by
    have := Nat.two_pow_add_eq_or_of_lt (i := 8) (b := b.toNat) (by omega) v.toNat
    rw [show (v * 256).toNat = 2 ^ 8 * v.toNat by omega]
    exact this.symm
  rw [e]
  omega
/-! ### a frame -/
def framed (p : List Int) : List Int := be 4 p.length ++ be 4 (crc (be 4 p.length ++ p)) ++ p
def opened (l : List Int) : List Int × Int × Int :=
  if l.length < 8 then ([], 0, 23) else
  if num (l.take 4) > 65536 then ([], 0, 22) else
  if (l.length : Int) - 8 < num (l.take 4) then ([], 0, 23) else
  if crc (be 4 (num (l.take 4)) ++ ((l.take (8 + num (l.take 4)).toNat).drop 8)) = num ((l.drop 4).take 4) then ((l.take (8 + num (l.take 4)).toNat).drop 8, 8 + num (l.take 4), 0) else ([], 0, 21)
theorem bytes_append {a b : List Int} (ha : Bytes a) (hb : Bytes b) : Bytes (a ++ b) := fun x hx => (List.mem_append.1 hx).elim (ha x) (hb x)
theorem bytes_take {l : List Int} (h : Bytes l) (n : Nat) : Bytes (l.take n) := fun x hx => h x (List.mem_of_mem_take hx)
theorem bytes_drop {l : List Int} (h : Bytes l) (n : Nat) : Bytes (l.drop n) := fun x hx => h x (List.mem_of_mem_drop hx)
theorem framed_bytes {p : List Int} (h : Bytes p) : Bytes (framed p) := bytes_append (bytes_append (be_bytes _ _) (be_bytes _ _)) h
theorem framed_length (p : List Int) : (framed p).length = p.length + 8 := by simp [framed, be_length]; omega
end Go.Proofs.Ytlledjfhpdgbhaa.FM
