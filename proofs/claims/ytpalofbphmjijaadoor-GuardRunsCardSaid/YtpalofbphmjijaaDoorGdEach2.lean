import Derived.Test.YtpalofbphmjijaaDoorGdEach1
namespace Go.Proofs.YtpalofbphmjijaaDoor.Gd
open Go.RowKit Go.Proofs.YtpalofbphmjijaaDoorW.PrintWords
set_option linter.unusedVariables false
set_option linter.unusedSimpArgs false
attribute [local go_sem] store_float

/-- What one run of the k-th function comes to: its error, its value. -/
def code (k : Int) : Int := if 240 ≤ k then 34 else if 220 ≤ k then k else 0
def valOf (k i : Int) : Array Value := if 220 ≤ k then #[.int .i64 0, .int .i64 0, .float .f64 0, .string ⟨#[]⟩, .slice none 0 0] else #[.int .i64 1, .int .i64 i, .float .f64 0, .string ⟨#[]⟩, .slice none 0 0]
theorem ran_st (gr : Nat) (r : Int) (w : World) (h : gr < w.heap.size) : ∀ W W', Below w.heap.size W W' → Ran gr r W → Ran gr r W' := fun W W' hb hp => (hb.block gr h).trans hp

/-- guard.Run of such a function. -/
theorem run_one (k i r : Int) (gr a b c : Nat) (W : World) (hk : 0 ≤ k ∧ k ≤ 255) (hr : 0 ≤ r ∧ r ≤ 100) (ha : W.heap[a]? = some (.cells #[.pointer (some ⟨gr, 0, none⟩)] 48 (0, 0))) (hb : W.heap[b]? = some (.cells #[.int .u8 k] 5 (0, 0))) (hc : W.heap[c]? = some (.cells #[.int .i64 i] 3 (0, 0))) (hg : W.heap[gr]? = some (.cells #[.int .i64 r] 3 (0, 0))) (hne : c ≠ gr) :
    Calls Tryd.prog 11 #[.func (.func 34) #[] #[.pointer (some ⟨a, 0, none⟩), .pointer (some ⟨b, 0, none⟩), .pointer (some ⟨c, 0, none⟩)]] W fun e W' => e = .returned (.tuple #[.agg (valOf k i), .int .i64 (code k)]) ∧ Save (fun k => k = gr) W W' ∧ Ran gr (r + 1) W' := by
  have hS : ∀ q, (fun k => k = gr) q → q < W.heap.size := fun q hq => by rw [show q = gr from hq]; exact blk_lt hg
  by_cases h1 : 240 ≤ k
  · rw [show valOf k i = #[.int .i64 0, .int .i64 0, .float .f64 0, .string ⟨#[]⟩, .slice none 0 0] by rw [valOf, if_pos (by omega)], show code k = 34 by rw [code, if_pos h1]]
    exact run11_pan 34 _ (decide (k % 5 = 1)) W _ _ hS (ran_st gr (r + 1) W (blk_lt hg)) enters34 (fun w' hw => one34_pan k i r gr a b c w' hk hr (blk_below ha hw) (blk_below hb hw) (blk_below hc hw) (blk_below hg hw) hne h1)
  · by_cases h2 : 220 ≤ k
    · rw [show valOf k i = #[.int .i64 0, .int .i64 0, .float .f64 0, .string ⟨#[]⟩, .slice none 0 0] by rw [valOf, if_pos h2], show code k = k by rw [code, if_neg h1, if_pos h2]]
      exact run11_err 34 _ 0 0 0 ⟨#[]⟩ none 0 0 k (by rw [bne_iff_ne]; omega) W _ _ hS (ran_st gr (r + 1) W (blk_lt hg)) enters34 (fun w' hw => one34_err k i r gr a b c w' hk hr (blk_below ha hw) (blk_below hb hw) (blk_below hc hw) (blk_below hg hw) hne h2 (by omega))
    · rw [show valOf k i = #[.int .i64 1, .int .i64 i, .float .f64 0, .string ⟨#[]⟩, .slice none 0 0] by rw [valOf, if_neg h2], show code k = 0 by rw [code, if_neg h1, if_neg h2]]
      exact run11_ok 34 _ 1 i 0 ⟨#[]⟩ none 0 0 W _ _ hS (ran_st gr (r + 1) W (blk_lt hg)) enters34 (fun w' hw => one34_ok k i r gr a b c w' hk hr (blk_below ha hw) (blk_below hb hw) (blk_below hc hw) (blk_below hg hw) hne (by omega))

structure Tri where
  a : Nat
  b : Nat
  c : Nat
def fcell (t : Tri) : Value := .func (.func 34) #[] #[.pointer (some ⟨t.a, 0, none⟩), .pointer (some ⟨t.b, 0, none⟩), .pointer (some ⟨t.c, 0, none⟩)]
/-- What the closures' variables hold. -/
structure At (gr : Nat) (k i : Int) (t : Tri) (W : World) : Prop where
  a : W.heap[t.a]? = some (.cells #[.pointer (some ⟨gr, 0, none⟩)] 48 (0, 0))
  b : W.heap[t.b]? = some (.cells #[.int .u8 k] 5 (0, 0))
  c : W.heap[t.c]? = some (.cells #[.int .i64 i] 3 (0, 0))
  n : t.a ≠ gr ∧ t.b ≠ gr ∧ t.c ≠ gr
theorem At.save {gr : Nat} {k i : Int} {t : Tri} {W W' : World} (h : At gr k i t W) (hs : Save (fun k => k = gr) W W') : At gr k i t W' := ⟨hs.blk h.a h.n.1, hs.blk h.b h.n.2.1, hs.blk h.c h.n.2.2, h.n⟩
def Clos (gr : Nat) (l : List Int) (ts : List Tri) (W : World) : Prop := ts.length = l.length ∧ ∀ (j : Nat) (h : j < l.length) (h' : j < ts.length), At gr l[j] (j : Int) ts[j] W
theorem Clos.save {gr : Nat} {l : List Int} {ts : List Tri} {W W' : World} (h : Clos gr l ts W) (hs : Save (fun k => k = gr) W W') : Clos gr l ts W' := ⟨h.1, fun j h1 h2 => (h.2 j h1 h2).save hs⟩
theorem Clos.nil (gr : Nat) (W : World) : Clos gr [] [] W := ⟨rfl, fun j h => by cases h⟩
theorem Clos.snoc {gr : Nat} {l : List Int} {ts : List Tri} {W : World} {k : Int} {t : Tri} (h : Clos gr l ts W) (ht : At gr k (l.length : Int) t W) : Clos gr (l ++ [k]) (ts ++ [t]) W := by
  refine ⟨by simp [h.1], fun j h1 h2 => ?_⟩
  by_cases hj : j < l.length
  · rw [List.getElem_append_left hj, List.getElem_append_left (by rw [h.1]; exact hj)]
    exact h.2 j hj (by rw [h.1]; exact hj)
  · have e : j = l.length := by simp at h1; omega
    subst e
    simpa [h.1] using ht

/-- How many are run; what they tell. -/
def cnt : List Int → Nat
  | [] => 0
  | k :: r => if 220 ≤ k then 1 else cnt r + 1
def tell : List Int → Int
  | [] => 0
  | k :: r => if 220 ≤ k then code k else tell r
theorem cnt_all {l : List Int} (h : ∀ k ∈ l, k < 220) : cnt l = l.length ∧ tell l = 0 := by
  induction l with
  | nil => exact ⟨rfl, rfl⟩
  | cons k r ih =>
    have hk := h k (by simp)
    obtain ⟨h1, h2⟩ := ih (fun x hx => h x (by simp [hx]))
    simp only [cnt, tell, if_neg (show ¬ 220 ≤ k by omega)]
    exact ⟨by rw [h1]; rfl, h2⟩
theorem cnt_at {l r : List Int} {k : Int} (h : ∀ x ∈ l, x < 220) (hk : 220 ≤ k) : cnt (l ++ k :: r) = l.length + 1 ∧ tell (l ++ k :: r) = code k := by
  induction l with
  | nil => simp [cnt, tell, hk]
  | cons x l ih =>
    have hx := h x (by simp)
    obtain ⟨h1, h2⟩ := ih (fun y hy => h y (by simp [hy]))
    simp only [List.cons_append, cnt, tell, if_neg (show ¬ 220 ≤ x by omega)]
    exact ⟨by rw [h1]; rfl, h2⟩
theorem code_ne {k : Int} (h : 220 ≤ k) : code k ≠ 0 := by unfold code; simp only [h, if_true]; split <;> omega
theorem tell_zero {l : List Int} (h : tell l = 0) : ∀ k ∈ l, k < 220 := by
  induction l with
  | nil => intro k hk; cases hk
  | cons x r ih =>
    unfold tell at h
    split at h
    · rename_i hx; exact absurd h (code_ne hx)
    · intro k hk
      rcases List.mem_cons.1 hk with rfl | hk
      · omega
      · exact ih h k hk
theorem cnt_snoc_bad {l : List Int} {k : Int} (h : tell l ≠ 0) : cnt (l ++ [k]) = cnt l ∧ tell (l ++ [k]) = tell l := by
  induction l with
  | nil => exact absurd rfl h
  | cons x r ih =>
    simp only [List.cons_append, cnt, tell] at h ⊢
    split
    · exact ⟨rfl, rfl⟩
    · rename_i hx
      rw [if_neg hx] at h
      obtain ⟨h1, h2⟩ := ih h
      exact ⟨by rw [h1], h2⟩
theorem cnt_snoc {l : List Int} {k : Int} (h : tell l = 0) : cnt (l ++ [k]) = l.length + 1 ∧ tell (l ++ [k]) = code k := by
  by_cases hk : 220 ≤ k
  · exact cnt_at (tell_zero h) hk
  · obtain ⟨h1, h2⟩ := cnt_all (l := l ++ [k]) (fun x hx => by
      rcases List.mem_append.1 hx with hx | hx
      · exact tell_zero h x hx
      · simp at hx; omega)
    exact ⟨by rw [h1]; simp, by rw [h2]; unfold code; rw [if_neg (by omega), if_neg hk]⟩
theorem cnt_le (l : List Int) : cnt l ≤ l.length := by
  induction l with
  | nil => exact Nat.le_refl _
  | cons x r ih => simp only [cnt]; split <;> simp <;> omega
theorem tell_bd (l : List Int) (h : ∀ k ∈ l, 0 ≤ k ∧ k ≤ 255) : 0 ≤ tell l ∧ tell l ≤ 255 := by
  induction l with
  | nil => decide
  | cons x r ih =>
    simp only [tell]
    split
    · have := h x (by simp); unfold code; split <;> (try split) <;> omega
    · exact ih (fun k hk => h k (by simp [hk]))
/-- The cells of the values that are told. -/
def irow (i : Int) : List Value := [.int .i64 1, .int .i64 i, .float .f64 0, .string ⟨#[]⟩, .slice none 0 0]
def irows : Nat → List Value
  | 0 => []
  | n + 1 => irows n ++ irow n
theorem irows_len (n : Nat) : (irows n).length = n * 5 := by
  induction n with
  | zero => rfl
  | succ n ih => rw [irows, List.length_append, ih]; simp [irow]; omega
theorem irows_get {n j : Nat} (h : j < n) : (irows n)[j * 5 + 1]? = some (.int .i64 (j : Int)) := by
  induction n with
  | zero => omega
  | succ n ih =>
    rw [irows]
    by_cases hj : j < n
    · rw [List.getElem?_append_left (by rw [irows_len]; omega)]
      exact ih hj
    · have e : j = n := by omega
      subst e
      rw [List.getElem?_append_right (by rw [irows_len]; omega), irows_len, show j * 5 + 1 - j * 5 = 1 by omega]
      rfl
end Go.Proofs.YtpalofbphmjijaaDoor.Gd
