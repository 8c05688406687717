import Derived.Test.YtejfmghjmhiodaaGreatDoorVzVal4
namespace Go.Proofs.YtejfmghjmhiodaaGreatDoor.Vz
open Go.RowKit Go.Proofs.YtejfmghjmhiodaaGreatDoorW.PrintWords
set_option linter.unusedVariables false
set_option linter.unusedSimpArgs false
attribute [local go_sem] store_float

def cmpI (a b : Int) : Int := if a < b then -1 else if b < a then 1 else 0
def flt (a b : Nat) : Bool := FloatKind.f64.format.order a b == some Ordering.lt
def fgt (a b : Nat) : Bool := FloatKind.f64.format.order a b == some Ordering.gt
def feq (a b : Nat) : Bool := FloatKind.f64.format.order a b == some Ordering.eq
def cmpF (a b : Nat) : Int := if isNan a then (if isNan b then 0 else -1) else if isNan b then 1 else if flt a b then -1 else if fgt a b then 1 else 0
def negF (f : Nat) : Bool := decide (wrap64 (f : Int) < 0)
def signV (f : Nat) : Int := if negF f then 0 else 1
def floatsV (a b : Nat) : Int := if feq a 0 && feq b 0 then cmpI (signV a) (signV b) else cmpF a b
def kindV (k : Int) : Int := if k < 0 then 0 else if 4 < k then 0 else k

set_option maxHeartbeats 8000000 in
set_option maxRecDepth 100000 in
theorem cmp30 (a b : Int) (W : World) : Calls Tryz.prog 30 #[.int .i64 a, .int .i64 b] W fun e w' => e = .returned (.int .i64 (cmpI a b)) ∧ w' = W := by
  by_cases h1 : a < b
  · rw [show cmpI a b = -1 by rw [cmpI, if_pos h1]]
    go_enter Tryz.func30, Tryz.ntmps30
    go_wp2
    go_ret
    exact ⟨rfl, rfl⟩
  · by_cases h2 : b < a
    · rw [show cmpI a b = 1 by rw [cmpI, if_neg h1, if_pos h2]]
      go_enter Tryz.func30, Tryz.ntmps30
      go_wp2
      go_ret
      exact ⟨rfl, rfl⟩
    · rw [show cmpI a b = 0 by rw [cmpI, if_neg h1, if_neg h2]]
      go_enter Tryz.func30, Tryz.ntmps30
      go_wp2
      go_ret
      exact ⟨rfl, rfl⟩

set_option maxHeartbeats 8000000 in
set_option maxRecDepth 100000 in
theorem cmp32 (a b : Int) (W : World) : Calls Tryz.prog 32 #[.int .i64 a, .int .i64 b] W fun e w' => e = .returned (.int .i64 (cmpI a b)) ∧ w' = W := by
  by_cases h1 : a < b
  · rw [show cmpI a b = -1 by rw [cmpI, if_pos h1]]
    go_enter Tryz.func32, Tryz.ntmps32
    go_wp2
    go_ret
    exact ⟨rfl, rfl⟩
  · by_cases h2 : b < a
    · rw [show cmpI a b = 1 by rw [cmpI, if_neg h1, if_pos h2]]
      go_enter Tryz.func32, Tryz.ntmps32
      go_wp2
      go_ret
      exact ⟨rfl, rfl⟩
    · rw [show cmpI a b = 0 by rw [cmpI, if_neg h1, if_neg h2]]
      go_enter Tryz.func32, Tryz.ntmps32
      go_wp2
      go_ret
      exact ⟨rfl, rfl⟩

set_option maxHeartbeats 8000000 in
set_option maxRecDepth 100000 in
theorem cf_nn (a b : Nat) (ha : (FloatKind.f64.format.order a a != some Ordering.eq) = true) (hb : (FloatKind.f64.format.order b b != some Ordering.eq) = true) (W : World) : Calls Tryz.prog 55 #[.float .f64 a, .float .f64 b] W fun e w' => e = .returned (.int .i64 (0)) ∧ w' = W := by
  go_enter Tryz.func55, Tryz.ntmps55
  go_wp2
  go_ret
  exact ⟨rfl, rfl⟩

set_option maxHeartbeats 8000000 in
set_option maxRecDepth 100000 in
theorem cf_n (a b : Nat) (ha : (FloatKind.f64.format.order a a != some Ordering.eq) = true) (hb : (FloatKind.f64.format.order b b != some Ordering.eq) = false) (W : World) : Calls Tryz.prog 55 #[.float .f64 a, .float .f64 b] W fun e w' => e = .returned (.int .i64 (-1)) ∧ w' = W := by
  go_enter Tryz.func55, Tryz.ntmps55
  go_wp2
  go_ret
  exact ⟨rfl, rfl⟩

set_option maxHeartbeats 8000000 in
set_option maxRecDepth 100000 in
theorem cf_m (a b : Nat) (ha : (FloatKind.f64.format.order a a != some Ordering.eq) = false) (hb : (FloatKind.f64.format.order b b != some Ordering.eq) = true) (W : World) : Calls Tryz.prog 55 #[.float .f64 a, .float .f64 b] W fun e w' => e = .returned (.int .i64 (1)) ∧ w' = W := by
  go_enter Tryz.func55, Tryz.ntmps55
  go_wp2
  go_ret
  exact ⟨rfl, rfl⟩

set_option maxHeartbeats 8000000 in
set_option maxRecDepth 100000 in
theorem cf_lt (a b : Nat) (ha : (FloatKind.f64.format.order a a != some Ordering.eq) = false) (hb : (FloatKind.f64.format.order b b != some Ordering.eq) = false) (hl : (FloatKind.f64.format.order a b == some Ordering.lt) = true) (W : World) : Calls Tryz.prog 55 #[.float .f64 a, .float .f64 b] W fun e w' => e = .returned (.int .i64 (-1)) ∧ w' = W := by
  go_enter Tryz.func55, Tryz.ntmps55
  go_wp2
  go_ret
  exact ⟨rfl, rfl⟩

set_option maxHeartbeats 8000000 in
set_option maxRecDepth 100000 in
theorem cf_gt (a b : Nat) (ha : (FloatKind.f64.format.order a a != some Ordering.eq) = false) (hb : (FloatKind.f64.format.order b b != some Ordering.eq) = false) (hl : (FloatKind.f64.format.order a b == some Ordering.lt) = false) (hg : (FloatKind.f64.format.order a b == some Ordering.gt) = true) (W : World) : Calls Tryz.prog 55 #[.float .f64 a, .float .f64 b] W fun e w' => e = .returned (.int .i64 (1)) ∧ w' = W := by
  go_enter Tryz.func55, Tryz.ntmps55
  go_wp2
  go_ret
  exact ⟨rfl, rfl⟩

set_option maxHeartbeats 8000000 in
set_option maxRecDepth 100000 in
theorem cf_eq (a b : Nat) (ha : (FloatKind.f64.format.order a a != some Ordering.eq) = false) (hb : (FloatKind.f64.format.order b b != some Ordering.eq) = false) (hl : (FloatKind.f64.format.order a b == some Ordering.lt) = false) (hg : (FloatKind.f64.format.order a b == some Ordering.gt) = false) (W : World) : Calls Tryz.prog 55 #[.float .f64 a, .float .f64 b] W fun e w' => e = .returned (.int .i64 (0)) ∧ w' = W := by
  go_enter Tryz.func55, Tryz.ntmps55
  go_wp2
  go_ret
  exact ⟨rfl, rfl⟩
theorem cmp55 (a b : Nat) (W : World) : Calls Tryz.prog 55 #[.float .f64 a, .float .f64 b] W fun e w' => e = .returned (.int .i64 (cmpF a b)) ∧ w' = W := by
  cases ha : isNan a <;> cases hb : isNan b
  · cases hl : flt a b
    · cases hg : fgt a b
      · rw [show cmpF a b = 0 by unfold cmpF; rw [ha, hb, hl, hg]; rfl]
        unfold isNan at ha hb; unfold flt at hl; unfold fgt at hg
        exact cf_eq a b ha hb hl hg W
      · rw [show cmpF a b = 1 by unfold cmpF; rw [ha, hb, hl, hg]; rfl]
        unfold isNan at ha hb; unfold flt at hl; unfold fgt at hg
        exact cf_gt a b ha hb hl hg W
    · rw [show cmpF a b = -1 by unfold cmpF; rw [ha, hb, hl]; rfl]
      unfold isNan at ha hb; unfold flt at hl
      exact cf_lt a b ha hb hl W
  · rw [show cmpF a b = 1 by unfold cmpF; rw [ha, hb]; rfl]
    unfold isNan at ha hb
    exact cf_m a b ha hb W
  · rw [show cmpF a b = -1 by unfold cmpF; rw [ha, hb]; rfl]
    unfold isNan at ha hb
    exact cf_n a b ha hb W
  · rw [show cmpF a b = 0 by unfold cmpF; rw [ha, hb]; rfl]
    unfold isNan at ha hb
    exact cf_nn a b ha hb W

set_option maxHeartbeats 8000000 in
set_option maxRecDepth 100000 in
theorem neg59 (f : Nat) (W : World) : Calls Tryz.prog 59 #[.float .f64 f] W fun e w' => e = .returned (.bool (negF f)) ∧ w' = W := by
  have hc := call37 f
  unfold negF
  go_enter Tryz.func59, Tryz.ntmps59
  go_wp2
  go_ret
  exact ⟨rfl, rfl⟩

set_option maxHeartbeats 8000000 in
set_option maxRecDepth 100000 in
theorem sign54 (f : Nat) (W : World) : Calls Tryz.prog 54 #[.float .f64 f] W fun e w' => e = .returned (.int .i64 (signV f)) ∧ w' = W := by
  unfold signV
  have hn := neg59 f
  generalize negF f = b at hn ⊢
  cases b
  · go_enter Tryz.func54, Tryz.ntmps54
    go_wp2_with (go_at_call 59; refine (hn _).mono ?_; rintro e w1 ⟨rfl, rfl⟩)
    go_ret
    exact ⟨rfl, rfl⟩
  · go_enter Tryz.func54, Tryz.ntmps54
    go_wp2_with (go_at_call 59; refine (hn _).mono ?_; rintro e w1 ⟨rfl, rfl⟩)
    go_ret
    exact ⟨rfl, rfl⟩

set_option maxHeartbeats 8000000 in
set_option maxRecDepth 100000 in
theorem floats33_z (a b : Nat) (ha : (FloatKind.f64.format.order a 0 == some Ordering.eq) = true) (hb : (FloatKind.f64.format.order b 0 == some Ordering.eq) = true) (W : World) : Calls Tryz.prog 33 #[.float .f64 a, .float .f64 b] W fun e w' => e = .returned (.int .i64 (cmpI (signV a) (signV b))) ∧ w' = W := by
  have h1 := sign54 a
  have h2 := sign54 b
  generalize signV a = x at h1 ⊢
  generalize signV b = y at h2 ⊢
  go_enter Tryz.func33, Tryz.ntmps33
  go_wp2_with (first
    | (go_at_call 54; (with_reducible refine (h1 _).mono ?_); rintro e w1 ⟨rfl, rfl⟩)
    | (go_at_call 54; (with_reducible refine (h2 _).mono ?_); rintro e w1 ⟨rfl, rfl⟩)
    | (go_at_call 30; refine (cmp30 x y _).mono ?_; rintro e w1 ⟨rfl, rfl⟩))
  go_ret
  exact ⟨rfl, rfl⟩

set_option maxHeartbeats 8000000 in
set_option maxRecDepth 100000 in
theorem floats33_a (a b : Nat) (ha : (FloatKind.f64.format.order a 0 == some Ordering.eq) = false) (W : World) : Calls Tryz.prog 33 #[.float .f64 a, .float .f64 b] W fun e w' => e = .returned (.int .i64 (cmpF a b)) ∧ w' = W := by
  have h1 := cmp55 a b
  generalize cmpF a b = x at h1 ⊢
  go_enter Tryz.func33, Tryz.ntmps33
  go_wp2_with (go_at_call 55; refine (h1 _).mono ?_; rintro e w1 ⟨rfl, rfl⟩)
  go_ret
  exact ⟨rfl, rfl⟩

set_option maxHeartbeats 8000000 in
set_option maxRecDepth 100000 in
theorem floats33_b (a b : Nat) (ha : (FloatKind.f64.format.order a 0 == some Ordering.eq) = true) (hb : (FloatKind.f64.format.order b 0 == some Ordering.eq) = false) (W : World) : Calls Tryz.prog 33 #[.float .f64 a, .float .f64 b] W fun e w' => e = .returned (.int .i64 (cmpF a b)) ∧ w' = W := by
  have h1 := cmp55 a b
  generalize cmpF a b = x at h1 ⊢
  go_enter Tryz.func33, Tryz.ntmps33
  go_wp2_with (go_at_call 55; refine (h1 _).mono ?_; rintro e w1 ⟨rfl, rfl⟩)
  go_ret
  exact ⟨rfl, rfl⟩
theorem floats33 (a b : Nat) (W : World) : Calls Tryz.prog 33 #[.float .f64 a, .float .f64 b] W fun e w' => e = .returned (.int .i64 (floatsV a b)) ∧ w' = W := by
  cases ha : feq a 0
  · rw [show floatsV a b = cmpF a b by unfold floatsV; rw [ha, Bool.false_and, if_neg (by decide)]]
    unfold feq at ha
    exact floats33_a a b ha W
  · cases hb : feq b 0
    · rw [show floatsV a b = cmpF a b by unfold floatsV; rw [ha, hb, Bool.true_and, if_neg (by decide)]]
      unfold feq at ha hb
      exact floats33_b a b ha hb W
    · rw [show floatsV a b = cmpI (signV a) (signV b) by unfold floatsV; rw [ha, hb, Bool.true_and, if_pos rfl]]
      unfold feq at ha hb
      exact floats33_z a b ha hb W

set_option maxHeartbeats 8000000 in
set_option maxRecDepth 100000 in
theorem kind31 (k i : Int) (f : Nat) (s : ByteArray) (A : Option Addr) (n c : Nat) (W : World) : Calls Tryz.prog 31 #[.agg #[.int .i64 k, .int .i64 i, .float .f64 f, .string s, .slice A n c]] W fun e w' => e = .returned (.int .i64 (kindV k)) ∧ Below W.heap.size W w' := by
  by_cases h1 : k < 0
  · rw [show kindV k = 0 by rw [kindV, if_pos h1]]
    go_enter Tryz.func31, Tryz.ntmps31
    go_wp2_with (first
      | ((with_reducible refine gate_dst (N := 1) rfl ?_); refine box_event ?hg (N := 1) ?hd (cs := #[.int .i64 k, .int .i64 i, .float .f64 f, .string s, .slice A n c]) (t := 25) ?hr ?_; (case hd => rfl); (case hg => rfl); (case hr => first | (go_simp; done) | (go_simp; rfl)); intro gb hg w1 hbox hb; have HB := Aside0.mk hb; have b0 : w1.cell? ⟨gb, 0, none⟩ = some (.int .i64 k) := blk_cell hbox 0; have b1 : w1.cell? ⟨gb, 1, none⟩ = some (.int .i64 i) := blk_cell hbox 1; have b2 : w1.cell? ⟨gb, 2, none⟩ = some (.float .f64 f) := blk_cell hbox 2; have b3 : w1.cell? ⟨gb, 3, none⟩ = some (.string s) := blk_cell hbox 3; have b4 : w1.cell? ⟨gb, 4, none⟩ = some (.slice A n c) := blk_cell hbox 4; clear hg hbox hb))
    go_ret
    exact ⟨rfl, HB.out⟩
  · by_cases h2 : 4 < k
    · rw [show kindV k = 0 by rw [kindV, if_neg h1, if_pos h2]]
      go_enter Tryz.func31, Tryz.ntmps31
      go_wp2_with (first
        | ((with_reducible refine gate_dst (N := 1) rfl ?_); refine box_event ?hg (N := 1) ?hd (cs := #[.int .i64 k, .int .i64 i, .float .f64 f, .string s, .slice A n c]) (t := 25) ?hr ?_; (case hd => rfl); (case hg => rfl); (case hr => first | (go_simp; done) | (go_simp; rfl)); intro gb hg w1 hbox hb; have HB := Aside0.mk hb; have b0 : w1.cell? ⟨gb, 0, none⟩ = some (.int .i64 k) := blk_cell hbox 0; have b1 : w1.cell? ⟨gb, 1, none⟩ = some (.int .i64 i) := blk_cell hbox 1; have b2 : w1.cell? ⟨gb, 2, none⟩ = some (.float .f64 f) := blk_cell hbox 2; have b3 : w1.cell? ⟨gb, 3, none⟩ = some (.string s) := blk_cell hbox 3; have b4 : w1.cell? ⟨gb, 4, none⟩ = some (.slice A n c) := blk_cell hbox 4; clear hg hbox hb))
      go_ret
      exact ⟨rfl, HB.out⟩
    · rw [show kindV k = k by rw [kindV, if_neg h1, if_neg h2]]
      go_enter Tryz.func31, Tryz.ntmps31
      go_wp2_with (first
        | ((with_reducible refine gate_dst (N := 1) rfl ?_); refine box_event ?hg (N := 1) ?hd (cs := #[.int .i64 k, .int .i64 i, .float .f64 f, .string s, .slice A n c]) (t := 25) ?hr ?_; (case hd => rfl); (case hg => rfl); (case hr => first | (go_simp; done) | (go_simp; rfl)); intro gb hg w1 hbox hb; have HB := Aside0.mk hb; have b0 : w1.cell? ⟨gb, 0, none⟩ = some (.int .i64 k) := blk_cell hbox 0; have b1 : w1.cell? ⟨gb, 1, none⟩ = some (.int .i64 i) := blk_cell hbox 1; have b2 : w1.cell? ⟨gb, 2, none⟩ = some (.float .f64 f) := blk_cell hbox 2; have b3 : w1.cell? ⟨gb, 3, none⟩ = some (.string s) := blk_cell hbox 3; have b4 : w1.cell? ⟨gb, 4, none⟩ = some (.slice A n c) := blk_cell hbox 4; clear hg hbox hb))
      go_ret
      exact ⟨rfl, HB.out⟩
end Go.Proofs.YtejfmghjmhiodaaGreatDoor.Vz
