import Derived.Test.YtdohibibmagpaaaDoorProg
import Derived.Test.YtdohibibmagpaaaDoorShelf
import Derived.Lib.AppendIntMem
import Derived.Lib.SmallJoins
import Derived.ChangeAgain
namespace Go.Proofs.YtdohibibmagpaaaDoor.IdNum
open Go.Shelf Go.RowKit Go.Sort Go.Lib

/-- What the library's parts here ask of the world: its shape, the table of tens, the two errors. -/
structure Ok (w : World) : Prop where
  shaped : w.ShapedOpen Tryd.prog
  tab : Lib.TabIs Tryd.prog w "internal/strconv.uint64pow10" .u64 Lib.pow10Tab
  esyn : ∃ (t : TypeId) (p : Value), w.var? Tryd.prog "strconv.ErrSyntax" = some #[.iface t p]
  eran : ∃ (t : TypeId) (p : Value), w.var? Tryd.prog "strconv.ErrRange" = some #[.iface t p]

theorem var_below {n : String} {g : Nat} {cs : Array Value} {w w' : World} (hg : Tryd.prog.globalNamed n = some g) (h : w.var? Tryd.prog n = some cs) (hb : Below w.heap.size w w') : w'.var? Tryd.prog n = some cs := by
  unfold World.var? at h ⊢
  rw [hg] at h ⊢
  simp only [Option.bind_some] at h ⊢
  have hlt : g < w.heap.size := by
    rcases Nat.lt_or_ge g w.heap.size with h' | h'
    · exact h'
    · rw [Array.getElem?_eq_none h'] at h; cases h
  rw [hb.block g hlt]
  exact h

theorem Ok.below {w w' : World} (h : Ok w) (hb : Below w.heap.size w w') : Ok w' := by
  have hg0 : Tryd.prog.globalNamed "internal/strconv.uint64pow10" = some 1 := by kernel_rfl
  have hg1 : Tryd.prog.globalNamed "strconv.ErrSyntax" = some 2 := by kernel_rfl
  have hg2 : Tryd.prog.globalNamed "strconv.ErrRange" = some 3 := by kernel_rfl
  obtain ⟨t1, p1, h1⟩ := h.esyn
  obtain ⟨t2, p2, h2⟩ := h.eran
  exact ⟨h.shaped.keptBut (hb.frame (fun _ => False)) (fun _ hp => hp.elim), var_below hg0 h.tab hb, ⟨t1, p1, var_below hg1 h1 hb⟩, ⟨t2, p2, var_below hg2 h2 hb⟩⟩

set_option maxHeartbeats 4000000 in
set_option maxRecDepth 100000 in
theorem fmt28 (u : Nat) (hu64 : u < 18446744073709551616) (w : World) (hw : Ok w) :
    Calls Tryd.prog 28 #[.int .u64 (u : Int), .int .i64 10] w fun e w' => e = .returned (.string ⟨(Lib.decDigits u).toArray⟩) ∧ Below w.heap.size w w' := by
  by_cases hi : u < 100
  · have iu : (u : Int) < 100 := by omega
    have hwr : IntKind.i64.wrap (u : Int) = (u : Int) := by rw [IntKind.wrap_i64]; omega
    go_enter Tryd.func28, Tryd.ntmps28
    go_wp2_with (go_at_call 32; refine (Tryd.internal_strconv_small u hi _).mono ?_; rintro e w' ⟨rfl, rfl⟩)
    go_ret
    exact ⟨rfl, Below.refl _ _⟩
  · have hu1 : 1 ≤ u := by omega
    have hnd20 : Lib.nDigits u ≤ 20 := by have := Lib.numDigits_eq u hu1 hu64; split at this <;> omega
    have hal : Tryd.prog.arrayLen 60 = 24 := by kernel_rfl
    have hsl : ∀ W, (Instr.sliceAt 60 (.pointer (some ⟨w.heap.size, 0, none⟩)) none (some (.int .i64 (Lib.nDigits u : Int))) none).run Tryd.prog W = .ok (.slice (some ⟨w.heap.size, 0, none⟩) (Lib.nDigits u) 24) W := fun W => by
      rw [run_sliceAt_array_h W 60 ⟨w.heap.size, 0, none⟩ (by kernel_rfl) .i64 (Lib.nDigits u : Int) (by omega) (by rw [hal]; omega)]
      rw [hal]
      go_simp
    have hH0 := Lib.holds_zero0 w 60 (Lib.nDigits u) (by omega)
    have hfmt := Tryd.internal_strconv_formatBase10 w.heap.size 0 24 u (Array.replicate (Lib.nDigits u) 0) (w.alloc (.cells Lib.zeros24 60)) hH0 (by rw [Array.size_replicate]; exact Lib.lt_pow_nDigits u) hu64 (by rw [Array.size_replicate]; omega)
    rw [Array.size_replicate] at hfmt
    have HH0 := Lib.hid hH0
    have iu : (100 : Int) ≤ (u : Int) := by omega
    have iu' : ¬ (u : Int) < 100 := by omega
    clear hH0 hal
    go_enter Tryd.func28, Tryd.ntmps28
    go_wp2_with (first
      | (go_at_call 33; refine (Tryd.internal_strconv_numDigits u hu1 hu64 _ (Lib.tabIs_alloc hw.tab _)).mono ?_; rintro e w' ⟨rfl, rfl⟩))
    go_at_call 34
    refine hfmt.mono ?_
    rintro e w' ⟨rfl, k, v', dk, rfl, hF⟩
    have hcv : (convert 30 9 (.slice (some ⟨w.heap.size, 0, none⟩) (Lib.nDigits u) 24)).run Tryd.prog ((putRow (fun (b : UInt8) => Value.int .u8 (b.toNat : Int)) (w.alloc (.cells Lib.zeros24 60)) w.heap.size 0 dk).drewN k) = .ok (.string ⟨(Lib.decDigits u).toArray⟩) ((putRow (fun (b : UInt8) => Value.int .u8 (b.toNat : Int)) (w.alloc (.cells Lib.zeros24 60)) w.heap.size 0 dk).drewN k) := by
      have h := run_convert_bytes_back (P := Tryd.prog) ((putRow (fun (b : UInt8) => Value.int .u8 (b.toNat : Int)) (w.alloc (.cells Lib.zeros24 60)) w.heap.size 0 dk).drewN k) 30 9 5 ⟨w.heap.size, 0, none⟩ 24 (Lib.decDigits u) Tryd.underlying30 Tryd.underlying5 Tryd.underlying9 (fun j hj => by
        rw [Lib.row_is_numeral hF j hj, Lib.add_plain, World.cell?_drewN]
        exact cell?_putRow (fun (b : UInt8) => Value.int .u8 (b.toNat : Int)) _ w.heap.size 0 _ dk HH0.out (by rw [hF.size, Array.size_replicate]) j (by rw [hF.size]; rw [Lib.decDigits_length] at hj; exact hj))
      rw [Lib.decDigits_length] at h
      exact h
    obtain ⟨os, eo⟩ := Lib.fin_at w (.cells Lib.zeros24 60) dk k 0
    have HB := Lib.hid (show Below w.heap.size w ((putRow (fun (b : UInt8) => Value.int .u8 (b.toNat : Int)) (w.alloc (.cells Lib.zeros24 60)) w.heap.size 0 dk).drewN k) by rw [eo]; exact Lib.below_grow w.heap.size w (Nat.le_refl _) k os)
    clear eo
    go_wp2
    go_ret
    exact ⟨rfl, HB.out⟩

theorem fmt23 (u : Nat) (hu64 : u < 18446744073709551616) (w : World) (hw : Ok w) :
    Calls Tryd.prog 23 #[.int .u64 (u : Int), .int .i64 10] w fun e w' => e = .returned (.string ⟨(Lib.decDigits u).toArray⟩) ∧ Below w.heap.size w w' := by
  go_enter Tryd.func23, Tryd.ntmps23
  go_wp2_with (go_at_call 28; refine (fmt28 u hu64 _ hw).mono ?_; rintro e w' ⟨rfl, hb⟩)
  go_ret
  exact ⟨rfl, hb⟩

theorem digits15 (u : Nat) (hu64 : u < 18446744073709551616) (w : World) (hw : Ok w) :
    Calls Tryd.prog 15 #[.int .u64 (u : Int)] w fun e w' => e = .returned (.string ⟨(Lib.decDigits u).toArray⟩) ∧ Below w.heap.size w w' := by
  go_enter Tryd.func15, Tryd.ntmps15
  go_wp2_with (go_at_call 23; refine (fmt23 u hu64 _ hw).mono ?_; rintro e w' ⟨rfl, hb⟩)
  go_ret
  exact ⟨rfl, hb⟩

/-- strconv.ParseUint at base 10: the number and whether there is no error. -/
def num (b : Nat) (s : List UInt8) : Nat × Bool :=
  match Lib.parseUintB b s with
  | .ok u => (u, true)
  | .range => (2 ^ b - 1, false)
  | _ => (0, false)

theorem parse25 (b : Nat) (hb : b = 32 ∨ b = 16) (s : ByteArray) (hs : s.size ≤ 281474976710656) (w : World) (hw : Ok w) :
    Calls Tryd.prog 25 #[.string s, .int .i64 10, .int .i64 (b : Int)] w fun e w' => (∃ v, e = .returned (.tuple #[.int .u64 ((num b s.data.toList).1 : Int), v]) ∧ (((num b s.data.toList).2 = true ∧ v = .nilIface) ∨ ((num b s.data.toList).2 = false ∧ ∃ p, v = .iface 71 p))) ∧ Below w.heap.size w w' := by
  obtain ⟨t1, p1, h1⟩ := hw.esyn
  obtain ⟨t2, p2, h2⟩ := hw.eran
  rcases hb with rfl | rfl
  · rcases hp : Lib.parseUintB 32 s.data.toList with u | _ | _
    · refine (Tryd.strconv_ParseUint_10_at32_ok s (by omega) u hp w).mono ?_
      rintro e w' ⟨rfl, rfl | rfl⟩
      · exact ⟨⟨_, by simp only [num, hp], .inl ⟨by simp only [num, hp], rfl⟩⟩, Below.refl _ _⟩
      · exact ⟨⟨_, by simp only [num, hp], .inl ⟨by simp only [num, hp], rfl⟩⟩, Joins.below_bytesWorld _ _ _ _ (Nat.le_refl _)⟩
    · refine (Any.strconv_ParseUint_10_at32_syntax_var Tryd.laysPu14 s hs hp _ _ w h1).mono ?_
      rintro e w' ⟨N, rfl, _, _, hB⟩
      exact ⟨⟨_, by simp only [num, hp]; rfl, .inr ⟨by simp only [num, hp], _, rfl⟩⟩, hB⟩
    · refine (Tryd.strconv_ParseUint_10_at32_range_var s hs hp _ _ w h2).mono ?_
      rintro e w' ⟨N, rfl, _, _, hB⟩
      exact ⟨⟨_, by simp only [num, hp]; rfl, .inr ⟨by simp only [num, hp], _, rfl⟩⟩, hB⟩
  · rcases hp : Lib.parseUintB 16 s.data.toList with u | _ | _
    · refine (Tryd.strconv_ParseUint_10_at16_ok s (by omega) u hp w).mono ?_
      rintro e w' ⟨rfl, rfl | rfl⟩
      · exact ⟨⟨_, by simp only [num, hp], .inl ⟨by simp only [num, hp], rfl⟩⟩, Below.refl _ _⟩
      · exact ⟨⟨_, by simp only [num, hp], .inl ⟨by simp only [num, hp], rfl⟩⟩, Joins.below_bytesWorld _ _ _ _ (Nat.le_refl _)⟩
    · refine (Any.strconv_ParseUint_10_at16_syntax_var Tryd.laysPu14 s hs hp _ _ w h1).mono ?_
      rintro e w' ⟨N, rfl, _, _, hB⟩
      exact ⟨⟨_, by simp only [num, hp]; rfl, .inr ⟨by simp only [num, hp], _, rfl⟩⟩, hB⟩
    · refine (Tryd.strconv_ParseUint_10_at16_range_var s hs hp _ _ w h2).mono ?_
      rintro e w' ⟨N, rfl, _, _, hB⟩
      exact ⟨⟨_, by simp only [num, hp]; rfl, .inr ⟨by simp only [num, hp], _, rfl⟩⟩, hB⟩

theorem number17 (b : Nat) (hb : b = 32 ∨ b = 16) (s : ByteArray) (hs : s.size ≤ 281474976710656) (w : World) (hw : Ok w) :
    Calls Tryd.prog 17 #[.string s, .int .i64 (b : Int)] w fun e w' => e = .returned (.tuple #[.int .u64 ((num b s.data.toList).1 : Int), .bool (num b s.data.toList).2]) ∧ Below w.heap.size w w' := by
  have hp := parse25 b hb s hs w hw
  generalize (num b s.data.toList).1 = u at hp ⊢
  generalize (num b s.data.toList).2 = o at hp ⊢
  clear hs hw hb
  go_enter Tryd.func17, Tryd.ntmps17
  go_wp2_with fail
  refine hp.mono ?_
  rintro e w1 ⟨⟨v, rfl, ⟨rfl, rfl⟩ | ⟨rfl, p, rfl⟩⟩, hB⟩
  · clear hp
    go_wp2
    go_region
    all_goals (go_wp2; go_ret2; exact ⟨rfl, hB.drew⟩)
  · clear hp
    go_wp2
    go_region
    all_goals (go_wp2; go_ret2; exact ⟨rfl, hB.drew⟩)
end Go.Proofs.YtdohibibmagpaaaDoor.IdNum
