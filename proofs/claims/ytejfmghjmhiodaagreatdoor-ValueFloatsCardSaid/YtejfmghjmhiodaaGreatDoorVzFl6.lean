import Derived.Test.YtejfmghjmhiodaaGreatDoorVzFl5
namespace Go.Proofs.YtejfmghjmhiodaaGreatDoor.Vz
open Go.RowKit Go.Proofs.YtejfmghjmhiodaaGreatDoorW.PrintWords
set_option linter.unusedVariables false
set_option linter.unusedSimpArgs false
attribute [local go_sem] store_float

theorem info5 : (Tryz.prog.info? 5).map (fun i => (i.zero, i.size, i.bytes)) = some (some (.int .u8 0), 1, 1) := by kernel_rfl
/-- A row of bytes of this call's own, apart from the block g, which is as it was. -/
structure Out (W0 W : World) (base g : Nat) (v : Value) (xs : List Int) : Prop where
  own : W.ownsRow base 5 1 v xs.length (nums .u8 xs)
  ne : ∀ k, v.ownBlock = some k → k ≠ g
  below : Below base W0 W
  blk : W.heap[g]? = W0.heap[g]?
  lt : g < W.heap.size
  le : base ≤ W.heap.size
theorem Out.app {W0 W w1 : World} {base g : Nat} {v v1 : Value} {xs : List Int} {y : Int} (H : Out W0 W base g v xs) (ho : w1.ownsRow base 5 1 v1 (xs ++ [y]).length (nums .u8 (xs ++ [y]))) (hb : Below base W0 w1)
    (hg : W.grownBy w1 v.ownBlock) (hat : v1.ownBlock = v.ownBlock ∨ ∃ b, v1.ownBlock = some b ∧ W.heap.size ≤ b) : Out W0 w1 base g v1 (xs ++ [y]) := by
  refine ⟨ho, ?_, hb, (hg.block g H.lt fun e => H.ne g e.symm rfl).trans H.blk, Nat.lt_of_lt_of_le H.lt hg.size, Nat.le_trans H.le hg.size⟩
  intro k hk e
  rcases hat with hat | ⟨b, hb', hle⟩
  · exact H.ne k (hat ▸ hk) e
  · rw [hb'] at hk; cases hk
    have := H.lt
    omega
theorem Out.cell {W0 W : World} {base g : Nat} {v : Value} {xs : List Int} (H : Out W0 W base g v xs) {o : Nat} {u : Value} (h : W0.cell? ⟨g, o, none⟩ = some u) : W.cell? ⟨g, o, none⟩ = some u := (World.cell?_of_block (a := ⟨g, o, none⟩) H.blk).trans h

set_option maxHeartbeats 8000000 in
set_option maxRecDepth 100000 in
theorem efg_half (base g : Nat) (v : Value) (W : World) (H : Out W W base g v []) (hc : W.cell? ⟨g, 0, none⟩ = some (.int .u8 53)) :
    Calls Tryz.prog 97 #[v, .bool false, .slice (some ⟨g, 0, none⟩) 32 32, .int .i64 0, .int .i64 1, .int .i64 1, .int .u8 103, .bool true] W fun e w' => ∃ v', e = .returned v' ∧ Out W w' base g v' [48, 46, 53] := by
  have HO := Aside0.mk H
  have HC := Aside0.mk hc
  clear H hc
  have m1 : max (1 : Int) 0 = 1 := by decide
  have m2 : min (1 : Int) 0 = 0 := by decide
  have m3 : max (0 : Int) 1 = 1 := by decide
  go_enter Tryz.func97, Tryz.ntmps97
  go_wp2_with (first
    | ((with_reducible refine gate_builtin (b := .append) (xs := #[.tmp 209, .tmp 210]) rfl ?_); at_builtin; refine print_append_num (w0 := W) base rfl (.tmp 209) (.tmp 210) 36 5 .u8 1 rfl Tryz.underlying36 info5 (by decide) v [] 48 rfl rfl ?HO ?HB ?hbase (by decide) ?_; (case HO => exact HO.out.own); (case HB => exact HO.out.below); (case hbase => exact HO.out.le); intro v1 w1 ho hb hg hat; have HO := Aside0.mk (HO.out.app ho hb hg hat); clear ho hb hg hat)
    | ((with_reducible refine gate_builtin (b := .append) (xs := #[.tmp 214, .tmp 215]) rfl ?_); at_builtin; refine print_append_num (w0 := W) base rfl (.tmp 214) (.tmp 215) 36 5 .u8 1 rfl Tryz.underlying36 info5 (by decide) v1 [48] 46 rfl rfl ?HO ?HB ?hbase (by decide) ?_; (case HO => exact HO.out.own); (case HB => exact HO.out.below); (case hbase => exact HO.out.le); intro v2 w2 ho hb hg hat; have HO := Aside0.mk (HO.out.app ho hb hg hat); clear ho hb hg hat))
  go_loopw [0, 240] (fun d i wr => i = .int .i64 0 ∧ Aside0 (Out W wr base g d [48, 46])) (fun _ _ _ => 0)
  case atStart => exact ⟨rfl, HO⟩
  case round =>
    obtain ⟨rfl, HO⟩ := hrel
    go_wp2
    go_loopw [0, 247] (fun d i wr => (i = .int .i64 0 ∧ Aside0 (Out W wr base g d [48, 46])) ∨ (i = .int .i64 1 ∧ Aside0 (Out W wr base g d [48, 46, 53]))) (fun _ i _ => 1 - (intOf i).toNat)
    case atStart => exact .inl ⟨rfl, HO⟩
    case round =>
      rcases hrel with ⟨rfl, HO⟩ | ⟨rfl, HO⟩
      · have c0 : wr.cell? ⟨g, 0, none⟩ = _ := HO.out.cell HC.out
        go_wp2_with (first
          | ((with_reducible refine gate_builtin (b := .append) (xs := #[.tmp 250, .tmp 257]) rfl ?_); at_builtin; refine print_append_num (w0 := W) base rfl (.tmp 250) (.tmp 257) 36 5 .u8 1 rfl Tryz.underlying36 info5 (by decide) _ [48, 46] 53 rfl rfl ?HO ?HB ?hbase (by decide) ?_; (case HO => exact HO.out.own); (case HB => exact HO.out.below); (case hbase => exact HO.out.le); intro v3 w3 ho hb hg hat; have HO := Aside0.mk (HO.out.app ho hb hg hat); clear ho hb hg hat))
        exact ⟨.inr ⟨rfl, HO⟩, by simp [intOf]⟩
      · go_wp2
        go_loopw [0, 261] (fun d i wr => i = .int .i64 0 ∧ Aside0 (Out W wr base g d [48, 46, 53])) (fun _ _ _ => 0)
        case atStart => exact ⟨rfl, HO⟩
        case round =>
          obtain ⟨rfl, HO⟩ := hrel
          go_wp2
          go_ret
          exact ⟨_, rfl, HO.out⟩

set_option maxHeartbeats 8000000 in
set_option maxRecDepth 100000 in
theorem efg_two (base g : Nat) (v : Value) (W : World) (H : Out W W base g v []) (hc : W.cell? ⟨g, 0, none⟩ = some (.int .u8 50)) :
    Calls Tryz.prog 97 #[v, .bool false, .slice (some ⟨g, 0, none⟩) 32 32, .int .i64 1, .int .i64 1, .int .i64 1, .int .u8 103, .bool true] W fun e w' => ∃ v', e = .returned v' ∧ Out W w' base g v' [50] := by
  have HO := Aside0.mk H
  have HC := Aside0.mk hc
  clear H hc
  have m1 : max (1 : Int) 0 = 1 := by decide
  have m2 : min (1 : Int) 0 = 0 := by decide
  have m3 : max (0 : Int) 1 = 1 := by decide
  go_enter Tryz.func97, Tryz.ntmps97
  go_wp2
  go_loopw [0, 191] (fun d i wr => (i = .int .i64 0 ∧ Aside0 (Out W wr base g d [])) ∨ (i = .int .i64 1 ∧ Aside0 (Out W wr base g d [50]))) (fun _ i _ => 1 - (intOf i).toNat)
  case atStart => exact .inl ⟨rfl, HO⟩
  case round =>
    rcases hrel with ⟨rfl, HO⟩ | ⟨rfl, HO⟩
    · have c0 : wr.cell? ⟨g, 0, none⟩ = _ := HO.out.cell HC.out
      go_wp2_with (first
        | ((with_reducible refine gate_builtin (b := .append) (xs := #[.tmp 195, .tmp 197]) rfl ?_); at_builtin; refine print_append_num (w0 := W) base rfl (.tmp 195) (.tmp 197) 36 5 .u8 1 rfl Tryz.underlying36 info5 (by decide) _ [] 50 rfl rfl ?HO ?HB ?hbase (by decide) ?_; (case HO => exact HO.out.own); (case HB => exact HO.out.below); (case hbase => exact HO.out.le); intro v3 w3 ho hb hg hat; have HO := Aside0.mk (HO.out.app ho hb hg hat); clear ho hb hg hat))
      exact ⟨.inr ⟨rfl, HO⟩, by simp [intOf]⟩
    · go_wp2
      go_loopw [0, 203] (fun d i wr => i = .int .i64 0 ∧ Aside0 (Out W wr base g d [50])) (fun _ _ _ => 0)
      case atStart => exact ⟨rfl, HO⟩
      case round =>
        obtain ⟨rfl, HO⟩ := hrel
        go_wp2
        go_ret
        exact ⟨_, rfl, HO.out⟩
end Go.Proofs.YtejfmghjmhiodaaGreatDoor.Vz
