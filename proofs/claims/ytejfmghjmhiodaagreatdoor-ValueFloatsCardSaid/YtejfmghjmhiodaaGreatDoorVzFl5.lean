import Derived.Test.YtejfmghjmhiodaaGreatDoorVzFl4
namespace Go.Proofs.YtejfmghjmhiodaaGreatDoor.Vz
open Go.RowKit Go.Sort Go.Lib Go.Proofs.YtejfmghjmhiodaaGreatDoorW.PrintWords
set_option linter.unusedVariables false
set_option linter.unusedSimpArgs false
attribute [local go_sem] store_float

theorem save_putRow {α : Type} [Inhabited α] (enc : α → Value) (w : World) (g off : Nat) (d : Array α) (m : Nat) : Save (fun k => k = g) w ((putRow enc w g off d).drewN m) := by
  refine ⟨rfl, rfl, rfl, ?_, ?_⟩
  · show w.heap.size ≤ (w.heap.modify g _).size
    simp
  · intro k hk hs
    show (w.heap.modify g _)[k]? = w.heap[k]?
    rw [Array.getElem?_modify]
    have : ¬ g = k := fun x => hs x.symm
    simp [this]

def e8 (b : UInt8) : Value := .int .u8 (b.toNat : Int)
set_option maxHeartbeats 8000000 in
set_option maxRecDepth 100000 in
theorem digits99 (g cap nd u : Nat) (p : Int) (W : World) (hcap : nd ≤ 32) (hc : 32 ≤ cap) (hcm : cap ≤ 1000) (hu : u < 10 ^ nd) (hu64 : u < 18446744073709551616) (hp : -1000 ≤ p ∧ p ≤ 1000)
    (hz : ∀ j, j < nd → W.cell? ⟨g, j, none⟩ = some (.int .u8 0) ∧ W.frozen? ⟨g, j, none⟩ = false) (hg : g < W.heap.size) :
    Calls Tryz.prog 99 #[.slice (some ⟨g, 0, none⟩) 32 cap, .int .u64 (u : Int), .int .i64 p, .int .i64 (nd : Int)] W fun e w' => ∃ k : Nat, k ≤ nd ∧ e = .returned (.tuple #[.int .i64 (nd + p), .int .i64 (k : Int)]) ∧
      (∀ j, j < nd → w'.cell? ⟨g, j, none⟩ = some (.int .u8 ((dg u (nd - 1 - j)).toNat : Int))) ∧ (∀ j, k ≤ j → j < nd → dg u (nd - 1 - j) = 48) ∧ (0 < k → dg u (nd - k) ≠ 48) ∧ Save (fun k => k = g) W w' := by
  have hH : Holds e8 W g 0 (Array.replicate nd (0 : UInt8)) := by
    intro j hj
    have hj' : j < nd := by simpa using hj
    have e : (Array.replicate nd (0 : UInt8))[j]! = 0 := by
      rw [getElem!_pos _ j hj]; simp
    rw [e, Nat.zero_add]
    exact hz j hj'
  have hF := Tryz.internal_strconv_formatBase10 g 0 cap u (Array.replicate nd (0 : UInt8)) W hH (by simpa using hu) hu64 (by simp; omega)
  have hF2 : Calls Tryz.prog 74 #[.slice (some ⟨g, 0, none⟩) nd cap, .int .u64 u] W fun e w' => e = .returned (.tuple #[]) ∧ Save (fun k => k = g) W w' ∧ ∀ j, j < nd → w'.cell? ⟨g, j, none⟩ = some (.int .u8 ((dg u (nd - 1 - j)).toNat : Int)) := by
    rw [show (Array.replicate nd (0 : UInt8)).size = nd by simp] at hF
    refine hF.mono ?_
    rintro e w' ⟨he, n, v', dk, hw, hI⟩
    subst hw
    refine ⟨he, save_putRow _ _ _ _ _ _, ?_⟩
    intro j hj
    have h := (holds_putRow e8 W g 0 (Array.replicate nd (0 : UInt8)) dk hH (by rw [hI.size]; simp)) j (by rw [hI.size]; exact hj)
    rw [hI.done j (Nat.zero_le _) hj, Nat.zero_add] at h
    exact h.1
  have h1 : (nd : Int) ≤ 32 := by omega
  have h2 : (0 : Int) ≤ nd := by omega
  have h3 : (nd : Int) ≤ cap := by omega
  have h4 : wrap64 (nd + p) = nd + p := by unfold wrap64; omega
  have HF := Aside0.mk hF2
  clear hF hF2 hH hz hu hu64 hcm hp
  go_enter Tryz.func99, Tryz.ntmps99
  go_wp2_with (go_at_call 74; refine HF.out.mono ?_; rintro e w1 ⟨rfl, hs, hcell⟩; have HS := Aside0.mk hs; have HC := Aside0.mk hcell; clear hs hcell)
  go_loop [3] (fun n => ∃ k : Nat, k ≤ nd ∧ n = .int .i64 (k : Int) ∧ Aside0 (∀ j, k ≤ j → j < nd → dg u (nd - 1 - j) = 48)) (fun n => (RowKit.intOf n).toNat)
  case atStart => exact ⟨nd, Nat.le_refl _, rfl, Aside0.mk (fun j a b => absurd a (by omega))⟩
  case round =>
    obtain ⟨k, hk, rfl, HZ⟩ := hrel
    by_cases h0 : 0 < k
    · have c := HC.out (k - 1) (by omega)
      rw [show nd - 1 - (k - 1) = nd - k by omega] at c
      obtain ⟨d, hd⟩ : ∃ d, dg u (nd - k) = d := ⟨_, rfl⟩
      rw [hd] at c
      have HD := Aside0.mk hd
      clear hd
      have c0 : (0 : Int) < k := by omega
      have c1 : (0 : Int) ≤ (k : Int) - 1 := by omega
      have c2 : (k : Int) - 1 < 32 := by omega
      have c3 : wrap64 ((k : Int) - 1) = ((k - 1 : Nat) : Int) := by unfold wrap64; omega
      have c4 : ((k - 1 : Nat) : Int) < 32 := by omega
      have c5 : (0 : Int) ≤ ((k - 1 : Nat) : Int) := by omega
      by_cases e48 : d = 48
      · have e48' : (d.toNat : Int) = 48 := by rw [e48]; rfl
        have HE := Aside0.mk e48
        clear e48
        go_wp2
        refine ⟨⟨k - 1, by omega, by rw [show ((k - 1 : Nat) : Int) = (k : Int) - 1 by omega], Aside0.mk ?_⟩, by simp [RowKit.intOf]; omega⟩
        intro j a b
        by_cases hj : j = k - 1
        · subst hj
          rw [show nd - 1 - (k - 1) = nd - k by omega, HD.out, HE.out]
        · exact HZ.out j (by omega) b
      · have e48' : (d.toNat : Int) ≠ 48 := by
          intro h; apply e48; apply UInt8.toNat_inj.mp; have : d.toNat = 48 := by omega
          rw [this]; rfl
        have HE := Aside0.mk e48
        clear e48
        go_wp2
        go_ret2
        exact ⟨k, hk, rfl, HC.out, HZ.out, fun _ => by rw [HD.out]; exact HE.out, HS.out⟩
    · have h0' : k = 0 := by omega
      subst h0'
      go_wp2
      go_ret2
      exact ⟨0, Nat.zero_le _, rfl, HC.out, HZ.out, fun h => absurd h (Nat.lt_irrefl 0), HS.out⟩
end Go.Proofs.YtejfmghjmhiodaaGreatDoor.Vz
