import Derived.Test.YtpalofbphmjijaaDoorGdEach4
import Derived.OpenShut
import Derived.ProofKit
namespace Go.Proofs.YtpalofbphmjijaaDoor.FM
def Bytes (l : List Int) : Prop := ∀ b ∈ l, 0 ≤ b ∧ b ≤ 255
end Go.Proofs.YtpalofbphmjijaaDoor.FM
namespace Go.Proofs.YtpalofbphmjijaaDoor.FR
open Go.RowKit Go.Proofs.YtpalofbphmjijaaDoor.FM Go.Proofs.YtpalofbphmjijaaDoorW.PrintWords
/-- A slice of bytes that came in, as the row hands it over. -/
theorem bytes_open {w : World} {a : Option Addr} {len cap : Nat} {zs : List Int}
    (h : (a = none ∧ len = 0 ∧ cap = 0 ∧ zs = []) ∨ ∃ x, a = some x ∧ len ≤ cap ∧ cap ≤ maxLen ∧ zs.length = cap ∧ (∀ i, i < zs.length → w.cell? (x.add i) = some (.int .u8 (zs.getD i 0))) ∧ ∀ n ∈ zs, (Lit.int .u8 n).wf = true) :
    ∃ l : List Int, l.length = len ∧ len ≤ cap ∧ Kd.C (Kd.int .u8) w a l.length l ∧ Bytes l := by
  obtain ⟨l, rfl, hr, hm, hw, hc⟩ := ReadsInt.ofRowC h
  exact ⟨l, rfl, hc, Kd.C_of_reads (d := (0 : Int)) (h1 := fun _ => rfl) hr, fun x hx => bounds_u8 (hw x hx)⟩
end Go.Proofs.YtpalofbphmjijaaDoor.FR
namespace Go.Proofs.YtpalofbphmjijaaDoor.GdEachW
open Go.RowKit Go.Proofs.YtpalofbphmjijaaDoor.FM Go.Proofs.YtpalofbphmjijaaDoorW.PrintWords
set_option linter.unusedVariables false
theorem cell_in {w : World} {b o : Nat} {v : Value} (h : w.cell? ⟨b, o, none⟩ = some v) : b < w.heap.size := by
  rcases Nat.lt_or_ge b w.heap.size with h1 | h1
  · exact h1
  · have : w.heap[b]? = none := Array.getElem?_eq_none h1
    simp [World.cell?, this] at h
theorem walk (A : Option Addr) (cap : Nat) (l : List Int) (hlc : l.length ≤ cap) {w : World} (hC : Kd.C (Kd.int .u8) w A l.length l) (hB : Bytes l) (W : World) (_h : True) (hW : W = w := by rfl) :
    Calls Tryd.prog 6 #[.slice A l.length cap] W fun e W' => e = .returned (.bool true) ∧ Below W.heap.size W W' := by
  subst hW
  by_cases h30 : l.length ≤ 30
  · have hx : ∀ ad, A = some ad → ∀ i, i < l.length → W.cell? (ad.add i) = some (.int .u8 (l.getD i 0)) := fun ad ha i hi => by
      obtain ⟨ad', ha', hc⟩ := Kd.at_int hC (i : Int) (by omega) (by omega)
      obtain rfl : ad' = ad := Option.some.inj (ha'.symm.trans ha)
      rw [Int.toNat_natCast] at hc
      rw [hc]
      simp [rd, List.getD_eq_getElem?_getD]
    refine Gd.each6 A l.length cap l rfl h30 hB W (fun hp => ?_) (fun b off ha => ?_)
    · obtain ⟨ad, ha, _⟩ := Kd.at_int hC 0 (by omega) (by omega)
      obtain ⟨b, off, rfl, _⟩ := ints_at (hx ad ha) hp
      exact ⟨b, off, ha⟩
    · intro hp
      subst ha
      have h1 := hx _ rfl
      have h2 : ∀ i, i < l.length → W.cell? ⟨b, off + i, none⟩ = some (.int .u8 (l.getD i 0)) := fun i hi => by rw [← Go.WideShapes.add_plain]; exact h1 i hi
      refine ⟨cell_in (h2 0 hp), fun i hi => ?_⟩
      rw [h2 i hi]
      simp [hi]
  · exact Gd.each6_long A l.length cap (by omega) W
end Go.Proofs.YtpalofbphmjijaaDoor.GdEachW
