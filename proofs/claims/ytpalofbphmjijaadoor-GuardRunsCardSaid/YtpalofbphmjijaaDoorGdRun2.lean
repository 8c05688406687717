import Derived.Test.YtpalofbphmjijaaDoorGdRun
namespace Go.Proofs.YtpalofbphmjijaaDoor.Gd
open Go.RowKit Go.Proofs.YtpalofbphmjijaaDoorW.PrintWords
set_option linter.unusedVariables false
set_option linter.unusedSimpArgs false

theorem RtV.is {pl : Bool} {v : Value} (h : RtV pl v) : ∃ T pv, v = .iface T pv := by
  cases h with
  | bounds x b c hx hc => exact ⟨_, _, rfl⟩
  | error m => exact ⟨_, _, rfl⟩
  | plain => exact ⟨_, _, rfl⟩

theorem boxes (w : World) : Named w (.string ⟨#[]⟩) (.bool false) ((w.alloc (.cells #[.string ⟨#[]⟩] 9)).alloc (.cells #[.bool false] 4)) :=
  ⟨blk_alloc (blk_new w _) _, by
    have h := blk_new (w.alloc (.cells #[.string ⟨#[]⟩] 9)) (.cells #[.bool false] 4)
    have e : (w.alloc (.cells #[.string ⟨#[]⟩] 9)).heap.size = w.heap.size + 1 := by show (w.heap.push _).size = _; rw [Array.size_push]
    rw [e] at h
    exact h⟩

/-- Told of a closure that panics. -/
theorem told_panics (k : FuncId) (caps : Array Value) (pl : Bool) (w : World) (hce : ∀ args W, (callFunc k args).run Tryd.prog W = .ok (.enter k args) W)
    (hk : ∀ W, Below w.heap.size w W → Calls Tryd.prog k caps W (Panics W pl)) :
    Calls Tryd.prog 8 #[.func (.func k) #[] caps] w fun e w' => (∃ t, e = .returned (.tuple #[.string t, .bool true]) ∧ Text pl t) ∧ Below w.heap.size w w' := by
  have hb0 : Below w.heap.size w ((w.alloc (.cells #[.string ⟨#[]⟩] 9)).alloc (.cells #[.bool false] 4)) :=
    ((Below.refl w.heap.size w).alloc (Nat.le_refl _) _).alloc (by show _ ≤ (w.heap.push _).size; rw [Array.size_push]; omega) _
  refine (told8_pan k caps pl w (fun W' => Below w.heap.size w W') hce ((hk _ hb0).mono ?_)).mono ?_
  · rintro e W' ⟨⟨v, rfl, hv⟩, hB⟩
    obtain ⟨T, pv, rfl⟩ := hv.is
    have hN := boxes w
    exact ⟨⟨T, pv, rfl, hv⟩, ⟨blk_below hN.s hB, blk_below hN.p hB⟩, below_step hb0 hB⟩
  · rintro e w' ⟨t, W', rfl, hT, hQ, rfl⟩
    exact ⟨⟨t, rfl, hT⟩, (hQ.setCell (Nat.le_refl _) _).setCell (by show _ ≤ w.heap.size + 1; omega) _⟩
end Go.Proofs.YtpalofbphmjijaaDoor.Gd
