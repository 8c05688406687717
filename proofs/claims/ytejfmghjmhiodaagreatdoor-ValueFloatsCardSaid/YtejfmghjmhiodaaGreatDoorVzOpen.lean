import Derived.Test.YtejfmghjmhiodaaGreatDoorVzVal2
import Derived.ProofKit
import Derived.Deep.Slices
import GoSem.ClaimJoined
namespace Go.Proofs.YtejfmghjmhiodaaGreatDoor.Vz
open Go.RowKit Go.Proofs.YtejfmghjmhiodaaGreatDoorW.PrintWords
set_option linter.unusedVariables false
set_option linter.unusedSimpArgs false
attribute [local go_sem] store_float
open Go
variable {H : Type} {enc : TypeId × Value → H}
theorem trod_float {P : Program} {w : World} {base : Nat} {spare : Nat → Bool} {held : Bool} {fuel : Nat} {t : TypeId} {cs : List Value} {x : DataW H × List MemPlace} {k : FloatKind} (ht : P.underlying t = some (.float k)) (h : DataW.trod enc P w base spare held fuel t cs = some x) : ∃ n, cs = [.float k n] ∧ x = (.lit (.float k n), []) ∧ (Lit.float k n).wf = true := by
  cases fuel with
  | zero => simp [DataW.trod] at h
  | succ n =>
    unfold DataW.trod at h
    rw [ht] at h
    split at h <;> simp_all
theorem mem_weightsAll {P : Program} {e : TypeId} : ∀ {l : List (DataW H)} {d : DataW H} {n : Nat}, d ∈ l → n ∈ d.weights P e → n ∈ DataW.weightsAll P e l
  | [], _, _, h, _ => by cases h
  | d' :: r, d, n, h, hn => by
    rw [DataW.weightsAll, List.mem_append]
    rcases List.mem_cons.1 h with rfl | h
    · exact .inl hn
    · exact .inr (mem_weightsAll h hn)
theorem cells25 : Tryz.prog.cellsOf 25 = 5 := by kernel_rfl
theorem bytes25 : Tryz.prog.bytesOf 25 = 64 := by kernel_rfl
theorem cs3 : Tryz.prog.cellsOf 3 = 1 := by kernel_rfl
theorem cs2 : Tryz.prog.cellsOf 2 = 1 := by kernel_rfl
theorem cs28 : Tryz.prog.cellsOf 22 = 1 := by kernel_rfl
theorem cs9 : Tryz.prog.cellsOf 9 = 1 := by kernel_rfl
theorem cs29 : Tryz.prog.cellsOf 23 = 1 := by kernel_rfl
theorem take1 {n : Nat} (h : n = 1) {c v : Value} {l : List Value} (e : List.take n (c :: l) = [v]) : c = v := by subst h; simpa using e
set_option maxRecDepth 100000 in
/-- A value that came in, opened. -/
theorem open_val (W : World) (base : Nat) (spare : Nat → Bool) (held : Bool) : ∀ (fuel : Nat) (cs : List Value) (x : DataW H × List MemPlace), DataW.trod enc Tryz.prog W base spare held fuel 25 cs = some x → (∀ n ∈ x.1.weights Tryz.prog 25, n ≤ reachBytes) → ∃ v, RV W (fun _ => True) v cs.toArray := by
  intro fuel
  induction fuel using Nat.strongRecOn with
  | _ fuel ih =>
    intro cs x hx hw
    obtain ⟨xs, n, hfu, rfl, hl, hxl, hf⟩ := DataW.trod_struct Tryz.underlying25 hx
    rw [cells25] at hl
    obtain ⟨c0, c1, c2, c3, c4, rfl⟩ : ∃ c0 c1 c2 c3 c4, cs = [c0, c1, c2, c3, c4] := by
      match cs, hl with
      | [c0, c1, c2, c3, c4], _ => exact ⟨c0, c1, c2, c3, c4, rfl⟩
    obtain ⟨y0, y1, y2, y3, y4, rfl⟩ : ∃ y0 y1 y2 y3 y4, xs = [y0, y1, y2, y3, y4] := by
      match xs, hxl with
      | [y0, y1, y2, y3, y4], _ => exact ⟨y0, y1, y2, y3, y4, rfl⟩
    have f0 := hf 0 _ rfl
    have f1 := hf 1 _ rfl
    have f2 := hf 2 _ rfl
    have f3 := hf 3 _ rfl
    have f4 := hf 4 _ rfl
    simp only [List.getElem?_cons_zero, List.getElem?_cons_succ] at f0 f1 f2 f3 f4
    obtain ⟨k, e0, _, wk⟩ := DataW.trod_int Tryz.underlying3 f0
    obtain ⟨i, e1, _, wi⟩ := DataW.trod_int Tryz.underlying2 f1
    obtain ⟨f, e2, _, wf⟩ := trod_float Tryz.underlying22 f2
    obtain ⟨s, e3, hy3, ws⟩ := DataW.trod_string Tryz.underlying9 f3
    obtain rfl : c0 = .int .i64 k := take1 cs3 e0
    obtain rfl : c1 = .int .i64 i := take1 cs2 e1
    obtain rfl : c2 = .float .f64 f := take1 cs28 e2
    obtain rfl : c3 = .string s := take1 cs9 e3
    subst hy3
    have hw' : ∀ n ∈ DataW.weightsEach Tryz.prog [3, 2, 22, 9, 23] [y0.1, y1.1, y2.1, .lit (.string s.data.toList), y4.1], n ≤ reachBytes := by
      intro n hn
      refine hw n ?_
      simp only [List.map_cons, List.map_nil]
      rw [DataW.weights, Tryz.underlying25]
      exact hn
    simp only [DataW.weightsEach, DataW.weights, List.append_nil] at hw'
    have hs : s.size ≤ 140737488351232 := by
      have := hw' s.data.toList.length (by simp)
      simpa [reachBytes] using this
    rcases DataW.trod_slice Tryz.underlying23 f4 with ⟨e4, _⟩ | ⟨a, len, cap, elems, rest, m, hm, e4, rfl, _, hle, hcap, hel, hget, _, _⟩
    · obtain rfl : c4 = .slice none 0 0 := take1 cs29 e4
      exact ⟨_, RV.flat wk wi wf hs⟩
    · obtain rfl : c4 = .slice (some a) len cap := take1 cs29 e4
      have hb : len * 64 ≤ 140737488351232 := by
        have := hw' ((elems.length + rest.length) * Tryz.prog.bytesOf 25) (by
          simp only [List.mem_append]
          refine .inr (.inr (.inr (.inr ?_)))
          rw [DataW.weights, Tryz.underlying23]
          simp)
        rw [bytes25, hel] at this
        have h2 : len * 64 ≤ (len + rest.length) * 64 := Nat.mul_le_mul_right _ (Nat.le_add_right _ _)
        exact Nat.le_trans h2 this
      have hch : ∀ j : Nat, ∃ p : Val × Array Value, j < len → (∀ q, q < 5 → W.cell? ((a.add (j * 5)).add q) = p.2[q]?) ∧ RV W (fun _ => True) p.1 p.2 := by
        intro j
        by_cases hj : j < len
        · have hg := hget j hj
          rw [cells25] at hg
          obtain ⟨e, he⟩ : ∃ e, elems[j]? = some e := ⟨elems[j]'(by omega), by simp [hel, hj]⟩
          rw [he] at hg
          obtain ⟨cs', hc1, hc2⟩ := Option.bind_eq_some_iff.1 hg
          obtain ⟨_, hlen, hcell⟩ := World.cells?_some hc1
          obtain ⟨v, hv⟩ := ih m (by omega) cs' e hc2 (fun n hn => hw' n (by
            simp only [List.mem_append]
            refine .inr (.inr (.inr (.inr ?_)))
            rw [DataW.weights, Tryz.underlying23]
            simp only [List.mem_cons, List.mem_append]
            refine .inr (.inl (mem_weightsAll (d := e.1) ?_ hn))
            exact List.mem_map_of_mem (List.mem_of_getElem? he)))
          exact ⟨(v, cs'.toArray), fun _ => ⟨fun q hq => by rw [hcell q hq]; simp, hv⟩⟩
        · exact ⟨(.mk 0 0 0 ⟨#[]⟩ [], #[]), fun h => absurd h hj⟩
      obtain ⟨F, hF⟩ := Classical.axiomOfChoice hch
      have hl' : ((List.range len).map fun j => (F j).1).length = len := by simp
      refine ⟨.mk k i f s ((List.range len).map fun j => (F j).1), ?_⟩
      by_cases hp : 0 < len
      · obtain ⟨b, off, spot⟩ := a
        have h0 := (hF 0 hp).1 0 (by decide)
        obtain ⟨_, _, _, _, _, _, _, e⟩ := (hF 0 hp).2.form
        rw [e] at h0
        have hspot : spot = none := by simpa [Addr.add] using World.cell?_spot h0
        subst hspot
        have := RV.mk (W := W) (ok := fun _ => True) k i f s ((List.range len).map fun j => (F j).1) (some ⟨b, off, none⟩) cap b off (fun j => (F j).2) wk wi wf hs (by rw [hl']; exact hle) (by rw [hl']; exact hb) (fun _ => ⟨rfl, trivial⟩) (fun j hj q hq => ?_) (fun j hj => ?_)
        · rw [hl'] at this; exact this
        · rw [hl'] at hj
          rw [← (hF j hj).1 q hq, Go.WideShapes.add_plain, Go.WideShapes.add_plain]
        · have hj' : j < len := by rw [hl'] at hj; exact hj
          simpa using (hF j hj').2
      · have e : len = 0 := by omega
        subst e
        exact RV.flat wk wi wf hs
theorem mem_weightsEach {P : Program} {n : Nat} {t : TypeId} {d : DataW H} (hn : n ∈ d.weights P t) : ∀ (j : Nat) (ts : List TypeId) (ds : List (DataW H)), ts[j]? = some t → ds[j]? = some d → n ∈ DataW.weightsEach P ts ds
  | 0, t' :: ts, d' :: ds, ht, hd => by
    simp only [List.getElem?_cons_zero, Option.some.injEq] at ht hd
    subst ht hd
    rw [DataW.weightsEach, List.mem_append]
    exact .inl hn
  | j + 1, t' :: ts, d' :: ds, ht, hd => by
    simp only [List.getElem?_cons_succ] at ht hd
    rw [DataW.weightsEach, List.mem_append]
    exact .inr (mem_weightsEach hn j ts ds ht hd)
  | _, [], _, ht, _ => by simp at ht
  | _, _ :: _, [], _, hd => by simp at hd
end Go.Proofs.YtejfmghjmhiodaaGreatDoor.Vz
