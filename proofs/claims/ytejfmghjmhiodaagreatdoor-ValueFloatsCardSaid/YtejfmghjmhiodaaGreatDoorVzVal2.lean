import Derived.Laws.Cover2
import Derived.Test.YtejfmghjmhiodaaGreatDoorVzVal1
namespace Go.Proofs.YtejfmghjmhiodaaGreatDoor.Vz
open Go.RowKit Go.Proofs.YtejfmghjmhiodaaGreatDoorW.PrintWords
set_option linter.unusedVariables false
set_option linter.unusedSimpArgs false
attribute [local go_sem] store_float

/-- The NaN that Canon tells. -/
def nanC : Nat := 9221120237041090561
def isNan (f : Nat) : Bool := FloatKind.f64.format.order f f != some Ordering.eq
def canon (f : Nat) : Nat := if isNan f then nanC else f
theorem canon_wf {f : Nat} (h : (Lit.float .f64 f).wf = true) : (Lit.float .f64 (canon f)).wf = true := by
  unfold canon; split
  · decide +kernel
  · exact h
theorem call41 (W : World) : (callFunc 51 #[.int .u64 9221120237041090561]).run Tryz.prog W = .ok (.value (.float .f64 nanC)) W := by kernel_rfl
theorem call37 (f : Nat) (W : World) : (callFunc 38 #[.float .f64 f]).run Tryz.prog W = .ok (.value (.int .u64 f)) W := by kernel_rfl
mutual
def clean : Val → Val
  | .mk k i f s l => if k = 1 then .mk 1 i 0 ⟨#[]⟩ [] else if k = 2 then .mk 2 0 (canon f) ⟨#[]⟩ [] else if k = 3 then .mk 3 0 0 s [] else if k = 4 then .mk 4 0 0 ⟨#[]⟩ (cleans l) else .mk 0 0 0 ⟨#[]⟩ []
def cleans : List Val → List Val
  | [] => []
  | v :: r => clean v :: cleans r
end
theorem cleans_map (l : List Val) : cleans l = l.map clean := by
  induction l with
  | nil => rfl
  | cons v r ih => rw [cleans, ih]; rfl
theorem RV.flat {W : World} {ok : Nat → Prop} {k i : Int} {f : Nat} {s : ByteArray} {A : Option Addr} {c : Nat} (hk : (Lit.int .i64 k).wf = true) (hi : (Lit.int .i64 i).wf = true) (hf : (Lit.float .f64 f).wf = true) (hs : s.size ≤ 140737488351232) : RV W ok (.mk k i f s []) #[.int .i64 k, .int .i64 i, .float .f64 f, .string s, .slice A 0 c] :=
  .mk k i f s [] A c 0 0 (fun _ => #[]) hk hi hf hs (Nat.zero_le _) (by simp) (fun h => absurd h (Nat.lt_irrefl 0)) (fun j h => absurd h (Nat.not_lt_zero j)) (fun j h => absurd h (Nat.not_lt_zero j))

set_option maxHeartbeats 8000000 in
set_option maxRecDepth 100000 in
theorem canon38 (f : Nat) (W : World) : Calls Tryz.prog 28 #[.float .f64 f] W fun e w' => e = .returned (.float .f64 (canon f)) ∧ w' = W := by
  have hc := call41
  unfold canon isNan
  generalize nanC = N at hc ⊢
  by_cases h : (FloatKind.f64.format.order f f != some Ordering.eq) = true
  · rw [h]
    go_enter Tryz.func28, Tryz.ntmps28
    go_wp2
    go_ret
    exact ⟨rfl, rfl⟩
  · have h' : (FloatKind.f64.format.order f f != some Ordering.eq) = false := by simpa using h
    rw [h']
    clear h
    go_enter Tryz.func28, Tryz.ntmps28
    go_wp2
    go_ret
    exact ⟨rfl, rfl⟩

set_option maxHeartbeats 8000000 in
set_option maxRecDepth 100000 in
theorem bits30 (f : Nat) (W : World) : Calls Tryz.prog 14 #[.float .f64 f] W fun e w' => e = .returned (.int .u64 (canon f)) ∧ w' = W := by
  have hc := call37
  go_enter Tryz.func14, Tryz.ntmps14
  go_wp2_with (go_at_call 28; refine (canon38 f _).mono ?_; rintro e w1 ⟨rfl, rfl⟩)
  go_ret
  exact ⟨rfl, rfl⟩

set_option maxHeartbeats 8000000 in
set_option maxRecDepth 100000 in
theorem float31 (f : Nat) (W : World) : Calls Tryz.prog 12 #[.float .f64 f] W fun e w' => e = .returned (.agg #[.int .i64 2, .int .i64 0, .float .f64 (canon f), .string ⟨#[]⟩, .slice none 0 0]) ∧ Below W.heap.size W w' := by
  go_enter Tryz.func12, Tryz.ntmps12
  go_wp2_with (first
    | ((with_reducible refine gate_dst (N := 2) rfl ?_); refine box_event ?hg (N := 2) ?hd (cs := #[.int .i64 0, .int .i64 0, .float .f64 0, .string ⟨#[]⟩, .slice none 0 0]) (t := 25) ?hr ?_; (case hd => rfl); (case hg => rfl); (case hr => first | (go_simp; done) | (go_simp; rfl)); intro g hg w1 hbox hb; have HB := Aside0.mk hb; have HG := Aside0.mk (show W.heap.size ≤ g by omega); have K := Aside0.mk hbox; clear hg hbox hb)
    | (go_at_call 28; refine (canon38 f _).mono ?_; rintro e w2 ⟨rfl, rfl⟩)
    | ((with_reducible refine gate_store (t := 25) (p := 2) rfl ?_); refine put_eventU ?hg (t := 25) (p := 2) (v := .tmp 5) ?ho ?hN (g := g) (u := .agg #[.int .i64 2, .int .i64 0, .float .f64 (canon f), .string ⟨#[]⟩, .slice none 0 0]) (cs := #[.int .i64 2, .int .i64 0, .float .f64 (canon f), .string ⟨#[]⟩, .slice none 0 0]) ?hp ?hv K.out ?hs ?hi ?h1 ?hc ?_; (case hs => rfl); (case hi => kernel_rfl); (case h1 => simp [Value.oneCell']); (case hc => simp [Value.cells]); (case hg => rfl); (case ho => rfl); (case hN => rfl); (case hp => rfl); (case hv => rfl); intro w3 hk hs; have HB := Aside0.mk (below_keep HB.out HG.out hs); have K := Aside0.mk hk; clear hk hs))
  have q0 := blk_cell K.out 0
  have q1 := blk_cell K.out 1
  have q2 := blk_cell K.out 2
  have q3 := blk_cell K.out 3
  have q4 := blk_cell K.out 4
  simp at q0 q1 q2 q3 q4
  refine bodyPost_ret (v := .agg #[.int .i64 2, .int .i64 0, .float .f64 (canon f), .string ⟨#[]⟩, .slice none 0 0]) ?_ rfl ⟨rfl, HB.out⟩
  simp [results, Tryz.results12, go_sem, q0, q1, q2, q3, q4]

set_option maxHeartbeats 8000000 in
set_option maxRecDepth 100000 in
theorem text32 (t : ByteArray) (W : World) : Calls Tryz.prog 15 #[.string t] W fun e w' => e = .returned (.agg #[.int .i64 3, .int .i64 0, .float .f64 0, .string t, .slice none 0 0]) ∧ Below W.heap.size W w' := by
  go_enter Tryz.func15, Tryz.ntmps15
  go_wp2_with (first
    | ((with_reducible refine gate_dst (N := 2) rfl ?_); refine box_event ?hg (N := 2) ?hd (cs := #[.int .i64 0, .int .i64 0, .float .f64 0, .string ⟨#[]⟩, .slice none 0 0]) (t := 25) ?hr ?_; (case hd => rfl); (case hg => rfl); (case hr => first | (go_simp; done) | (go_simp; rfl)); intro g hg w1 hbox hb; have HB := Aside0.mk hb; have HG := Aside0.mk (show W.heap.size ≤ g by omega); have K := Aside0.mk hbox; clear hg hbox hb)
    | ((with_reducible refine gate_store (t := 25) (p := 2) rfl ?_); refine put_eventU ?hg (t := 25) (p := 2) (v := .tmp 4) ?ho ?hN (g := g) (u := .agg #[.int .i64 3, .int .i64 0, .float .f64 0, .string t, .slice none 0 0]) (cs := #[.int .i64 3, .int .i64 0, .float .f64 0, .string t, .slice none 0 0]) ?hp ?hv K.out ?hs ?hi ?h1 ?hc ?_; (case hs => rfl); (case hi => kernel_rfl); (case h1 => simp [Value.oneCell']); (case hc => simp [Value.cells]); (case hg => rfl); (case ho => rfl); (case hN => rfl); (case hp => rfl); (case hv => rfl); intro w3 hk hs; have HB := Aside0.mk (below_keep HB.out HG.out hs); have K := Aside0.mk hk; clear hk hs))
  have q0 := blk_cell K.out 0
  have q1 := blk_cell K.out 1
  have q2 := blk_cell K.out 2
  have q3 := blk_cell K.out 3
  have q4 := blk_cell K.out 4
  simp at q0 q1 q2 q3 q4
  refine bodyPost_ret (v := .agg #[.int .i64 3, .int .i64 0, .float .f64 0, .string t, .slice none 0 0]) ?_ rfl ⟨rfl, HB.out⟩
  simp [results, Tryz.results15, go_sem, q0, q1, q2, q3, q4]
end Go.Proofs.YtejfmghjmhiodaaGreatDoor.Vz
