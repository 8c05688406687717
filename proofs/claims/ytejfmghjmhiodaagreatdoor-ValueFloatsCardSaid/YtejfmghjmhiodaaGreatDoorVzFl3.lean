import Derived.Test.YtejfmghjmhiodaaGreatDoorVzFl2
namespace Go.Proofs.YtejfmghjmhiodaaGreatDoor.Vz
open Go.RowKit Go.Proofs.YtejfmghjmhiodaaGreatDoorW.PrintWords
set_option linter.unusedVariables false
set_option linter.unusedSimpArgs false
attribute [local go_sem] store_float

theorem Save.refl (S : Nat → Prop) (w : World) : Save S w w := Save.of (Below.refl _ _)
theorem Save.cell {S : Nat → Prop} {w a : World} (h : Save S w a) {g o : Nat} {v : Value} (k : w.cell? ⟨g, o, none⟩ = some v) (hs : ¬ S g) : a.cell? ⟨g, o, none⟩ = some v := by
  have e := h.block g (cell_in k) hs
  simp only [World.cell?, e] at k ⊢
  exact k

set_option maxHeartbeats 8000000 in
set_option maxRecDepth 100000 in
theorem pre120 (b i : Nat) (e p lp s : Int) (hi lo : Nat) (hi1 : i < 696) (hp : p = (i : Int) - 348) (hs : wrap64 (-wrap64 (wrap64 (e + lp) + 3)) = s) (W : World) (x0 x1 x2 : Value)
    (h0 : W.cell? ⟨13, i * 2, none⟩ = some (.int .u64 (hi : Int))) (h1 : W.cell? ⟨13, i * 2 + 1, none⟩ = some (.int .u64 (lo : Int))) (hb : b ≠ 13)
    (hk : W.heap[b]? = some (.cells #[x0, x1, x2] 130 (0, 0))) :
    Calls Tryz.prog 120 #[.pointer (some ⟨b, 0, none⟩), .int .i64 e, .int .i64 p, .int .i64 lp] W fun e w' => e = .returned (.tuple #[]) ∧ w'.heap[b]? = some (.cells #[.int .u64 (hi : Int), .int .u64 (lo : Int), .int .i64 s] 130 (0, 0)) ∧ Save (fun k => k = b) W w' := by
  have e1 : wrap64 (p + 348) = i := by unfold wrap64; omega
  have q0 : W.cell? ⟨b, 0, none⟩ = some x0 := blk_cell hk 0
  have f0 : W.frozen? ⟨b, 0, none⟩ = false := blk_frozen hk 0
  have hi0 : (0:Int) ≤ (i:Int) := by omega
  have hi2 : (i:Int) < 696 := by omega
  have HK := Aside0.mk hk
  have H1 := Aside0.mk h1
  have HS := Aside0.mk (Save.refl (fun k => k = b) W)
  have HSS := Aside0.mk hs
  clear hk h1 hp hs hi1
  go_enter Tryz.func120, Tryz.ntmps120
  go_upto_region 1 with (fail)
  have HK := Aside0.mk (blk_set HK.out 0 (.int .u64 (hi : Int)))
  have HS := Aside0.mk (HS.out.setIn (p := ⟨b, 0, none⟩) rfl (.int .u64 (hi : Int)))
  generalize W.setCell _ _ = W1 at HK HS ⊢
  have h1 : W1.cell? ⟨13, i * 2 + 1, none⟩ = _ := HS.out.cell H1.out (fun x => hb x.symm)
  have q1 : W1.cell? ⟨b, 1, none⟩ = some x1 := blk_cell HK.out 1
  have f1 : W1.frozen? ⟨b, 1, none⟩ = false := blk_frozen HK.out 1
  clear q0 f0 h0
  go_upto_region 2 with (fail)
  have HK := Aside0.mk (blk_set HK.out 1 (.int .u64 (lo : Int)))
  have HS := Aside0.mk (HS.out.setIn (p := ⟨b, 1, none⟩) rfl (.int .u64 (lo : Int)))
  generalize W1.setCell _ _ = W2 at HK HS ⊢
  have q2 : W2.cell? ⟨b, 2, none⟩ = some x2 := blk_cell HK.out 2
  have f2 : W2.frozen? ⟨b, 2, none⟩ = false := blk_frozen HK.out 2
  clear q1 f1
  have hs := HSS.out
  go_wp2
  have HK := Aside0.mk (blk_set HK.out 2 (.int .i64 s))
  have HS := Aside0.mk (HS.out.setIn (p := ⟨b, 2, none⟩) rfl (.int .i64 s))
  exact bodyPost_end (v := .tuple #[]) (results_none (by rfl) _ _ _) rfl ⟨rfl, HK.out, HS.out⟩
end Go.Proofs.YtejfmghjmhiodaaGreatDoor.Vz
