import Derived.Test.YtejfmghjmhiodaaGreatDoorVzOpen
import Derived.Test.YtejfmghjmhiodaaGreatDoorVzLineWalk
import Derived.OpenShut
namespace Go.Proofs.YtejfmghjmhiodaaGreatDoor.VzLineW
open Go.RowKit
set_option linter.unusedVariables false
theorem walk (x : Vz.Val) (ca : Array Value) {w : World} (hx : Vz.RV w (fun _ => True) x ca.toList.toArray) (y : Vz.Val) (cb : Array Value) (hy : Vz.RV w (fun _ => True) y cb.toList.toArray) (z : Vz.Val) (cd : Array Value) (hz : Vz.RV w (fun _ => True) z cd.toList.toArray) (W : World) (T : Vz.Tabs3 W) (hW : W = w := by rfl) :
    Calls Tryz.prog 3 #[.agg ca, .agg cb, .agg cd] W fun e W' => e = .returned (.bool true) ∧ Below W.heap.size W W' := by
  subst hW
  exact Vz.line3 (fun a b w => Tryz.strings_Compare a b w) W T x y z ca cb cd (by simpa using hx) (by simpa using hy) (by simpa using hz)
end Go.Proofs.YtejfmghjmhiodaaGreatDoor.VzLineW
