import Derived.Test.YtejfmghjmhiodaaGreatDoorVzOpen
import Derived.Test.YtejfmghjmhiodaaGreatDoorVzFz1
import Derived.OpenShut
namespace Go.Proofs.YtejfmghjmhiodaaGreatDoor.VzFloatsW
open Go.RowKit
set_option linter.unusedVariables false
theorem walk (f : Nat) (hf : (Lit.float .f64 f).wf = true) (g : Nat) (hg : (Lit.float .f64 g).wf = true) (W : World) (T : Vz.Tabs3 W) :
    Calls Tryz.prog 4 #[.float .f64 f, .float .f64 g] W fun e W' => e = .returned (.bool true) ∧ Below W.heap.size W W' :=
  Vz.floats4 (fun a b w => Tryz.strings_Compare a b w) W T f g hf hg
end Go.Proofs.YtejfmghjmhiodaaGreatDoor.VzFloatsW
