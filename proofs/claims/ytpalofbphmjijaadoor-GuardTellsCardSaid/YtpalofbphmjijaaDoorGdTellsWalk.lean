import Derived.Test.YtpalofbphmjijaaDoorGdTells
import Derived.OpenShut
namespace Go.Proofs.YtpalofbphmjijaaDoor.GdTellsW
open Go.RowKit
set_option linter.unusedVariables false
theorem walk (a0 : Int) (w0 : (Lit.int .u8 a0).wf = true) (a1 : ByteArray) (y1 : a1.size ≤ maxLen) (a2 : Int) (w2 : (Lit.int .i32 a2).wf = true) (W : World) (_h : True) :
    Calls Tryd.prog 3 #[.int .u8 a0, .string a1, .int .i32 a2] W fun e W' => e = .returned (.bool true) ∧ Below W.heap.size W W' := by
  exact Gd.tells3 a0 a2 a1 (bounds_u8 w0) (bounds_i32 w2) W
end Go.Proofs.YtpalofbphmjijaaDoor.GdTellsW
