import Derived.Test.YtpalofbphmjijaaDoorGdOpen
import Derived.Test.YtpalofbphmjijaaDoorGdRuns2
import Derived.OpenShut
namespace Go.Proofs.YtpalofbphmjijaaDoor.GdRunsW
open Go.RowKit
set_option linter.unusedVariables false
theorem walk (x : Gd.Val) (cs : Array Value) {w : World} (hx : Gd.RV w (fun _ => True) x cs.toList.toArray) (a1 : Int) (w1 : (Lit.int .u16 a1).wf = true) (a2 : Int) (w2 : (Lit.int .u8 a2).wf = true) (a3 : ByteArray) (y3 : a3.size ≤ maxLen) (a4 : Int) (w4 : (Lit.int .i64 a4).wf = true) (W : World) (_h : True) (hW : W = w := by rfl) :
    Calls Tryd.prog 5 #[.agg cs, .int .u16 a1, .int .u8 a2, .string a3, .int .i64 a4] W fun e W' => e = .returned (.bool true) ∧ Below W.heap.size W W' := by
  subst hW
  exact Gd.runs5 x cs a1 a2 a4 a3 _ W (by simpa using hx) (bounds_u16 w1) (bounds_u8 w2)
end Go.Proofs.YtpalofbphmjijaaDoor.GdRunsW
