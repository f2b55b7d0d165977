/- The program's Copy, as the plain words say it. -/
import Derived.Test.YtfnbadfehelleaaDoorMPathx2
import Derived.Test.YtfnbadfehelleaaDoorExtB
set_option linter.unusedSimpArgs false
set_option linter.unusedVariables false
namespace Go.Proofs.YtfnbadfehelleaaDoor.Ext
open Go.RowKit Go.Proofs.YtfnbadfehelleaaDoorW.PrintWords Go.Proofs.YtfnbadfehelleaaDoorW.PrintLast Go.Proofs.YtfnbadfehelleaaDoorW.PrintMore Go.Proofs.YtfnbadfehelleaaDoor.PP

def path_Copy.f (a0 : ByteArray) (a1 : Int) : Option (ByteArray × Int) := some (two (copyP a0.data.toList a1))
theorem path_Copy.calls (a0 : ByteArray) (a1 : Int) (r1 : ByteArray) (r2 : Int) (w : World) (h : path_Copy.f a0 a1 = some (r1, r2)) :
    Calls Tryd.prog 16 #[.string a0, .int .i64 a1] w fun e w' => e = .returned (.tuple #[.string r1, .int .i64 r2]) ∧ Below w.heap.size w w' := by
  exact MPath.path_Copy.calls 500 a0 a1 r1 r2 w ((Copy_eq a0 a1 500 (Nat.le_refl _)).trans h)
end Go.Proofs.YtfnbadfehelleaaDoor.Ext
