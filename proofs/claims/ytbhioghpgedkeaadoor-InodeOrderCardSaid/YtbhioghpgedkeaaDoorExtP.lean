/- path.is and LastIndexByte, for path.Parent. -/
import Derived.Test.YtbhioghpgedkeaaDoorShelfB
import Derived.Test.YtbhioghpgedkeaaDoorPPa
import Derived.Test.YtbhioghpgedkeaaDoorMItx8
set_option linter.unusedSimpArgs false
set_option linter.unusedVariables false
namespace Go.Proofs.YtbhioghpgedkeaaDoor.Ext
open Go.RowKit Go.Proofs.YtbhioghpgedkeaaDoorW.PrintWords Go.Proofs.YtbhioghpgedkeaaDoorW.PrintLast Go.Proofs.YtbhioghpgedkeaaDoorW.PrintMore Go.Proofs.YtbhioghpgedkeaaDoor.PP

def strings_LastIndexByte.f (a0 : ByteArray) (a1 : Int) : Option (Int) := if a0.size < 4611686018427387904 then some (Lib.lastIndexByte a0 a1) else none
theorem strings_LastIndexByte.calls (a0 : ByteArray) (a1 : Int) (r : Int) (w : World) (h : strings_LastIndexByte.f a0 a1 = some r) :
    Calls Tryd.prog 97 #[.string a0, .int .u8 a1] w fun e w' => e = .returned (.int .i64 r) ∧ Drawn0 w w' := by
  unfold strings_LastIndexByte.f at h
  split at h
  · rename_i hs
    obtain rfl := Option.some.inj h
    refine (Tryd.strings_LastIndexByte a0 a1 hs w).mono ?_
    rintro e w' ⟨rfl, rfl⟩
    exact ⟨rfl, ⟨0, rfl⟩⟩
  · cases h
def path_is.f (a0 : ByteArray) (a1 : Int) : Option (Bool) := some (isP a0.data.toList a1)
theorem path_is.calls (a0 : ByteArray) (a1 : Int) (r : Bool) (w : World) (h : path_is.f a0 a1 = some r) :
    Calls Tryd.prog 75 #[.string a0, .int .i64 a1] w fun e w' => e = .returned (.bool r) ∧ Below w.heap.size w w' := by
  exact MIt.path_is.calls 400 a0 a1 r w ((is_eq a0 a1 400 (Nat.le_refl _)).trans h)
end Go.Proofs.YtbhioghpgedkeaaDoor.Ext
