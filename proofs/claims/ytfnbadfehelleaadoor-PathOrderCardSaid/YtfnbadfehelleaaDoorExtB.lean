/- The program's functions of layer 5, as the plain words say them, for the laws behind. -/
import Derived.Test.YtfnbadfehelleaaDoorMPathx6
import Derived.Test.YtfnbadfehelleaaDoorUps
set_option linter.unusedSimpArgs false
set_option linter.unusedVariables false
namespace Go.Proofs.YtfnbadfehelleaaDoor.Ext
open Go.RowKit Go.Proofs.YtfnbadfehelleaaDoorW.PrintWords Go.Proofs.YtfnbadfehelleaaDoorW.PrintLast Go.Proofs.YtfnbadfehelleaaDoorW.PrintMore Go.Proofs.YtfnbadfehelleaaDoor.PP

def aquiferlaw05_few.f (a0 : ByteArray) : Option (ByteArray) := MPath.aquiferlaw05_few.f a0
theorem aquiferlaw05_few.calls (a0 : ByteArray) (r : ByteArray) (w : World) (h : aquiferlaw05_few.f a0 = some r) :
    Calls Tryd.prog 10 #[.string a0] w fun e w' => e = .returned (.string r) ∧ Below w.heap.size w w' := by
  exact MPath.aquiferlaw05_few.calls a0 r w h
def path_Below.f (a0 : ByteArray) (a1 : ByteArray) : Option (Bool) := Ups.path_Below.f a0 a1
theorem path_Below.calls (a0 : ByteArray) (a1 : ByteArray) (r : Bool) (w : World) (h : path_Below.f a0 a1 = some r) :
    Calls Tryd.prog 19 #[.string a0, .string a1] w fun e w' => e = .returned (.bool r) ∧ Below w.heap.size w w' := by
  exact Ups.path_Below.calls a0 a1 r w h
def path_Kind.f (a0 : ByteArray) : Option (Int × Int) := some (kindP a0.data.toList)
theorem path_Kind.calls (a0 : ByteArray) (r1 : Int) (r2 : Int) (w : World) (h : path_Kind.f a0 = some (r1, r2)) :
    Calls Tryd.prog 13 #[.string a0] w fun e w' => e = .returned (.tuple #[.int .i64 r1, .int .i64 r2]) ∧ Below w.heap.size w w' := by
  exact MPath.path_Kind.calls 400 a0 r1 r2 w ((Kind_eq a0 400 (Nat.le_refl _)).trans h)
def path_Compare.f (a0 : ByteArray) (a1 : ByteArray) : Option (Int) := if a0.size ≤ 90000 ∧ a1.size ≤ 90000 then some (cmpN (splitL a0.data.toList) (splitL a1.data.toList)) else none
theorem path_Compare.calls (a0 : ByteArray) (a1 : ByteArray) (r : Int) (w : World) (h : path_Compare.f a0 a1 = some r) :
    Calls Tryd.prog 18 #[.string a0, .string a1] w fun e w' => e = .returned (.int .i64 r) ∧ Below w.heap.size w w' := by
  unfold path_Compare.f at h
  by_cases hs : a0.size ≤ 90000 ∧ a1.size ≤ 90000
  · rw [if_pos hs] at h
    exact MPath.path_Compare.calls 90005 a0 a1 r w ((Compare_eq a0 a1 90005 hs.1 hs.2 (by omega) (by omega)).trans h)
  · rw [if_neg hs] at h
    cases h
def aquiferlaw05_works.f  : Option (Bool) := some true
theorem aquiferlaw05_works.calls (r : Bool) (w : World) (h : aquiferlaw05_works.f = some r) :
    Calls Tryd.prog 12 #[] w fun e w' => e = .returned (.bool r) ∧ Below w.heap.size w w' := by
  exact MPath.aquiferlaw05_works.calls 20000 r w ((works_eq 20000 (Nat.le_refl _)).trans h)
end Go.Proofs.YtfnbadfehelleaaDoor.Ext
