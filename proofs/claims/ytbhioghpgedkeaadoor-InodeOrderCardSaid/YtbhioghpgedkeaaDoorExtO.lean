/- Split at '/' and path.Below as the plain words say them, for InodeOrder. -/
import Derived.Test.YtbhioghpgedkeaaDoorMItx7
import Derived.Test.YtbhioghpgedkeaaDoorUpsI
set_option linter.unusedSimpArgs false
set_option linter.unusedVariables false
namespace Go.Proofs.YtbhioghpgedkeaaDoor.Ext
open Go.RowKit Go.Proofs.YtbhioghpgedkeaaDoorW.PrintWords Go.Proofs.YtbhioghpgedkeaaDoorW.PrintLast Go.Proofs.YtbhioghpgedkeaaDoorW.PrintMore Go.Proofs.YtbhioghpgedkeaaDoor.PP

def path_Below.f (a0 : ByteArray) (a1 : ByteArray) : Option (Bool) := Ups.path_Below.f a0 a1
theorem path_Below.calls (a0 : ByteArray) (a1 : ByteArray) (r : Bool) (w : World) (h : path_Below.f a0 a1 = some r) :
    Calls Tryd.prog 35 #[.string a0, .string a1] w fun e w' => e = .returned (.bool r) ∧ Below w.heap.size w w' := by
  exact Ups.path_Below.calls a0 a1 r w h
def strings_Split.f (a0 : ByteArray) (a1 : ByteArray) : Option (List ByteArray) := if a0.size ≤ 1000 ∧ a1 = ⟨#[47]⟩ then some ((splitL a0.data.toList).map bs) else none
theorem strings_Split.calls (a0 : ByteArray) (a1 : ByteArray) (r : List ByteArray) (w : World) (h : strings_Split.f a0 a1 = some r) :
    Calls Tryd.prog 65 #[.string a0, .string a1] w fun e w' => ∃ v0_ : Value, e = .returned (v0_) ∧ Kd.R Kd.string 9 w' w.heap.size (fun _ => True) v0_ r ∧ Below w.heap.size w w' := by
  unfold strings_Split.f at h
  by_cases hs : a0.size ≤ 1000 ∧ a1 = ⟨#[47]⟩
  · rw [if_pos hs] at h
    obtain ⟨hs, rfl⟩ := hs
    exact MIt.strings_Split.calls 1005 a0 _ r w ((split_eq a0 1005 (by omega) (by omega)).trans h)
  · rw [if_neg hs] at h
    cases h
end Go.Proofs.YtbhioghpgedkeaaDoor.Ext
