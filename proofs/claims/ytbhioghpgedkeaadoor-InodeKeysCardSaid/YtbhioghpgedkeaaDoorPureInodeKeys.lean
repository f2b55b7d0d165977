/- The law InodeKeys answers true for every input: its plain statement. -/
import Derived.Test.YtbhioghpgedkeaaDoorKeysP
import Derived.Test.YtbhioghpgedkeaaDoorMKbx6
namespace Go.Proofs.YtbhioghpgedkeaaDoor.Pure
open Go.Proofs.YtbhioghpgedkeaaDoor.MIt Go.RowKit Go.Proofs.YtbhioghpgedkeaaDoor.MKb Go.Proofs.YtbhioghpgedkeaaDoorW.PrintWords Go.Proofs.YtbhioghpgedkeaaDoorW.PrintLast Go.Proofs.YtbhioghpgedkeaaDoorW.PrintMore

theorem InodeKeys : ∀ (a0 : ByteArray) (l1 : List (S56)), a0.size ≤ 140737488351232 → (l1.length ≤ 140737488351232 ∧ ∀ e0 ∈ l1, ((-9223372036854775808 ≤ e0.f0 ∧ e0.f0 ≤ 9223372036854775807) ∧ (-9223372036854775808 ≤ e0.f1 ∧ e0.f1 ≤ 9223372036854775807) ∧ e0.f2.size ≤ 140737488351232)) → ∃ k : Nat, aquiferlaw17_InodeKeys.f k a0 l1 = some true :=
  fun a0 l1 _ _ => ⟨600, PP.Keys_eq a0 l1⟩
end Go.Proofs.YtbhioghpgedkeaaDoor.Pure
