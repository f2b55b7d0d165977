/- The law SlotHalves as a contract: it returns true. -/
import Derived.Test.YtbkcoddcgfclaaaHalvesW
import Derived.Test.YtbkcoddcgfclaaaSlotWorks
set_option linter.unusedSimpArgs false
set_option linter.unusedVariables false
namespace Go.Proofs.Ytbkcoddcgfclaaa.Ext
open Go.Proofs.Ytbkcoddcgfclaaa.MSlot Go.RowKit Go.Proofs.YtbkcoddcgfclaaaW.PrintWords Go.Proofs.YtbkcoddcgfclaaaW.PrintLast Go.Proofs.YtbkcoddcgfclaaaW.PrintMore

def aquiferlaw11_SlotHalves.f (a0_0 : Bool) (l0_1 : List (S43)) (l0_2 : List ByteArray) (l0_3 : List Int) (a1_0 : ByteArray) (a1_1 : ByteArray) (a1_2 : Int) (a1_3 : Int) : Option (Bool) := if a1_0.size ≤ 140737488351232 ∧ a1_1.size ≤ 140737488351232 then some true else none
theorem aquiferlaw11_SlotHalves.calls (a0_0 : Bool) (A0_1 : Option Addr) (c0_1 : Nat) (l0_1 : List (S43)) (A0_2 : Option Addr) (c0_2 : Nat) (l0_2 : List ByteArray) (A0_3 : Option Addr) (c0_3 : Nat) (l0_3 : List Int) (a1_0 : ByteArray) (a1_1 : ByteArray) (a1_2 : Int) (a1_3 : Int) (r : Bool) (w : World) (hr0_1 : Kd.C k43 w A0_1 l0_1.length l0_1) (hc0_1 : l0_1.length ≤ c0_1) (hr0_2 : Kd.C Kd.string w A0_2 l0_2.length l0_2) (hc0_2 : l0_2.length ≤ c0_2) (hr0_3 : Kd.C (Kd.int .i64) w A0_3 l0_3.length l0_3) (hc0_3 : l0_3.length ≤ c0_3) (h : aquiferlaw11_SlotHalves.f a0_0 l0_1 l0_2 l0_3 a1_0 a1_1 a1_2 a1_3 = some r) :
  Calls Try.prog 5 #[.agg #[.bool a0_0, .slice A0_1 l0_1.length c0_1, .slice A0_2 l0_2.length c0_2, .slice A0_3 l0_3.length c0_3], .agg #[.string a1_0, .string a1_1, .int .i64 a1_2, .int .i64 a1_3]] w fun e w' => e = .returned (.bool r) ∧ Below w.heap.size w w' := by
  unfold aquiferlaw11_SlotHalves.f at h
  by_cases hc : a1_0.size ≤ 140737488351232 ∧ a1_1.size ≤ 140737488351232
  · rw [if_pos hc] at h
    have hr : true = r := Option.some.inj h
    subst hr
    exact SP.halves_walk SP.works_call ⟨a0_0, A0_1, c0_1, l0_1, A0_2, c0_2, l0_2, A0_3, c0_3, l0_3⟩ ⟨a1_0, a1_1, a1_2, a1_3⟩ w ⟨hr0_1, hc0_1, hr0_2, hc0_2, hr0_3, hc0_3⟩ hc.1 hc.2
  · rw [if_neg hc] at h
    cases h
end Go.Proofs.Ytbkcoddcgfclaaa.Ext
