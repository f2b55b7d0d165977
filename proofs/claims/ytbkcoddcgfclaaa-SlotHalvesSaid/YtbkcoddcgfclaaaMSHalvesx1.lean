-- PRINTED for Ytbkcoddcgfclaaa by this session's own driver; checked by Lean alone
import Derived.Test.YtbkcoddcgfclaaaMSHalvesx0
namespace Go.Proofs.Ytbkcoddcgfclaaa.MSHalves
open Go.Proofs.Ytbkcoddcgfclaaa.MSlot Go.RowKit Go.Proofs.YtbkcoddcgfclaaaW.PrintWords Go.Proofs.YtbkcoddcgfclaaaW.PrintLast Go.Proofs.YtbkcoddcgfclaaaW.PrintMore
attribute [local go_sem] Go.Proofs.Ytbkcoddcgfclaaa.Aid.cell_isSome Go.Proofs.Ytbkcoddcgfclaaa.Aid.string_gtr Go.Proofs.Ytbkcoddcgfclaaa.Aid.string_leq Go.Proofs.Ytbkcoddcgfclaaa.Aid.string_geq
attribute [local go_sem] max2_int min2_int max_two min_two max_three min_three max_four min_four   -- for this text's walks alone
set_option linter.unusedVariables false
set_option linter.unusedSimpArgs false

/-! ### aquiferlaw11_SlotHalves: function 5 -/
def aquiferlaw11_SlotHalves.f (a0_0 : Bool) (l0_1 : List (S43)) (l0_2 : List ByteArray) (l0_3 : List Int) (a1_0 : ByteArray) (a1_1 : ByteArray) (a1_2 : Int) (a1_3 : Int) : Option (Bool) := Go.Proofs.Ytbkcoddcgfclaaa.Ext.aquiferlaw11_SlotHalves.f a0_0 l0_1 l0_2 l0_3 a1_0 a1_1 a1_2 a1_3
theorem aquiferlaw11_SlotHalves.calls (a0_0 : Bool) (A0_1 : Option Addr) (c0_1 : Nat) (l0_1 : List (S43)) (A0_2 : Option Addr) (c0_2 : Nat) (l0_2 : List ByteArray) (A0_3 : Option Addr) (c0_3 : Nat) (l0_3 : List Int) (a1_0 : ByteArray) (a1_1 : ByteArray) (a1_2 : Int) (a1_3 : Int) (r : Bool) (w : World) (hr0_1 : Kd.C k43 w A0_1 l0_1.length l0_1) (hc0_1 : l0_1.length ≤ c0_1) (hr0_2 : Kd.C Kd.string w A0_2 l0_2.length l0_2) (hc0_2 : l0_2.length ≤ c0_2) (hr0_3 : Kd.C (Kd.int .i64) w A0_3 l0_3.length l0_3) (hc0_3 : l0_3.length ≤ c0_3) (h : aquiferlaw11_SlotHalves.f a0_0 l0_1 l0_2 l0_3 a1_0 a1_1 a1_2 a1_3 = some r) :
 Calls Try.prog 5 #[.agg #[.bool a0_0, .slice A0_1 l0_1.length c0_1, .slice A0_2 l0_2.length c0_2, .slice A0_3 l0_3.length c0_3], .agg #[.string a1_0, .string a1_1, .int .i64 a1_2, .int .i64 a1_3]] w fun e w' => e = .returned (.bool r) ∧ Below w.heap.size w w' := Go.Proofs.Ytbkcoddcgfclaaa.Ext.aquiferlaw11_SlotHalves.calls a0_0 A0_1 c0_1 l0_1 A0_2 c0_2 l0_2 A0_3 c0_3 l0_3 a1_0 a1_1 a1_2 a1_3 r w hr0_1 hc0_1 hr0_2 hc0_2 hr0_3 hc0_3 h

end Go.Proofs.Ytbkcoddcgfclaaa.MSHalves
