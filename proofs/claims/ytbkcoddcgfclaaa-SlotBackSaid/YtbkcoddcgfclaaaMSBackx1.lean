import Derived.Test.YtbkcoddcgfclaaaProg
import Derived.Test.YtbkcoddcgfclaaaAid
import Derived.Test.YtbkcoddcgfclaaaSlotBackL
import Derived.Laws.DeepStrings4
import Derived.Below
import Derived.Deep.Draws
import Derived.Deep.AppendLies
import Derived.Maps.AppendAt
import Derived.OwnWalk
import Derived.Laws.BytesArg
import Derived.Laws.MakeOwn
import Derived.Laws.OwnMore
import Derived.Deep.OwnRows
import Derived.Tactics
import Derived.Lib.ConvBytes
import Derived.Laws.Slices
import Derived.WalkKit
import Derived.KernelRfl
import Derived.RowKit3
import Derived.Deep.LoopGhost
import Derived.Deep.QuietTactic
import Derived.BigQuiet
import Derived.WideLaws
import Derived.Deep.DeepCutAuto
import Derived.Deep.CutBlock
import Derived.Deep.RegionHeld3
import Derived.Laws.Rows
import Derived.Lib.AppendStr
import Derived.ArgAppend
import Derived.Laws.IdiomCopy
import Derived.OrdersHeld
import Derived.Laws.BitsLemmas
import Derived.RowKit
import Derived.Test.YtbkcoddcgfclaaaWWords
import Derived.Test.YtbkcoddcgfclaaaWLast
import Derived.Test.YtbkcoddcgfclaaaWTab
import Derived.Test.YtbkcoddcgfclaaaWFour
import Derived.Test.YtbkcoddcgfclaaaWApart
import Derived.Test.YtbkcoddcgfclaaaWArr
import Derived.Test.YtbkcoddcgfclaaaWZeros
import Derived.Test.YtbkcoddcgfclaaaWFoot
import Derived.Test.YtbkcoddcgfclaaaWKept
import Derived.Test.YtbkcoddcgfclaaaWShare
import Derived.Test.YtbkcoddcgfclaaaWN
import Derived.Test.YtbkcoddcgfclaaaWEqStruct
import Derived.Test.YtbkcoddcgfclaaaWRepsOne
import Derived.Test.YtbkcoddcgfclaaaWGuard
import Derived.Test.YtbkcoddcgfclaaaWMore
import Derived.Test.YtbkcoddcgfclaaaMSlotx0
namespace Go.Proofs.Ytbkcoddcgfclaaa.MSBack
open Go.Proofs.Ytbkcoddcgfclaaa.MSlot Go.RowKit Go.Proofs.YtbkcoddcgfclaaaW.PrintWords Go.Proofs.YtbkcoddcgfclaaaW.PrintLast Go.Proofs.YtbkcoddcgfclaaaW.PrintMore
attribute [local go_sem] Go.Proofs.Ytbkcoddcgfclaaa.Aid.cell_isSome Go.Proofs.Ytbkcoddcgfclaaa.Aid.string_gtr Go.Proofs.Ytbkcoddcgfclaaa.Aid.string_leq Go.Proofs.Ytbkcoddcgfclaaa.Aid.string_geq
attribute [local go_sem] max2_int min2_int max_two min_two max_three min_three max_four min_four   -- for this text's walks alone
set_option linter.unusedVariables false
set_option linter.unusedSimpArgs false

def aquiferlaw11_SlotBack.f (a0_0 : Bool) (l0_1 : List (S43)) (l0_2 : List ByteArray) (l0_3 : List Int) (a1 : Int) : Option (Bool) := Go.Proofs.Ytbkcoddcgfclaaa.Ext.aquiferlaw11_SlotBack.f a0_0 l0_1 l0_2 l0_3 a1
theorem aquiferlaw11_SlotBack.calls (a0_0 : Bool) (A0_1 : Option Addr) (c0_1 : Nat) (l0_1 : List (S43)) (A0_2 : Option Addr) (c0_2 : Nat) (l0_2 : List ByteArray) (A0_3 : Option Addr) (c0_3 : Nat) (l0_3 : List Int) (a1 : Int) (r : Bool) (w : World) (hr0_1 : Kd.C k43 w A0_1 l0_1.length l0_1) (hc0_1 : l0_1.length ≤ c0_1) (hr0_2 : Kd.C Kd.string w A0_2 l0_2.length l0_2) (hc0_2 : l0_2.length ≤ c0_2) (hr0_3 : Kd.C (Kd.int .i64) w A0_3 l0_3.length l0_3) (hc0_3 : l0_3.length ≤ c0_3) (h : aquiferlaw11_SlotBack.f a0_0 l0_1 l0_2 l0_3 a1 = some r) :
 Calls Try.prog 7 #[.agg #[.bool a0_0, .slice A0_1 l0_1.length c0_1, .slice A0_2 l0_2.length c0_2, .slice A0_3 l0_3.length c0_3], .int .i64 a1] w fun e w' => e = .returned (.bool r) ∧ Below w.heap.size w w' := Go.Proofs.Ytbkcoddcgfclaaa.Ext.aquiferlaw11_SlotBack.calls a0_0 A0_1 c0_1 l0_1 A0_2 c0_2 l0_2 A0_3 c0_3 l0_3 a1 r w hr0_1 hc0_1 hr0_2 hc0_2 hr0_3 hc0_3 h

end Go.Proofs.Ytbkcoddcgfclaaa.MSBack
