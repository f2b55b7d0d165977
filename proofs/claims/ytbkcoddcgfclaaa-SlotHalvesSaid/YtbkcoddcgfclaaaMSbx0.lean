-- PRINTED for Ytbkcoddcgfclaaa by this session's own driver; checked by Lean alone
import Derived.Test.YtbkcoddcgfclaaaProg
import Derived.Test.YtbkcoddcgfclaaaAid
import Derived.Test.YtbkcoddcgfclaaaSlices
import Derived.Test.YtbkcoddcgfclaaaExt
import Derived.Test.YtbkcoddcgfclaaaExtB
import Derived.Laws.DeepStrings4
import Derived.Below
import Derived.Deep.Draws
import Derived.Deep.AppendLies
import Derived.Maps.AppendAt
import Derived.OwnWalk
import Derived.Laws.BytesArg
import Derived.Laws.MakeOwn
import Derived.Laws.OwnMore
import Derived.Deep.OwnRows
import Derived.Tactics
import Derived.Lib.ConvBytes
import Derived.Laws.Slices
import Derived.WalkKit
import Derived.KernelRfl
import Derived.RowKit3
import Derived.Deep.LoopGhost
import Derived.Deep.QuietTactic
import Derived.BigQuiet
import Derived.WideLaws
import Derived.Deep.DeepCutAuto
import Derived.Deep.CutBlock
import Derived.Deep.RegionHeld3
import Derived.Laws.Rows
import Derived.Lib.AppendStr
import Derived.ArgAppend
import Derived.Laws.IdiomCopy
import Derived.OrdersHeld
import Derived.Laws.BitsLemmas
import Derived.RowKit
import Derived.Test.YtbkcoddcgfclaaaWWords
import Derived.Test.YtbkcoddcgfclaaaWLast
import Derived.Test.YtbkcoddcgfclaaaWTab
import Derived.Test.YtbkcoddcgfclaaaWApart
import Derived.Test.YtbkcoddcgfclaaaWArr
import Derived.Test.YtbkcoddcgfclaaaWZeros
import Derived.Test.YtbkcoddcgfclaaaWFoot
import Derived.Test.YtbkcoddcgfclaaaWKept
import Derived.Test.YtbkcoddcgfclaaaWShare
import Derived.Test.YtbkcoddcgfclaaaWN
import Derived.Test.YtbkcoddcgfclaaaWAt
import Derived.Test.YtbkcoddcgfclaaaWEqStruct
import Derived.Test.YtbkcoddcgfclaaaWRepsOne
import Derived.Test.YtbkcoddcgfclaaaWGuard
import Derived.Test.YtbkcoddcgfclaaaWMore
import Derived.Test.YtbkcoddcgfclaaaMSlotx0
namespace Go.Proofs.Ytbkcoddcgfclaaa.MSb
open Go.Proofs.Ytbkcoddcgfclaaa.MSlot Go.RowKit Go.Proofs.YtbkcoddcgfclaaaW.PrintWords Go.Proofs.YtbkcoddcgfclaaaW.PrintLast Go.Proofs.YtbkcoddcgfclaaaW.PrintMore
attribute [local go_sem] Go.Proofs.Ytbkcoddcgfclaaa.Aid.cell_isSome Go.Proofs.Ytbkcoddcgfclaaa.Aid.string_gtr Go.Proofs.Ytbkcoddcgfclaaa.Aid.string_leq Go.Proofs.Ytbkcoddcgfclaaa.Aid.string_geq
attribute [local go_sem] max2_int min2_int max_two min_two max_three min_three max_four min_four   -- for this text's walks alone
set_option linter.unusedVariables false
set_option linter.unusedSimpArgs false
theorem info22 : (Try.prog.info? 22).map (fun i => (i.zero, i.size, i.bytes)) = some (some (.slice none 0 0), 1, 24) := by kernel_rfl
theorem info23 : (Try.prog.info? 23).map (fun i => (i.zero, i.size, i.bytes)) = some (some (.slice none 0 0), 1, 24) := by kernel_rfl
theorem info24 : (Try.prog.info? 24).map (fun i => (i.zero, i.size, i.bytes)) = some (some (.slice none 0 0), 1, 24) := by kernel_rfl
end Go.Proofs.Ytbkcoddcgfclaaa.MSb
