-- PRINTED for YtfnbadfehelleaaDoor by this session's own driver; checked by Lean alone
import Derived.Test.YtfnbadfehelleaaDoorProg
import Derived.Test.YtfnbadfehelleaaDoorAid
import Derived.Test.YtfnbadfehelleaaDoorExt
import Derived.Laws.DeepStrings4
import Derived.Below
import Derived.Deep.Draws
import Derived.Deep.AppendLies
import Derived.Maps.AppendAt
import Derived.OwnWalk
import Derived.Laws.BytesArg
import Derived.Laws.MakeOwn
import Derived.Laws.OwnMore
import Derived.Deep.OwnRows
import Derived.Tactics
import Derived.Lib.ConvBytes
import Derived.Laws.Slices
import Derived.WalkKit
import Derived.KernelRfl
import Derived.RowKit3
import Derived.Deep.LoopGhost
import Derived.Deep.QuietTactic
import Derived.BigQuiet
import Derived.WideLaws
import Derived.Deep.DeepCutAuto
import Derived.Deep.CutBlock
import Derived.Deep.RegionHeld3
import Derived.Laws.Rows
import Derived.Lib.AppendStr
import Derived.ArgAppend
import Derived.Laws.IdiomCopy
import Derived.OrdersHeld
import Derived.Laws.BitsLemmas
import Derived.RowKit
import Derived.Test.YtfnbadfehelleaaDoorWWords
import Derived.Test.YtfnbadfehelleaaDoorWLast
import Derived.Test.YtfnbadfehelleaaDoorWTab
import Derived.Test.YtfnbadfehelleaaDoorWFour
import Derived.Test.YtfnbadfehelleaaDoorWQPut
import Derived.Test.YtfnbadfehelleaaDoorWApart
import Derived.Test.YtfnbadfehelleaaDoorWArr
import Derived.Test.YtfnbadfehelleaaDoorWZeros
import Derived.Test.YtfnbadfehelleaaDoorWFoot
import Derived.Test.YtfnbadfehelleaaDoorWKept
import Derived.Test.YtfnbadfehelleaaDoorWShare
import Derived.Test.YtfnbadfehelleaaDoorWN
import Derived.Test.YtfnbadfehelleaaDoorWFootNe
import Derived.Test.YtfnbadfehelleaaDoorWAt
import Derived.Test.YtfnbadfehelleaaDoorWEqStruct
import Derived.Test.YtfnbadfehelleaaDoorWRepsOne
import Derived.Test.YtfnbadfehelleaaDoorWInv
import Derived.Test.YtfnbadfehelleaaDoorWInvWords
import Derived.Test.YtfnbadfehelleaaDoorWGuard
import Derived.Test.YtfnbadfehelleaaDoorWNEv
import Derived.Test.YtfnbadfehelleaaDoorWMore
namespace Go.Proofs.YtfnbadfehelleaaDoor.MPath
open Go.RowKit Go.Proofs.YtfnbadfehelleaaDoorW.PrintWords Go.Proofs.YtfnbadfehelleaaDoorW.PrintLast Go.Proofs.YtfnbadfehelleaaDoorW.PrintMore
attribute [local go_sem] Go.Proofs.YtfnbadfehelleaaDoor.Aid.cell_isSome Go.Proofs.YtfnbadfehelleaaDoor.Aid.string_gtr Go.Proofs.YtfnbadfehelleaaDoor.Aid.string_leq Go.Proofs.YtfnbadfehelleaaDoor.Aid.string_geq
attribute [local go_sem] max2_int min2_int max_two min_two max_three min_three max_four min_four   -- for this text's walks alone
set_option linter.unusedVariables false
set_option linter.unusedSimpArgs false



def errW : Option Int → Value
 | none => .nilIface
 | some c => .iface 0 (.int .i64 c)
theorem errW_none : errW none = .nilIface := rfl
theorem errW_some (c : Int) : errW (some c) = .iface 0 (.int .i64 c) := rfl

theorem info9 : (Tryd.prog.info? 9).map (fun i => (i.zero, i.size, i.bytes)) = some (some (.string ⟨#[]⟩), 1, 16) := by kernel_rfl
-- the values' own types

end Go.Proofs.YtfnbadfehelleaaDoor.MPath
