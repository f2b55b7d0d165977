import Derived.Test.YtbhioghpgedkeaaDoorProg
import Derived.Test.YtbhioghpgedkeaaDoorAid
import Derived.Test.YtbhioghpgedkeaaDoorExt
import Derived.Test.YtbhioghpgedkeaaDoorExtK
import Derived.Laws.DeepStrings4
import Derived.Below
import Derived.Deep.Draws
import Derived.Deep.AppendLies
import Derived.Maps.AppendAt
import Derived.OwnWalk
import Derived.Laws.BytesArg
import Derived.Laws.MakeOwn
import Derived.Laws.OwnMore
import Derived.Deep.OwnRows
import Derived.Tactics
import Derived.Lib.ConvBytes
import Derived.Laws.Slices
import Derived.WalkKit
import Derived.KernelRfl
import Derived.RowKit3
import Derived.Deep.LoopGhost
import Derived.Deep.QuietTactic
import Derived.BigQuiet
import Derived.WideLaws
import Derived.Deep.DeepCutAuto
import Derived.Deep.CutBlock
import Derived.Deep.RegionHeld3
import Derived.Laws.Rows
import Derived.Lib.AppendStr
import Derived.ArgAppend
import Derived.Laws.IdiomCopy
import Derived.OrdersHeld
import Derived.Laws.BitsLemmas
import Derived.RowKit
import Derived.Test.YtbhioghpgedkeaaDoorWWords
import Derived.Test.YtbhioghpgedkeaaDoorWLast
import Derived.Test.YtbhioghpgedkeaaDoorWTab
import Derived.Test.YtbhioghpgedkeaaDoorWApart
import Derived.Test.YtbhioghpgedkeaaDoorWArr
import Derived.Test.YtbhioghpgedkeaaDoorWFoot
import Derived.Test.YtbhioghpgedkeaaDoorWKept
import Derived.Test.YtbhioghpgedkeaaDoorWShare
import Derived.Test.YtbhioghpgedkeaaDoorWN
import Derived.Test.YtbhioghpgedkeaaDoorWEqStruct
import Derived.Test.YtbhioghpgedkeaaDoorWRepsOne
import Derived.Test.YtbhioghpgedkeaaDoorWGuard
import Derived.Test.YtbhioghpgedkeaaDoorWMore
import Derived.Test.YtbhioghpgedkeaaDoorMItx0
namespace Go.Proofs.YtbhioghpgedkeaaDoor.MKb
open Go.Proofs.YtbhioghpgedkeaaDoor.MIt Go.RowKit Go.Proofs.YtbhioghpgedkeaaDoorW.PrintWords Go.Proofs.YtbhioghpgedkeaaDoorW.PrintLast Go.Proofs.YtbhioghpgedkeaaDoorW.PrintMore
attribute [local go_sem] Go.Proofs.YtbhioghpgedkeaaDoor.Aid.cell_isSome Go.Proofs.YtbhioghpgedkeaaDoor.Aid.string_gtr Go.Proofs.YtbhioghpgedkeaaDoor.Aid.string_leq Go.Proofs.YtbhioghpgedkeaaDoor.Aid.string_geq
attribute [local go_sem] max2_int min2_int max_two min_two max_three min_three max_four min_four   -- for this text's walks alone
set_option linter.unusedVariables false
set_option linter.unusedSimpArgs false

theorem eqA56 (d : Nat) (w : World) (x0 y0 : Int) (x1 y1 : Int) (x2 y2 : ByteArray) :
  (Op.equalIn (d + 2) 56 (.agg #[.int .i64 x0, .int .i64 x1, .string x2]) (.agg #[.int .i64 y0, .int .i64 y1, .string y2])).run Tryd.prog w = .ok (x0 == y0 && (x1 == y1 && (x2.toList == y2.toList))) w := by
 refine eqA_of Tryd.underlying56 (by kernel_rfl) ?_
 refine eqf_cons (by rfl) (by go_simp; rfl) (by go_simp; rfl) (by go_simp) ?_
 refine eqf_cons (by rfl) (by go_simp; rfl) (by go_simp; rfl) (by go_simp) ?_
 exact eqf_last (by rfl) (by go_simp; rfl) (by go_simp; rfl) (by go_simp)
end Go.Proofs.YtbhioghpgedkeaaDoor.MKb
