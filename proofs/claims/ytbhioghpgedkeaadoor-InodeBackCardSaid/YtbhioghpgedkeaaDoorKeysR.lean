/- The document's Names and Kind of a path, in plain words (ported from the chapter path). -/
import Derived.Test.YtbhioghpgedkeaaDoorPPa
import Derived.Test.YtbhioghpgedkeaaDoorMKbx3
import Derived.Test.YtbhioghpgedkeaaDoorMKbx4
set_option linter.unusedSimpArgs false
set_option linter.unusedVariables false
namespace Go.Proofs.YtbhioghpgedkeaaDoor.PP
open Go.RowKit Go.Proofs.YtbhioghpgedkeaaDoor.MKb Go.Proofs.YtbhioghpgedkeaaDoorW.PrintWords Go.Proofs.YtbhioghpgedkeaaDoorW.PrintLast Go.Proofs.YtbhioghpgedkeaaDoorW.PrintMore


theorem Join_eq (L : List (List UInt8)) (s : ByteArray) (h : (jn s.data.toList L).length ≤ 140737488355328) (h2 : L.length ≤ 140737488355328) : strings_Join.f (L.map bs) s = some (bs (jn s.data.toList L)) := by
  unfold strings_Join.f Ext.strings_Join.f Ext.joinB
  rw [back_map, jn_eq, if_pos h, if_pos (by rw [List.length_map]; exact h2)]
  rfl

end Go.Proofs.YtbhioghpgedkeaaDoor.PP
