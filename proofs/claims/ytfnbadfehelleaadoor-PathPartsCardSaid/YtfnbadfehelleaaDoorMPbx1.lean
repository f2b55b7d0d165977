-- PRINTED for YtfnbadfehelleaaDoor by this session's own driver; checked by Lean alone
import Derived.Test.YtfnbadfehelleaaDoorMPbx0
namespace Go.Proofs.YtfnbadfehelleaaDoor.MPb
open Go.RowKit Go.Proofs.YtfnbadfehelleaaDoorW.PrintWords Go.Proofs.YtfnbadfehelleaaDoorW.PrintLast Go.Proofs.YtfnbadfehelleaaDoorW.PrintMore
attribute [local go_sem] Go.Proofs.YtfnbadfehelleaaDoor.Aid.cell_isSome Go.Proofs.YtfnbadfehelleaaDoor.Aid.string_gtr Go.Proofs.YtfnbadfehelleaaDoor.Aid.string_leq Go.Proofs.YtfnbadfehelleaaDoor.Aid.string_geq
attribute [local go_sem] max2_int min2_int max_two min_two max_three min_three max_four min_four   -- for this text's walks alone
set_option linter.unusedVariables false
set_option linter.unusedSimpArgs false

/-! ### aquiferlaw05_few: function 10 -/
def aquiferlaw05_few.f (a0 : ByteArray) : Option (ByteArray) := Go.Proofs.YtfnbadfehelleaaDoor.Ext.aquiferlaw05_few.f a0
theorem aquiferlaw05_few.calls (a0 : ByteArray) (r : ByteArray) (w : World) (h : aquiferlaw05_few.f a0 = some r) :
  Calls Tryd.prog 10 #[.string a0] w fun e w' => e = .returned (.string r) ∧ Below w.heap.size w w' := Go.Proofs.YtfnbadfehelleaaDoor.Ext.aquiferlaw05_few.calls a0 r w h

/-! ### aquiferlaw05_works: function 12 -/
def aquiferlaw05_works.f  : Option (Bool) := Go.Proofs.YtfnbadfehelleaaDoor.Ext.aquiferlaw05_works.f 
theorem aquiferlaw05_works.calls (r : Bool) (w : World) (h : aquiferlaw05_works.f = some r) :
  Calls Tryd.prog 12 #[] w fun e w' => e = .returned (.bool r) ∧ Below w.heap.size w w' := Go.Proofs.YtfnbadfehelleaaDoor.Ext.aquiferlaw05_works.calls r w h

/-! ### path_Kind: function 13 -/
def path_Kind.f (a0 : ByteArray) : Option (Int × Int) := Go.Proofs.YtfnbadfehelleaaDoor.Ext.path_Kind.f a0
theorem path_Kind.calls (a0 : ByteArray) (r1 : Int) (r2 : Int) (w : World) (h : path_Kind.f a0 = some (r1, r2)) :
  Calls Tryd.prog 13 #[.string a0] w fun e w' => e = .returned (.tuple #[.int .i64 r1, .int .i64 r2]) ∧ Below w.heap.size w w' := Go.Proofs.YtfnbadfehelleaaDoor.Ext.path_Kind.calls a0 r1 r2 w h

/-! ### path_Compare: function 18 -/
def path_Compare.f (a0 : ByteArray) (a1 : ByteArray) : Option (Int) := Go.Proofs.YtfnbadfehelleaaDoor.Ext.path_Compare.f a0 a1
theorem path_Compare.calls (a0 : ByteArray) (a1 : ByteArray) (r : Int) (w : World) (h : path_Compare.f a0 a1 = some r) :
  Calls Tryd.prog 18 #[.string a0, .string a1] w fun e w' => e = .returned (.int .i64 r) ∧ Below w.heap.size w w' := Go.Proofs.YtfnbadfehelleaaDoor.Ext.path_Compare.calls a0 a1 r w h

/-! ### path_Below: function 19 -/
def path_Below.f (a0 : ByteArray) (a1 : ByteArray) : Option (Bool) := Go.Proofs.YtfnbadfehelleaaDoor.Ext.path_Below.f a0 a1
theorem path_Below.calls (a0 : ByteArray) (a1 : ByteArray) (r : Bool) (w : World) (h : path_Below.f a0 a1 = some r) :
  Calls Tryd.prog 19 #[.string a0, .string a1] w fun e w' => e = .returned (.bool r) ∧ Below w.heap.size w w' := Go.Proofs.YtfnbadfehelleaaDoor.Ext.path_Below.calls a0 a1 r w h

end Go.Proofs.YtfnbadfehelleaaDoor.MPb
