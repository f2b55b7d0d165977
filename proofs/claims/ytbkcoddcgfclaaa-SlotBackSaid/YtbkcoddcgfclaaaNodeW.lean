/- Nodes in memory: what a walk over layer 11 needs of them. -/
import Derived.Test.YtbkcoddcgfclaaaExtB
import Derived.Deep.RegionHeld3
import Derived.Deep.AppendLies
import Derived.StillTactics
set_option linter.unusedSimpArgs false
set_option linter.unusedVariables false
namespace Go.Proofs.Ytbkcoddcgfclaaa.Ext
open Go.Proofs.Ytbkcoddcgfclaaa.MSlot Go.RowKit Go.Proofs.YtbkcoddcgfclaaaW.PrintWords Go.Proofs.YtbkcoddcgfclaaaW.PrintLast Go.Proofs.YtbkcoddcgfclaaaW.PrintMore Go.Proofs.Ytbkcoddcgfclaaa.SP

theorem mild_check {leaf : Bool} {cells : List S43} {keys : List ByteArray} {kids : List Int} (h : checkB leaf cells keys kids = true) : mild cells keys kids = true := by
  obtain ⟨h1, h2, h3, h4, h5, h6⟩ := check_parts h
  have hk : kids.length ≤ 256 := by
    unfold shapeB at h3
    cases leaf
    · simp at h3; omega
    · simp at h3; rw [h3.2]; simp
  unfold mild
  simp only [Bool.and_eq_true, decide_eq_true_eq, List.all_eq_true]
  refine ⟨⟨⟨by omega, by omega⟩, by omega⟩, fun c hc => ?_⟩
  have := cellB_size (adjC_all cells none h4 c hc)
  omega
/-- What is read of a node. -/
structure Node (w : World) (A1 : Option Addr) (c1 : Nat) (cells : List S43) (A2 : Option Addr) (c2 : Nat) (keys : List ByteArray) (A3 : Option Addr) (c3 : Nat) (kids : List Int) : Prop where
  r1 : Kd.C k43 w A1 cells.length cells
  l1 : cells.length ≤ c1
  r2 : Kd.C Kd.string w A2 keys.length keys
  l2 : keys.length ≤ c2
  r3 : Kd.C (Kd.int .i64) w A3 kids.length kids
  l3 : kids.length ≤ c3
theorem Node.below {w w1 : World} {A1 : Option Addr} {c1 : Nat} {cells : List S43} {A2 : Option Addr} {c2 : Nat} {keys : List ByteArray} {A3 : Option Addr} {c3 : Nat} {kids : List Int} (h : Node w A1 c1 cells A2 c2 keys A3 c3 kids) (hb : Below w.heap.size w w1) : Node w1 A1 c1 cells A2 c2 keys A3 c3 kids :=
  ⟨Kd.C_below h.r1 hb, h.l1, Kd.C_below h.r2 hb, h.l2, Kd.C_below h.r3 hb, h.l3⟩
/-- The boxes of a walk of Join, and that nothing else was touched. -/
def Jst (w : World) (o3 o4 o6 : Obj) (W : World) : Prop := W.heap[w.heap.size]? = some o3 ∧ W.heap[w.heap.size + 1]? = some o4 ∧ W.heap[w.heap.size + 1 + 1]? = some o6 ∧ Below w.heap.size w W ∧ w.heap.size + 3 ≤ W.heap.size
theorem Jst.below {w W W' : World} {o3 o4 o6 : Obj} (h : Jst w o3 o4 o6 W) (hb : Below W.heap.size W W') : Jst w o3 o4 o6 W' := by
  obtain ⟨h1, h2, h3, h4, h5⟩ := h
  exact ⟨(hb.block _ (by omega)).trans h1, (hb.block _ (by omega)).trans h2, (hb.block _ (by omega)).trans h3, below_then h4 (by omega) hb, Nat.le_trans h5 hb.size⟩
theorem Jst.mk0 (w : World) (o3 o4 o6 : Obj) : Jst w o3 o4 o6 (((w.alloc o3).alloc o4).alloc o6) := by
  refine ⟨?_, ?_, ?_, (((Below.refl _ w).alloc (Nat.le_refl _) _).alloc (by simp) _).alloc (by simp; omega) _, by simp⟩
  · have h1 := heap_alloc_new w o3
    have b1 : Below (w.alloc o3).heap.size (w.alloc o3) (((w.alloc o3).alloc o4).alloc o6) := ((Below.refl _ _).alloc (Nat.le_refl _) _).alloc (by simp) _
    exact (b1.block _ (by simp)).trans h1
  · have h1 := heap_alloc_new (w.alloc o3) o4
    simp only [World.size_alloc] at h1
    have b1 : Below ((w.alloc o3).alloc o4).heap.size ((w.alloc o3).alloc o4) (((w.alloc o3).alloc o4).alloc o6) := (Below.refl _ _).alloc (Nat.le_refl _) _
    exact (b1.block _ (by simp)).trans h1
  · have h1 := heap_alloc_new ((w.alloc o3).alloc o4) o6
    simpa only [World.size_alloc] using h1
theorem Jst.put {w W : World} {o3 o4 o6 : Obj} (h : Jst w o3 o4 o6 W) {g j : Nat} (u : Value) (hg : w.heap.size + 3 ≤ g) : Jst w o3 o4 o6 (W.setCell ⟨g, j, none⟩ u) := by
  obtain ⟨h1, h2, h3, h4, h5⟩ := h
  refine ⟨?_, ?_, ?_, h4.setCell (by show w.heap.size ≤ g; omega) u, by simpa [World.setCell] using h5⟩
  · exact (Below.heap_setCell _ _ _ _ (by show _ ≠ g; omega)).trans h1
  · exact (Below.heap_setCell _ _ _ _ (by show _ ≠ g; omega)).trans h2
  · exact (Below.heap_setCell _ _ _ _ (by show _ ≠ g; omega)).trans h3
end Go.Proofs.Ytbkcoddcgfclaaa.Ext
