/- slot.Put and slot.Cut over a leaf. -/
import Derived.Test.YtbkcoddcgfclaaaNV
set_option linter.unusedSimpArgs false
set_option linter.unusedVariables false
namespace Go.Proofs.Ytbkcoddcgfclaaa.SP
open Go.RowKit Go.Proofs.Ytbkcoddcgfclaaa.MSlot Go.Proofs.Ytbkcoddcgfclaaa.Ext Go.Proofs.YtbkcoddcgfclaaaW.PrintWords Go.Proofs.YtbkcoddcgfclaaaW.PrintLast Go.Proofs.YtbkcoddcgfclaaaW.PrintMore

/-- Two boxes of a walk, and that nothing else was touched. -/
def J2 (w : World) (o3 o6 : Obj) (W : World) : Prop := W.heap[w.heap.size]? = some o3 ∧ W.heap[w.heap.size + 1]? = some o6 ∧ Below w.heap.size w W ∧ w.heap.size + 2 ≤ W.heap.size
theorem J2.below {w W W' : World} {o3 o6 : Obj} (h : J2 w o3 o6 W) (hb : Below W.heap.size W W') : J2 w o3 o6 W' := by
  obtain ⟨h1, h3, h4, h5⟩ := h
  exact ⟨(hb.block _ (by omega)).trans h1, (hb.block _ (by omega)).trans h3, below_then h4 (by omega) hb, Nat.le_trans h5 hb.size⟩
theorem J2.mk0 (w : World) (o3 o6 : Obj) : J2 w o3 o6 ((w.alloc o3).alloc o6) := by
  refine ⟨?_, ?_, ((Below.refl _ w).alloc (Nat.le_refl _) _).alloc (by simp) _, by simp⟩
  · have h1 := heap_alloc_new w o3
    have b1 : Below (w.alloc o3).heap.size (w.alloc o3) ((w.alloc o3).alloc o6) := (Below.refl _ _).alloc (Nat.le_refl _) _
    exact (b1.block _ (by simp)).trans h1
  · have h1 := heap_alloc_new (w.alloc o3) o6
    simpa only [World.size_alloc] using h1
end Go.Proofs.Ytbkcoddcgfclaaa.SP
