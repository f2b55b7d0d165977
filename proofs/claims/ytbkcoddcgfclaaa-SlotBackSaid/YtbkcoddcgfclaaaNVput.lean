/- Find, Put, Cut, Encode over a leaf in a variable. -/
import Derived.Test.YtbkcoddcgfclaaaPutW
import Derived.Test.YtbkcoddcgfclaaaExtB
set_option linter.unusedSimpArgs false
set_option linter.unusedVariables false
namespace Go.Proofs.Ytbkcoddcgfclaaa.SP
open Go.RowKit Go.Proofs.Ytbkcoddcgfclaaa.MSlot Go.Proofs.Ytbkcoddcgfclaaa.Ext Go.Proofs.YtbkcoddcgfclaaaW.PrintWords Go.Proofs.YtbkcoddcgfclaaaW.PrintLast Go.Proofs.YtbkcoddcgfclaaaW.PrintMore

/-- The value of a node. -/
abbrev NV.val (v : NV) : Value := .agg #[.bool v.leaf, .slice v.A1 v.xs.length v.c1, .slice v.A2 v.ks.length v.c2, .slice v.A3 v.ds.length v.c3]
/-- Check, whatever it says. -/
theorem nv_checks {v : NV} {w : World} (h : v.ok w) (hm : mild v.xs v.ks v.ds = true) (r : Int) (hr : (if checkB v.leaf v.xs v.ks v.ds = true then 0 else 2 : Int) = r) :
    Calls Try.prog 15 #[v.val] w fun e w' => e = .returned (.int .i64 r) ∧ Below w.heap.size w w' := by
  refine slot_Check.calls v.leaf v.A1 v.c1 v.xs v.A2 v.c2 v.ks v.A3 v.c3 v.ds r w h.r1 h.l1 h.r2 h.l2 h.r3 h.l3 ?_
  unfold Ext.slot_Check.f
  rw [if_pos hm, hr]
theorem nv_encode {v : NV} {w : World} (h : v.ok w) (hm : mild v.xs v.ks v.ds = true) :
    Calls Try.prog 17 #[v.val] w fun e w' => e = .returned (.tuple #[.string (encodeN v.leaf v.xs v.ks v.ds).1, .int .i64 (encodeN v.leaf v.xs v.ks v.ds).2]) ∧ Below w.heap.size w w' := by
  refine slot_Encode.calls v.leaf v.A1 v.c1 v.xs v.A2 v.c2 v.ks v.A3 v.c3 v.ds _ _ w h.r1 h.l1 h.r2 h.l2 h.r3 h.l3 ?_
  unfold Ext.slot_Encode.f
  rw [if_pos hm]
theorem mild_small {xs : List S43} {ks : List ByteArray} {ds : List Int} (h : small xs ks = true) (hd : ds.length ≤ 1000000000) : mild xs ks ds = true := by
  obtain ⟨h1, h2, h3, h4⟩ := small_of h
  unfold mild
  simp only [Bool.and_eq_true, decide_eq_true_eq, List.all_eq_true]
  refine ⟨⟨⟨by omega, by omega⟩, by omega⟩, fun c hc => ?_⟩
  have := h3 c hc
  omega
abbrev NV.valT (v : NV) : Value := .agg #[.bool true, .slice v.A1 v.xs.length v.c1, .slice v.A2 v.ks.length v.c2, .slice v.A3 v.ds.length v.c3]
theorem NV.val_T {v : NV} (h : v.leaf = true) : v.val = v.valT := by unfold NV.val NV.valT; rw [h]
theorem nv_checksT {v : NV} {w : World} (h : v.ok w) (hl : v.leaf = true) (hm : mild v.xs v.ks v.ds = true) (r : Int) (hr : (if checkB true v.xs v.ks v.ds = true then 0 else 2 : Int) = r) :
    Calls Try.prog 15 #[v.valT] w fun e w' => e = .returned (.int .i64 r) ∧ Below w.heap.size w w' := by
  rw [← NV.val_T hl]
  exact nv_checks h hm r (by rw [hl]; exact hr)
end Go.Proofs.Ytbkcoddcgfclaaa.SP
