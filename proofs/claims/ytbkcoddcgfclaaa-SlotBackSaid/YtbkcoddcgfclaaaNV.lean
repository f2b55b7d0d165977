/- Nodes in variables: contracts of layer 11's functions over them. -/
import Derived.Test.YtbkcoddcgfclaaaNodeW
import Derived.Deep.RegionHeld3
import Derived.StillTactics
import Derived.Deep.DeepCutAuto
import Derived.Deep.CutBlock
set_option linter.unusedSimpArgs false
set_option linter.unusedVariables false
namespace Go.Proofs.Ytbkcoddcgfclaaa.SP
open Go.RowKit Go.Proofs.Ytbkcoddcgfclaaa.MSlot Go.Proofs.Ytbkcoddcgfclaaa.Ext Go.Proofs.YtbkcoddcgfclaaaW.PrintWords Go.Proofs.YtbkcoddcgfclaaaW.PrintLast Go.Proofs.YtbkcoddcgfclaaaW.PrintMore

attribute [local go_sem] Go.Proofs.Ytbkcoddcgfclaaa.Aid.string_gtr Go.Proofs.Ytbkcoddcgfclaaa.Aid.string_leq Go.Proofs.Ytbkcoddcgfclaaa.Aid.string_geq
/-- A node as it lies in a variable. -/
structure NV where
  leaf : Bool
  A1 : Option Addr
  c1 : Nat
  xs : List MSlot.S43
  A2 : Option Addr
  c2 : Nat
  ks : List ByteArray
  A3 : Option Addr
  c3 : Nat
  ds : List Int
def NV.ok (v : NV) (W : World) : Prop := Ext.Node W v.A1 v.c1 v.xs v.A2 v.c2 v.ks v.A3 v.c3 v.ds
def NV.at (v : NV) (W : World) (g : Nat) : Prop := W.heap[g]? = some (.cells #[.bool v.leaf, .slice v.A1 v.xs.length v.c1, .slice v.A2 v.ks.length v.c2, .slice v.A3 v.ds.length v.c3] 26 (0, 0)) ∧ v.ok W
theorem NV.ok_below {v : NV} {W W' : World} (h : v.ok W) (hb : Below W.heap.size W W') : v.ok W' := Ext.Node.below h hb
theorem NV.at_below {v : NV} {W W' : World} {g : Nat} (h : v.at W g) (hb : Below W.heap.size W W') : v.at W' g := ⟨blk_below h.1 hb, v.ok_below h.2 hb⟩
/-- Any three results of a call make a node. -/
theorem NV.of_R {W : World} {b1 b2 b3 : Nat} {o1 o2 o3 : Nat → Prop} {leaf : Bool} {v1 v2 v3 : Value} {xs : List MSlot.S43} {ks : List ByteArray} {ds : List Int} (h1 : Kd.R MSlot.k43 43 W b1 o1 v1 xs) (h2 : Kd.R Kd.string 9 W b2 o2 v2 ks) (h3 : Kd.R (Kd.int .i64) 3 W b3 o3 v3 ds) :
    ∃ v : NV, v.leaf = leaf ∧ v.xs = xs ∧ v.ks = ks ∧ v.ds = ds ∧ v1 = .slice v.A1 v.xs.length v.c1 ∧ v2 = .slice v.A2 v.ks.length v.c2 ∧ v3 = .slice v.A3 v.ds.length v.c3 ∧ v.ok W := by
  obtain ⟨A1, c1, rfl, l1, q1⟩ := Kd.R_reads h1
  obtain ⟨A2, c2, rfl, l2, q2⟩ := Kd.R_reads h2
  obtain ⟨A3, c3, rfl, l3, q3⟩ := Kd.R_reads h3
  exact ⟨⟨leaf, A1, c1, xs, A2, c2, ks, A3, c3, ds⟩, rfl, rfl, rfl, rfl, rfl, rfl, rfl, ⟨q1, l1, q2, l2, q3, l3⟩⟩
theorem nv_size {v : NV} {W : World} (h : v.ok W) (hc : checkB v.leaf v.xs v.ks v.ds = true) : Calls Try.prog 16 #[.agg #[.bool v.leaf, .slice v.A1 v.xs.length v.c1, .slice v.A2 v.ks.length v.c2, .slice v.A3 v.ds.length v.c3]] W fun e w' => e = .returned (.int .i64 (sizeN v.leaf v.xs v.ks : Nat)) ∧ Below W.heap.size W w' := by
  refine Ext.slot_Size.calls v.leaf v.A1 v.c1 v.xs v.A2 v.c2 v.ks v.A3 v.c3 v.ds _ W h.r1 h.l1 h.r2 h.l2 h.r3 h.l3 ?_
  unfold Ext.slot_Size.f
  rw [if_pos (Ext.mild_check hc), if_pos hc]
theorem nv_same {u v : NV} {w : World} (hu : u.ok w) (hv : v.ok w) (h0 : u.leaf = v.leaf) (h1 : u.xs = v.xs) (h2 : u.ks = v.ks) (h3 : u.ds = v.ds) (hc : checkB v.leaf v.xs v.ks v.ds = true) :
    Calls Try.prog 13 #[.agg #[.bool u.leaf, .slice u.A1 u.xs.length u.c1, .slice u.A2 u.ks.length u.c2, .slice u.A3 u.ds.length u.c3], .agg #[.bool v.leaf, .slice v.A1 v.xs.length v.c1, .slice v.A2 v.ks.length v.c2, .slice v.A3 v.ds.length v.c3]] w fun e w' => e = .returned (.bool true) ∧ Below w.heap.size w w' := by
  refine Ext.aquiferref11_Same.calls u.leaf u.A1 u.c1 u.xs u.A2 u.c2 u.ks u.A3 u.c3 u.ds v.leaf v.A1 v.c1 v.xs v.A2 v.c2 v.ks v.A3 v.c3 v.ds true w hu.r1 hu.l1 hu.r2 hu.l2 hu.r3 hu.l3 hv.r1 hv.l1 hv.r2 hv.l2 hv.r3 hv.l3 ?_
  unfold Ext.aquiferref11_Same.f
  rw [if_pos]
  unfold Ext.alike
  rw [h0, h1, h2, h3]
  have := Ext.mild_check hc
  simp [this]
theorem nv_few {v : NV} {w : World} (hv : v.ok w) :
    Calls Try.prog 8 #[.agg #[.bool v.leaf, .slice v.A1 v.xs.length v.c1, .slice v.A2 v.ks.length v.c2, .slice v.A3 v.ds.length v.c3]] w fun e w' =>
      ∃ m : NV, e = .returned (.agg #[.bool m.leaf, .slice m.A1 m.xs.length m.c1, .slice m.A2 m.ks.length m.c2, .slice m.A3 m.ds.length m.c3]) ∧ Hid (m.leaf = v.leaf ∧ m.xs = fewC v.xs ∧ m.ks = fewK v.ks ∧ m.ds = v.ds.take 21) ∧ (∀ W', (∀ k, w.heap.size ≤ k → W'.heap[k]? = w'.heap[k]?) → m.ok W') ∧ Below w.heap.size w w' := by
  refine (Ext.aquiferlaw11_Few.calls v.leaf v.A1 v.c1 v.xs v.A2 v.c2 v.ks v.A3 v.c3 v.ds _ _ _ _ w hv.r1 hv.l1 hv.r2 hv.l2 hv.r3 hv.l3 rfl).mono ?_
  rintro e w' ⟨v1, v2, v3, rfl, r1, r2, r3, hb⟩
  obtain ⟨m, m1, m2, m3, m4, rfl, rfl, rfl, hm⟩ := NV.of_R (leaf := v.leaf) r1 r2 r3
  refine ⟨m, by rw [m1], Lib.hid ⟨m1, m2, m3, m4⟩, fun W' hk => ?_, hb⟩
  rw [← m2] at r1
  rw [← m3] at r2
  rw [← m4] at r3
  obtain ⟨_, l1, q1⟩ := Kd.R_reads' (Kd.R_step (Kd.R_bound r1) (fun k h1 _ => hk k h1.2.1))
  obtain ⟨_, l2, q2⟩ := Kd.R_reads' (Kd.R_step (Kd.R_bound r2) (fun k h1 _ => hk k h1.2.1))
  obtain ⟨_, l3, q3⟩ := Kd.R_reads' (Kd.R_step (Kd.R_bound r3) (fun k h1 _ => hk k h1.2.1))
  exact ⟨q1, l1, q2, l2, q3, l3⟩
theorem few_small (xs : List MSlot.S43) (ks : List ByteArray) : small (fewC xs) (fewK ks) = true := by
  unfold small fewC fewK
  simp only [Bool.and_eq_true, decide_eq_true_eq, List.all_eq_true]
  have hc : ∀ s : ByteArray, (cut1 s).size ≤ 1000 := by
    intro s
    have := cut1_size s
    omega
  refine ⟨⟨⟨by simp; omega, by simp; omega⟩, fun c h => ?_⟩, fun k h => ?_⟩
  · obtain ⟨c', _, rfl⟩ := List.mem_map.1 h
    exact ⟨hc _, hc _⟩
  · obtain ⟨k', _, rfl⟩ := List.mem_map.1 h
    exact hc _
/-- A node is stored into a box. -/
def put4 (W : World) (g : Nat) (v : NV) : World := (((W.setCell ⟨g, 0, none⟩ (.bool v.leaf)).setCell ⟨g, 1, none⟩ (.slice v.A1 v.xs.length v.c1)).setCell ⟨g, 2, none⟩ (.slice v.A2 v.ks.length v.c2)).setCell ⟨g, 3, none⟩ (.slice v.A3 v.ds.length v.c3)
theorem put4_at {W : World} {g : Nat} {v : NV} {u0 u1 u2 u3 : Value} (hx : W.heap[g]? = some (.cells #[u0, u1, u2, u3] 26 (0, 0))) : (put4 W g v).heap[g]? = some (.cells #[.bool v.leaf, .slice v.A1 v.xs.length v.c1, .slice v.A2 v.ks.length v.c2, .slice v.A3 v.ds.length v.c3] 26 (0, 0)) := by
  have y0 := blk_set hx 0 (.bool v.leaf)
  have y1 := blk_set y0 1 (.slice v.A1 v.xs.length v.c1)
  have y2 := blk_set y1 2 (.slice v.A2 v.ks.length v.c2)
  have y3 := blk_set y2 3 (.slice v.A3 v.ds.length v.c3)
  unfold put4
  simpa using y3
theorem put4_ne {W : World} {g : Nat} {v : NV} {k : Nat} (hk : k ≠ g) : (put4 W g v).heap[k]? = W.heap[k]? := by
  unfold put4
  rw [Below.heap_setCell _ _ _ _ hk, Below.heap_setCell _ _ _ _ hk, Below.heap_setCell _ _ _ _ hk, Below.heap_setCell _ _ _ _ hk]
theorem put4_below {W w0 : World} {B g : Nat} {v : NV} (hB : B ≤ g) (h : Below B w0 W) : Below B w0 (put4 W g v) := (((h.setCell hB _).setCell hB _).setCell hB _).setCell hB _
end Go.Proofs.Ytbkcoddcgfclaaa.SP
