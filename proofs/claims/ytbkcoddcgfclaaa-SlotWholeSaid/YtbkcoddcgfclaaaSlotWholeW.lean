/- The law SlotWhole's walk. -/
import Derived.Test.YtbkcoddcgfclaaaSlotWholeP
import Derived.Deep.RegionHeld3
import Derived.StillTactics
import Derived.Deep.DeepCutAuto
import Derived.Deep.CutBlock
set_option linter.unusedSimpArgs false
set_option linter.unusedVariables false
namespace Go.Proofs.Ytbkcoddcgfclaaa.SP
open Go.RowKit Go.Proofs.Ytbkcoddcgfclaaa.MSb Go.Proofs.Ytbkcoddcgfclaaa.Ext Go.Proofs.YtbkcoddcgfclaaaW.PrintWords Go.Proofs.YtbkcoddcgfclaaaW.PrintLast Go.Proofs.YtbkcoddcgfclaaaW.PrintMore

attribute [local go_sem] Go.Proofs.Ytbkcoddcgfclaaa.Aid.string_gtr Go.Proofs.Ytbkcoddcgfclaaa.Aid.string_leq Go.Proofs.Ytbkcoddcgfclaaa.Aid.string_geq
/-- A node as it lies in a variable. -/
structure NV where
  leaf : Bool
  A1 : Option Addr
  c1 : Nat
  xs : List MSlot.S43
  A2 : Option Addr
  c2 : Nat
  ks : List ByteArray
  A3 : Option Addr
  c3 : Nat
  ds : List Int
def NV.ok (v : NV) (W : World) : Prop := Ext.Node W v.A1 v.c1 v.xs v.A2 v.c2 v.ks v.A3 v.c3 v.ds
def NV.at (v : NV) (W : World) (g : Nat) : Prop := W.heap[g]? = some (.cells #[.bool v.leaf, .slice v.A1 v.xs.length v.c1, .slice v.A2 v.ks.length v.c2, .slice v.A3 v.ds.length v.c3] 26 (0, 0)) ∧ v.ok W
theorem NV.ok_below {v : NV} {W W' : World} (h : v.ok W) (hb : Below W.heap.size W W') : v.ok W' := Ext.Node.below h hb
theorem NV.at_below {v : NV} {W W' : World} {g : Nat} (h : v.at W g) (hb : Below W.heap.size W W') : v.at W' g := ⟨blk_below h.1 hb, v.ok_below h.2 hb⟩
/-- Any three results of a call make a node. -/
theorem NV.of_R {W : World} {b1 b2 b3 : Nat} {o1 o2 o3 : Nat → Prop} {leaf : Bool} {v1 v2 v3 : Value} {xs : List MSlot.S43} {ks : List ByteArray} {ds : List Int} (h1 : Kd.R MSlot.k43 43 W b1 o1 v1 xs) (h2 : Kd.R Kd.string 9 W b2 o2 v2 ks) (h3 : Kd.R (Kd.int .i64) 3 W b3 o3 v3 ds) :
    ∃ v : NV, v.leaf = leaf ∧ v.xs = xs ∧ v.ks = ks ∧ v.ds = ds ∧ v1 = .slice v.A1 v.xs.length v.c1 ∧ v2 = .slice v.A2 v.ks.length v.c2 ∧ v3 = .slice v.A3 v.ds.length v.c3 ∧ v.ok W := by
  obtain ⟨A1, c1, rfl, l1, q1⟩ := Kd.R_reads h1
  obtain ⟨A2, c2, rfl, l2, q2⟩ := Kd.R_reads h2
  obtain ⟨A3, c3, rfl, l3, q3⟩ := Kd.R_reads h3
  exact ⟨⟨leaf, A1, c1, xs, A2, c2, ks, A3, c3, ds⟩, rfl, rfl, rfl, rfl, rfl, rfl, rfl, ⟨q1, l1, q2, l2, q3, l3⟩⟩
theorem nv_check {v : NV} {W : World} (h : v.ok W) (hc : checkB v.leaf v.xs v.ks v.ds = true) : Calls Try.prog 15 #[.agg #[.bool v.leaf, .slice v.A1 v.xs.length v.c1, .slice v.A2 v.ks.length v.c2, .slice v.A3 v.ds.length v.c3]] W fun e w' => e = .returned (.int .i64 0) ∧ Below W.heap.size W w' := Ext.check_call h hc
theorem nv_size {v : NV} {W : World} (h : v.ok W) (hc : checkB v.leaf v.xs v.ks v.ds = true) : Calls Try.prog 16 #[.agg #[.bool v.leaf, .slice v.A1 v.xs.length v.c1, .slice v.A2 v.ks.length v.c2, .slice v.A3 v.ds.length v.c3]] W fun e w' => e = .returned (.int .i64 (sizeN v.leaf v.xs v.ks : Nat)) ∧ Below W.heap.size W w' := by
  refine Ext.slot_Size.calls v.leaf v.A1 v.c1 v.xs v.A2 v.c2 v.ks v.A3 v.c3 v.ds _ W h.r1 h.l1 h.r2 h.l2 h.r3 h.l3 ?_
  unfold Ext.slot_Size.f
  rw [if_pos (Ext.mild_check hc), if_pos hc]
theorem nv_join {u v : NV} {key : ByteArray} {w : World} (hu : u.ok w) (hv : v.ok w) (hl : v.leaf = u.leaf) (h1 : checkB u.leaf u.xs u.ks u.ds = true) (h2 : checkB u.leaf v.xs v.ks v.ds = true) (h3 : checkB u.leaf (u.xs ++ v.xs) (if u.leaf then [] else u.ks ++ key :: v.ks) (if u.leaf then [] else u.ds ++ v.ds) = true) :
    Calls Try.prog 11 #[.agg #[.bool u.leaf, .slice u.A1 u.xs.length u.c1, .slice u.A2 u.ks.length u.c2, .slice u.A3 u.ds.length u.c3], .agg #[.bool v.leaf, .slice v.A1 v.xs.length v.c1, .slice v.A2 v.ks.length v.c2, .slice v.A3 v.ds.length v.c3], .string key] w fun e w' =>
      ∃ m : NV, e = .returned (.tuple #[.agg #[.bool m.leaf, .slice m.A1 m.xs.length m.c1, .slice m.A2 m.ks.length m.c2, .slice m.A3 m.ds.length m.c3], .int .i64 0]) ∧ m.leaf = u.leaf ∧ m.xs = u.xs ++ v.xs ∧ m.ks = (if u.leaf then [] else u.ks ++ key :: v.ks) ∧ m.ds = (if u.leaf then [] else u.ds ++ v.ds) ∧ m.ok w' ∧ Below w.heap.size w w' := by
  rw [hl]
  refine (Ext.join_ok u.leaf u.A1 u.c1 u.xs u.A2 u.c2 u.ks u.A3 u.c3 u.ds v.A1 v.c1 v.xs v.A2 v.c2 v.ks v.A3 v.c3 v.ds key w hu hv h1 h2 h3).mono ?_
  rintro e w' ⟨v1, v2, v3, rfl, r1, r2, r3, hb⟩
  obtain ⟨m, m1, m2, m3, m4, rfl, rfl, rfl, hm⟩ := NV.of_R (leaf := u.leaf) r1 r2 r3
  exact ⟨m, by rw [m1], m1, m2, m3, m4, hm, hb⟩
theorem nv_same {u v : NV} {w : World} (hu : u.ok w) (hv : v.ok w) (h0 : u.leaf = v.leaf) (h1 : u.xs = v.xs) (h2 : u.ks = v.ks) (h3 : u.ds = v.ds) (hc : checkB v.leaf v.xs v.ks v.ds = true) :
    Calls Try.prog 13 #[.agg #[.bool u.leaf, .slice u.A1 u.xs.length u.c1, .slice u.A2 u.ks.length u.c2, .slice u.A3 u.ds.length u.c3], .agg #[.bool v.leaf, .slice v.A1 v.xs.length v.c1, .slice v.A2 v.ks.length v.c2, .slice v.A3 v.ds.length v.c3]] w fun e w' => e = .returned (.bool true) ∧ Below w.heap.size w w' := by
  refine Ext.aquiferref11_Same.calls u.leaf u.A1 u.c1 u.xs u.A2 u.c2 u.ks u.A3 u.c3 u.ds v.leaf v.A1 v.c1 v.xs v.A2 v.c2 v.ks v.A3 v.c3 v.ds true w hu.r1 hu.l1 hu.r2 hu.l2 hu.r3 hu.l3 hv.r1 hv.l1 hv.r2 hv.l2 hv.r3 hv.l3 ?_
  unfold Ext.aquiferref11_Same.f
  rw [if_pos]
  unfold Ext.alike
  rw [h0, h1, h2, h3]
  have := Ext.mild_check hc
  simp [this]
theorem nv_few {v : NV} {w : World} (hv : v.ok w) :
    Calls Try.prog 8 #[.agg #[.bool v.leaf, .slice v.A1 v.xs.length v.c1, .slice v.A2 v.ks.length v.c2, .slice v.A3 v.ds.length v.c3]] w fun e w' =>
      ∃ m : NV, e = .returned (.agg #[.bool m.leaf, .slice m.A1 m.xs.length m.c1, .slice m.A2 m.ks.length m.c2, .slice m.A3 m.ds.length m.c3]) ∧ Hid (m.leaf = v.leaf ∧ m.xs = fewC v.xs ∧ m.ks = fewK v.ks ∧ m.ds = v.ds.take 21) ∧ (∀ W', (∀ k, w.heap.size ≤ k → W'.heap[k]? = w'.heap[k]?) → m.ok W') ∧ Below w.heap.size w w' := by
  refine (Ext.aquiferlaw11_Few.calls v.leaf v.A1 v.c1 v.xs v.A2 v.c2 v.ks v.A3 v.c3 v.ds _ _ _ _ w hv.r1 hv.l1 hv.r2 hv.l2 hv.r3 hv.l3 rfl).mono ?_
  rintro e w' ⟨v1, v2, v3, rfl, r1, r2, r3, hb⟩
  obtain ⟨m, m1, m2, m3, m4, rfl, rfl, rfl, hm⟩ := NV.of_R (leaf := v.leaf) r1 r2 r3
  refine ⟨m, by rw [m1], Lib.hid ⟨m1, m2, m3, m4⟩, fun W' hk => ?_, hb⟩
  rw [← m2] at r1
  rw [← m3] at r2
  rw [← m4] at r3
  obtain ⟨_, l1, q1⟩ := Kd.R_reads' (Kd.R_step (Kd.R_bound r1) (fun k h1 _ => hk k h1.2.1))
  obtain ⟨_, l2, q2⟩ := Kd.R_reads' (Kd.R_step (Kd.R_bound r2) (fun k h1 _ => hk k h1.2.1))
  obtain ⟨_, l3, q3⟩ := Kd.R_reads' (Kd.R_step (Kd.R_bound r3) (fun k h1 _ => hk k h1.2.1))
  exact ⟨q1, l1, q2, l2, q3, l3⟩
theorem nv_split {v : NV} {w : World} (hv : v.ok w) (hs : small v.xs v.ks = true) (hd : v.ds.length ≤ 1000) :
    Calls Try.prog 9 #[.agg #[.bool v.leaf, .slice v.A1 v.xs.length v.c1, .slice v.A2 v.ks.length v.c2, .slice v.A3 v.ds.length v.c3]] w fun e w' =>
      ∃ (l r : NV) (key : ByteArray) (er : Int), e = .returned (.tuple #[.agg #[.bool l.leaf, .slice l.A1 l.xs.length l.c1, .slice l.A2 l.ks.length l.c2, .slice l.A3 l.ds.length l.c3], .agg #[.bool r.leaf, .slice r.A1 r.xs.length r.c1, .slice r.A2 r.ks.length r.c2, .slice r.A3 r.ds.length r.c3], .string key, .int .i64 er]) ∧ l.ok w' ∧ r.ok w' ∧
        (er = 2 ∨ (er = 0 ∧ l.leaf = v.leaf ∧ r.leaf = v.leaf ∧ Whole v.leaf v.xs v.ks v.ds l.xs l.ks l.ds r.xs r.ks r.ds key)) ∧ Below w.heap.size w w' := by
  have key : ∀ (r1 : Bool) (r2 : List MSlot.S43) (r3 : List ByteArray) (r4 : List Int) (r5 : Bool) (r6 : List MSlot.S43) (r7 : List ByteArray) (r8 : List Int) (r9 : ByteArray) (r10 : Int), slot_Split.f (allP v.leaf v.xs v.ks + 3) v.leaf v.xs v.ks v.ds = some (r1, r2, r3, r4, r5, r6, r7, r8, r9, r10) →
      (r10 = 2 ∨ (r10 = 0 ∧ r1 = v.leaf ∧ r5 = v.leaf ∧ Whole v.leaf v.xs v.ks v.ds r2 r3 r4 r6 r7 r8 r9)) →
      Calls Try.prog 9 #[.agg #[.bool v.leaf, .slice v.A1 v.xs.length v.c1, .slice v.A2 v.ks.length v.c2, .slice v.A3 v.ds.length v.c3]] w fun e w' =>
      ∃ (l r : NV) (key : ByteArray) (er : Int), e = .returned (.tuple #[.agg #[.bool l.leaf, .slice l.A1 l.xs.length l.c1, .slice l.A2 l.ks.length l.c2, .slice l.A3 l.ds.length l.c3], .agg #[.bool r.leaf, .slice r.A1 r.xs.length r.c1, .slice r.A2 r.ks.length r.c2, .slice r.A3 r.ds.length r.c3], .string key, .int .i64 er]) ∧ l.ok w' ∧ r.ok w' ∧
        (er = 2 ∨ (er = 0 ∧ l.leaf = v.leaf ∧ r.leaf = v.leaf ∧ Whole v.leaf v.xs v.ks v.ds l.xs l.ks l.ds r.xs r.ks r.ds key)) ∧ Below w.heap.size w w' := by
    intro r1 r2 r3 r4 r5 r6 r7 r8 r9 r10 hf hw
    refine (slot_Split.calls _ v.leaf v.A1 v.c1 v.xs v.A2 v.c2 v.ks v.A3 v.c3 v.ds r1 r2 r3 r4 r5 r6 r7 r8 r9 r10 w hv.r1 hv.l1 hv.r2 hv.l2 hv.r3 hv.l3 hf).mono ?_
    rintro e w' ⟨v1, v2, v3, v5, v6, v7, rfl, q1, q2, q3, q5, q6, q7, hb⟩
    obtain ⟨l, m1, m2, m3, m4, rfl, rfl, rfl, hm⟩ := NV.of_R (leaf := r1) q1 q2 q3
    obtain ⟨r, n1, n2, n3, n4, rfl, rfl, rfl, hn⟩ := NV.of_R (leaf := r5) q5 q6 q7
    subst m1 m2 m3 m4 n1 n2 n3 n4
    exact ⟨l, r, r9, r10, rfl, hm, hn, hw, hb⟩
  rcases split_whole v.leaf v.xs v.ks v.ds hs hd (allP v.leaf v.xs v.ks + 3) (Nat.le_refl _) with h | ⟨lc, lk, ld, rc, rk, rd, ky, hW, h⟩
  · exact key _ _ _ _ _ _ _ _ _ _ h (.inl rfl)
  · exact key _ _ _ _ _ _ _ _ _ _ h (.inr ⟨rfl, rfl, rfl, hW⟩)
theorem few_small (xs : List MSlot.S43) (ks : List ByteArray) : small (fewC xs) (fewK ks) = true := by
  unfold small fewC fewK
  simp only [Bool.and_eq_true, decide_eq_true_eq, List.all_eq_true]
  have hc : ∀ s : ByteArray, (cut1 s).size ≤ 1000 := by
    intro s
    have := cut1_size s
    omega
  refine ⟨⟨⟨by simp; omega, by simp; omega⟩, fun c h => ?_⟩, fun k h => ?_⟩
  · obtain ⟨c', _, rfl⟩ := List.mem_map.1 h
    exact ⟨hc _, hc _⟩
  · obtain ⟨k', _, rfl⟩ := List.mem_map.1 h
    exact hc _
/-- A node is stored into a box. -/
def put4 (W : World) (g : Nat) (v : NV) : World := (((W.setCell ⟨g, 0, none⟩ (.bool v.leaf)).setCell ⟨g, 1, none⟩ (.slice v.A1 v.xs.length v.c1)).setCell ⟨g, 2, none⟩ (.slice v.A2 v.ks.length v.c2)).setCell ⟨g, 3, none⟩ (.slice v.A3 v.ds.length v.c3)
theorem put4_at {W : World} {g : Nat} {v : NV} {u0 u1 u2 u3 : Value} (hx : W.heap[g]? = some (.cells #[u0, u1, u2, u3] 26 (0, 0))) : (put4 W g v).heap[g]? = some (.cells #[.bool v.leaf, .slice v.A1 v.xs.length v.c1, .slice v.A2 v.ks.length v.c2, .slice v.A3 v.ds.length v.c3] 26 (0, 0)) := by
  have y0 := blk_set hx 0 (.bool v.leaf)
  have y1 := blk_set y0 1 (.slice v.A1 v.xs.length v.c1)
  have y2 := blk_set y1 2 (.slice v.A2 v.ks.length v.c2)
  have y3 := blk_set y2 3 (.slice v.A3 v.ds.length v.c3)
  unfold put4
  simpa using y3
theorem put4_ne {W : World} {g : Nat} {v : NV} {k : Nat} (hk : k ≠ g) : (put4 W g v).heap[k]? = W.heap[k]? := by
  unfold put4
  rw [Below.heap_setCell _ _ _ _ hk, Below.heap_setCell _ _ _ _ hk, Below.heap_setCell _ _ _ _ hk, Below.heap_setCell _ _ _ _ hk]
theorem put4_below {W w0 : World} {B g : Nat} {v : NV} (hB : B ≤ g) (h : Below B w0 W) : Below B w0 (put4 W g v) := (((h.setCell hB _).setCell hB _).setCell hB _).setCell hB _
/-- The four variables of the law, at a world behind the Join. -/
structure L6 (w : World) (m l r j : NV) (gl gj : Nat) (W : World) : Prop where
  m : m.at W w.heap.size
  l : l.at W gl
  r : r.at W (gl + 1)
  j : j.at W gj
  b : Below w.heap.size w W
theorem L6.below {w : World} {m l r j : NV} {gl gj : Nat} {W W' : World} (h : L6 w m l r j gl gj W) (hb : Below W.heap.size W W') : L6 w m l r j gl gj W' := ⟨NV.at_below h.m hb, NV.at_below h.l hb, NV.at_below h.r hb, NV.at_below h.j hb, below_then h.b h.b.size hb⟩
theorem L6.drew {w : World} {m l r j : NV} {gl gj : Nat} {W : World} (h : L6 w m l r j gl gj W) : L6 w m l r j gl gj W.drew := h.below (below_drew1 (Below.refl _ _))
theorem L6.om {w : World} {m l r j : NV} {gl gj : Nat} {W : World} (h : L6 w m l r j gl gj W) : m.ok W := h.m.2
theorem L6.ol {w : World} {m l r j : NV} {gl gj : Nat} {W : World} (h : L6 w m l r j gl gj W) : l.ok W := h.l.2
theorem L6.or {w : World} {m l r j : NV} {gl gj : Nat} {W : World} (h : L6 w m l r j gl gj W) : r.ok W := h.r.2
theorem L6.oj {w : World} {m l r j : NV} {gl gj : Nat} {W : World} (h : L6 w m l r j gl gj W) : j.ok W := h.j.2
set_option maxHeartbeats 4000000 in
set_option maxRecDepth 100000 in
theorem whole_walk (hworks : ∀ W : World, Calls Try.prog 14 #[] W fun e w' => e = .returned (.bool true) ∧ Below W.heap.size W w') (n : NV) (w : World) (hn : n.ok w) :
    Calls Try.prog 4 #[.agg #[.bool n.leaf, .slice n.A1 n.xs.length n.c1, .slice n.A2 n.ks.length n.c2, .slice n.A3 n.ds.length n.c3]] w fun e w' => e = .returned (.bool true) ∧ Below w.heap.size w w' := by
  have HN := Lib.hid hn
  have HV := Lib.hid hworks
  clear hn hworks
  go_enter Try.func4, Try.ntmps4
  go_upto_region 2 with (first
    | (go_at_call 8
       (with_reducible refine (nv_few (NV.ok_below HN.out (below_alloc (Below.refl _ _) _))).mono ?_)
       rintro e w1 ⟨m, rfl, HM1, hm, hb1⟩
       have HM := Lib.hid hm
       have HB1 := Lib.hid (below_then (below_alloc (Below.refl w.heap.size w) _) (by simp) hb1)
       have hx1 := blk_below (heap_alloc_new w _) hb1
       have HX1 := Lib.hid hx1
       have bx0 := (blk_cell hx1 0).trans rfl
       have bx1 := (blk_cell hx1 1).trans rfl
       have bx2 := (blk_cell hx1 2).trans rfl
       have bx3 := (blk_cell hx1 3).trans rfl
       have fx0 := blk_frozen hx1 0
       have fx1 := blk_frozen hx1 1
       have fx2 := blk_frozen hx1 2
       have fx3 := blk_frozen hx1 3
       clear hm hb1 hx1))
  have HA2 : Hid (m.at (put4 w1 w.heap.size m) w.heap.size) := Lib.hid ⟨put4_at HX1.out, HM.out _ (fun k hk => put4_ne (by simp at hk; omega))⟩
  have HB2 : Hid (Below w.heap.size w (put4 w1 w.heap.size m)) := Lib.hid (put4_below (Nat.le_refl _) HB1.out)
  have hz2 : w.heap.size < (put4 w1 w.heap.size m).heap.size := blk_lt HA2.out.1
  change Code.wp _ _ _ _ (put4 w1 w.heap.size m)
  clear HX1 HB1 HM bx0 bx1 bx2 bx3 fx0 fx1 fx2 fx3
  generalize put4 w1 w.heap.size m = w2 at HA2 HB2 hz2 ⊢
  have bx0 := (blk_cell HA2.out.1 0).trans rfl
  have bx1 := (blk_cell HA2.out.1 1).trans rfl
  have bx2 := (blk_cell HA2.out.1 2).trans rfl
  have bx3 := (blk_cell HA2.out.1 3).trans rfl
  have hsm := Lib.hid (show small m.xs m.ks = true from HM1.out.2.1 ▸ HM1.out.2.2.1 ▸ few_small n.xs n.ks)
  have hsd := Lib.hid (show m.ds.length ≤ 1000 by rw [HM1.out.2.2.2, List.length_take]; omega)
  have HO2 := Lib.hid (show m.ok w2 from HA2.out.2)
  go_upto_region 3 with (first
    | (go_at_call 9
       (with_reducible refine (nv_split HO2.out hsm.out hsd.out).mono ?_)
       rintro e w3 ⟨l, r, key, er, rfl, hl, hr, hW, hb3⟩
       have HL3 := Lib.hid hl
       have HR3 := Lib.hid hr
       have HW := Lib.hid hW
       have HB3 := Lib.hid hb3
       clear hl hr hW hb3))
  have hz3 := HB3.out.size
  have HA4 := Lib.hid (NV.at_below HA2.out (below_alloc (below_alloc HB3.out (.cells #[.bool l.leaf, .slice l.A1 l.xs.length l.c1, .slice l.A2 l.ks.length l.c2, .slice l.A3 l.ds.length l.c3] 26)) (.cells #[.bool r.leaf, .slice r.A1 r.xs.length r.c1, .slice r.A2 r.ks.length r.c2, .slice r.A3 r.ds.length r.c3] 26)))
  have HL4 : Hid (l.at ((w3.alloc (.cells #[.bool l.leaf, .slice l.A1 l.xs.length l.c1, .slice l.A2 l.ks.length l.c2, .slice l.A3 l.ds.length l.c3] 26)).alloc (.cells #[.bool r.leaf, .slice r.A1 r.xs.length r.c1, .slice r.A2 r.ks.length r.c2, .slice r.A3 r.ds.length r.c3] 26)) w3.heap.size) := Lib.hid ⟨blk_alloc (heap_alloc_new _ _) _, NV.ok_below HL3.out (below_alloc (below_alloc (Below.refl _ _) _) _)⟩
  have HR4 : Hid (r.at ((w3.alloc (.cells #[.bool l.leaf, .slice l.A1 l.xs.length l.c1, .slice l.A2 l.ks.length l.c2, .slice l.A3 l.ds.length l.c3] 26)).alloc (.cells #[.bool r.leaf, .slice r.A1 r.xs.length r.c1, .slice r.A2 r.ks.length r.c2, .slice r.A3 r.ds.length r.c3] 26)) (w3.heap.size + 1)) := Lib.hid ⟨Ext.blk_newg (by simp), NV.ok_below HR3.out (below_alloc (below_alloc (Below.refl _ _) _) _)⟩
  have HB4 := Lib.hid (below_alloc (below_alloc (below_then HB2.out (Nat.le_of_lt hz2) HB3.out) (.cells #[.bool l.leaf, .slice l.A1 l.xs.length l.c1, .slice l.A2 l.ks.length l.c2, .slice l.A3 l.ds.length l.c3] 26)) (.cells #[.bool r.leaf, .slice r.A1 r.xs.length r.c1, .slice r.A2 r.ks.length r.c2, .slice r.A3 r.ds.length r.c3] 26))
  have hz4 : w3.heap.size + 2 ≤ ((w3.alloc (.cells #[.bool l.leaf, .slice l.A1 l.xs.length l.c1, .slice l.A2 l.ks.length l.c2, .slice l.A3 l.ds.length l.c3] 26)).alloc (.cells #[.bool r.leaf, .slice r.A1 r.xs.length r.c1, .slice r.A2 r.ks.length r.c2, .slice r.A3 r.ds.length r.c3] 26)).heap.size := by simp
  have hga : w.heap.size < w3.heap.size := by omega
  clear HL3 HR3 HB3 HA2 HB2 HO2 hz2 hz3 bx0 bx1 bx2 bx3 hsm hsd
  generalize (w3.alloc (.cells #[.bool l.leaf, .slice l.A1 l.xs.length l.c1, .slice l.A2 l.ks.length l.c2, .slice l.A3 l.ds.length l.c3] 26)).alloc (.cells #[.bool r.leaf, .slice r.A1 r.xs.length r.c1, .slice r.A2 r.ks.length r.c2, .slice r.A3 r.ds.length r.c3] 26) = w4 at HA4 HL4 HR4 HB4 hz4 ⊢
  generalize w3.heap.size = gl at HL4 HR4 hz4 hga ⊢
  rcases HW.out with rfl | ⟨rfl, hll, hrl, hW⟩
  · go_wp2_with (first
      | (go_at_call 14
         (with_reducible refine (HV.out _).mono ?_)
         rintro e w5 ⟨rfl, hb5⟩
         have HB5 := Lib.hid (below_then HB4.out HB4.out.size hb5)
         clear hb5))
    go_ret
    exact ⟨rfl, HB5.out⟩
  have hL4o := Lib.hid (show l.ok w4 from HL4.out.2)
  have hR4o := Lib.hid (show r.ok w4 from HR4.out.2)
  have J1 := Lib.hid (show checkB l.leaf l.xs l.ks l.ds = true by rw [hll]; exact hW.cl)
  have J2 := Lib.hid (show checkB l.leaf r.xs r.ks r.ds = true by rw [hll]; exact hW.cr)
  have J4 := Lib.hid (show checkB r.leaf r.xs r.ks r.ds = true by rw [hrl]; exact hW.cr)
  have J0 := Lib.hid (show r.leaf = l.leaf by rw [hll, hrl])
  have HMc := Lib.hid (show checkB m.leaf m.xs m.ks m.ds = true from hW.cm)
  have J3 := Lib.hid (show checkB l.leaf (l.xs ++ r.xs) (if l.leaf then [] else l.ks ++ key :: r.ks) (if l.leaf then [] else l.ds ++ r.ds) = true by rw [hll, hW.jc, hW.jk, hW.jd]; exact HMc.out)
  have HWh := Lib.hid hW
  have HLL := Lib.hid hll
  have HRL := Lib.hid hrl
  clear HW hW hll hrl
  have lx0 := (blk_cell HL4.out.1 0).trans rfl
  have lx1 := (blk_cell HL4.out.1 1).trans rfl
  have lx2 := (blk_cell HL4.out.1 2).trans rfl
  have lx3 := (blk_cell HL4.out.1 3).trans rfl
  have rx0 := (blk_cell HR4.out.1 0).trans rfl
  have rx1 := (blk_cell HR4.out.1 1).trans rfl
  have rx2 := (blk_cell HR4.out.1 2).trans rfl
  have rx3 := (blk_cell HR4.out.1 3).trans rfl
  go_upto_region 6 with (first
    | (go_at_call 11
       (with_reducible refine (nv_join (u := l) (v := r) (key := key) hL4o.out hR4o.out J0.out J1.out J2.out J3.out).mono ?_)
       rintro e w5 ⟨j, rfl, j1, j2, j3, j4, hj, hb5⟩
       have HJE := Lib.hid (show j.leaf = m.leaf ∧ j.xs = m.xs ∧ j.ks = m.ks ∧ j.ds = m.ds from ⟨j1.trans HLL.out, j2.trans HWh.out.jc, by rw [j3, HLL.out]; exact HWh.out.jk, by rw [j4, HLL.out]; exact HWh.out.jd⟩)
       have HJ5 := Lib.hid hj
       have HB5 := Lib.hid hb5
       clear hj hb5 j1 j2 j3 j4))
  have hz6 : w5.heap.size < (w5.alloc (.cells #[.bool j.leaf, .slice j.A1 j.xs.length j.c1, .slice j.A2 j.ks.length j.c2, .slice j.A3 j.ds.length j.c3] 26)).heap.size := by simp
  have hz5 := HB5.out.size
  have HK : Hid (L6 w m l r j gl w5.heap.size (w5.alloc (.cells #[.bool j.leaf, .slice j.A1 j.xs.length j.c1, .slice j.A2 j.ks.length j.c2, .slice j.A3 j.ds.length j.c3] 26))) :=
    Lib.hid ⟨NV.at_below HA4.out (below_alloc HB5.out _), NV.at_below HL4.out (below_alloc HB5.out _), NV.at_below HR4.out (below_alloc HB5.out _), ⟨heap_alloc_new _ _, NV.ok_below HJ5.out (below_alloc (Below.refl _ _) _)⟩, below_then HB4.out HB4.out.size (below_alloc HB5.out _)⟩
  have hgj : gl + 1 < w5.heap.size := by omega
  clear HA4 HL4 HR4 HB4 HJ5 HB5 hz4 hz5 hz6 hL4o hR4o lx0 lx1 lx2 lx3 rx0 rx1 rx2 rx3 J0 J3
  generalize w5.alloc (.cells #[.bool j.leaf, .slice j.A1 j.xs.length j.c1, .slice j.A2 j.ks.length j.c2, .slice j.A3 j.ds.length j.c3] 26) = w6 at HK ⊢
  generalize w5.heap.size = gj at HK hgj ⊢
  have hq1 : ¬ (sizeN m.leaf m.xs m.ks ≤ sizeN l.leaf l.xs l.ks) := by have := HWh.out.sl; rw [HLL.out]; omega
  have hq2 : ¬ (sizeN m.leaf m.xs m.ks ≤ sizeN r.leaf r.xs r.ks) := by have := HWh.out.sr; rw [HRL.out]; omega
  have hi1 : ¬ ((sizeN m.leaf m.xs m.ks : Int) ≤ (sizeN l.leaf l.xs l.ks : Int)) := by omega
  have hi2 : ¬ ((sizeN m.leaf m.xs m.ks : Int) ≤ (sizeN r.leaf r.xs r.ks : Int)) := by omega
  have cm0 : w6.cell? ⟨w.heap.size, 0, none⟩ = some (.bool m.leaf) := (blk_cell HK.out.m.1 0).trans rfl
  have cm1 : w6.cell? ⟨w.heap.size, 1, none⟩ = some (.slice m.A1 m.xs.length m.c1) := (blk_cell HK.out.m.1 1).trans rfl
  have cm2 : w6.cell? ⟨w.heap.size, 2, none⟩ = some (.slice m.A2 m.ks.length m.c2) := (blk_cell HK.out.m.1 2).trans rfl
  have cm3 : w6.cell? ⟨w.heap.size, 3, none⟩ = some (.slice m.A3 m.ds.length m.c3) := (blk_cell HK.out.m.1 3).trans rfl
  have cl0 : w6.cell? ⟨gl, 0, none⟩ = some (.bool l.leaf) := (blk_cell HK.out.l.1 0).trans rfl
  have cl1 : w6.cell? ⟨gl, 1, none⟩ = some (.slice l.A1 l.xs.length l.c1) := (blk_cell HK.out.l.1 1).trans rfl
  have cl2 : w6.cell? ⟨gl, 2, none⟩ = some (.slice l.A2 l.ks.length l.c2) := (blk_cell HK.out.l.1 2).trans rfl
  have cl3 : w6.cell? ⟨gl, 3, none⟩ = some (.slice l.A3 l.ds.length l.c3) := (blk_cell HK.out.l.1 3).trans rfl
  have cr0 : w6.cell? ⟨gl + 1, 0, none⟩ = some (.bool r.leaf) := (blk_cell HK.out.r.1 0).trans rfl
  have cr1 : w6.cell? ⟨gl + 1, 1, none⟩ = some (.slice r.A1 r.xs.length r.c1) := (blk_cell HK.out.r.1 1).trans rfl
  have cr2 : w6.cell? ⟨gl + 1, 2, none⟩ = some (.slice r.A2 r.ks.length r.c2) := (blk_cell HK.out.r.1 2).trans rfl
  have cr3 : w6.cell? ⟨gl + 1, 3, none⟩ = some (.slice r.A3 r.ds.length r.c3) := (blk_cell HK.out.r.1 3).trans rfl
  have cj0 : w6.cell? ⟨gj, 0, none⟩ = some (.bool j.leaf) := (blk_cell HK.out.j.1 0).trans rfl
  have cj1 : w6.cell? ⟨gj, 1, none⟩ = some (.slice j.A1 j.xs.length j.c1) := (blk_cell HK.out.j.1 1).trans rfl
  have cj2 : w6.cell? ⟨gj, 2, none⟩ = some (.slice j.A2 j.ks.length j.c2) := (blk_cell HK.out.j.1 2).trans rfl
  have cj3 : w6.cell? ⟨gj, 3, none⟩ = some (.slice j.A3 j.ds.length j.c3) := (blk_cell HK.out.j.1 3).trans rfl
  go_region_held3 (fun w' => w'.cell? ⟨w.heap.size, 0, none⟩ = some (.bool m.leaf) ∧ w'.cell? ⟨w.heap.size, 1, none⟩ = some (.slice m.A1 m.xs.length m.c1) ∧ w'.cell? ⟨w.heap.size, 2, none⟩ = some (.slice m.A2 m.ks.length m.c2) ∧ w'.cell? ⟨w.heap.size, 3, none⟩ = some (.slice m.A3 m.ds.length m.c3) ∧ w'.cell? ⟨gl, 0, none⟩ = some (.bool l.leaf) ∧ w'.cell? ⟨gl, 1, none⟩ = some (.slice l.A1 l.xs.length l.c1) ∧ w'.cell? ⟨gl, 2, none⟩ = some (.slice l.A2 l.ks.length l.c2) ∧ w'.cell? ⟨gl, 3, none⟩ = some (.slice l.A3 l.ds.length l.c3) ∧ w'.cell? ⟨gl + 1, 0, none⟩ = some (.bool r.leaf) ∧ w'.cell? ⟨gl + 1, 1, none⟩ = some (.slice r.A1 r.xs.length r.c1) ∧ w'.cell? ⟨gl + 1, 2, none⟩ = some (.slice r.A2 r.ks.length r.c2) ∧ w'.cell? ⟨gl + 1, 3, none⟩ = some (.slice r.A3 r.ds.length r.c3) ∧ w'.cell? ⟨gj, 0, none⟩ = some (.bool j.leaf) ∧ w'.cell? ⟨gj, 1, none⟩ = some (.slice j.A1 j.xs.length j.c1) ∧ w'.cell? ⟨gj, 2, none⟩ = some (.slice j.A2 j.ks.length j.c2) ∧ w'.cell? ⟨gj, 3, none⟩ = some (.slice j.A3 j.ds.length j.c3))
    (first | go_keep)
    (first
      | (go_at_call 13
         (with_reducible refine (nv_same (u := j) (v := m) ?_ ?_ HJE.out.1 HJE.out.2.1 HJE.out.2.2.1 HJE.out.2.2.2 HMc.out).mono ?_)
         · repeat (with_reducible first | exact HK.out.oj | exact HK.out.drew.oj | exact HK.out.drew.drew.oj)
         · repeat (with_reducible first | exact HK.out.om | exact HK.out.drew.om | exact HK.out.drew.drew.om)
         rintro e wk ⟨rfl, hbk⟩
         replace HK := Lib.hid (L6.below (w := w) (m := m) (l := l) (r := r) (j := j) (gl := gl) (gj := gj) ?hh hbk)
         case hh => (with_reducible first | exact HK.out | exact HK.out.drew | exact HK.out.drew.drew)
         clear hbk cm0 cm1 cm2 cm3 cl0 cl1 cl2 cl3 cr0 cr1 cr2 cr3 cj0 cj1 cj2 cj3
         have cm0 : wk.cell? ⟨w.heap.size, 0, none⟩ = some (.bool m.leaf) := (blk_cell HK.out.m.1 0).trans rfl
         have cm1 : wk.cell? ⟨w.heap.size, 1, none⟩ = some (.slice m.A1 m.xs.length m.c1) := (blk_cell HK.out.m.1 1).trans rfl
         have cm2 : wk.cell? ⟨w.heap.size, 2, none⟩ = some (.slice m.A2 m.ks.length m.c2) := (blk_cell HK.out.m.1 2).trans rfl
         have cm3 : wk.cell? ⟨w.heap.size, 3, none⟩ = some (.slice m.A3 m.ds.length m.c3) := (blk_cell HK.out.m.1 3).trans rfl
         have cl0 : wk.cell? ⟨gl, 0, none⟩ = some (.bool l.leaf) := (blk_cell HK.out.l.1 0).trans rfl
         have cl1 : wk.cell? ⟨gl, 1, none⟩ = some (.slice l.A1 l.xs.length l.c1) := (blk_cell HK.out.l.1 1).trans rfl
         have cl2 : wk.cell? ⟨gl, 2, none⟩ = some (.slice l.A2 l.ks.length l.c2) := (blk_cell HK.out.l.1 2).trans rfl
         have cl3 : wk.cell? ⟨gl, 3, none⟩ = some (.slice l.A3 l.ds.length l.c3) := (blk_cell HK.out.l.1 3).trans rfl
         have cr0 : wk.cell? ⟨gl + 1, 0, none⟩ = some (.bool r.leaf) := (blk_cell HK.out.r.1 0).trans rfl
         have cr1 : wk.cell? ⟨gl + 1, 1, none⟩ = some (.slice r.A1 r.xs.length r.c1) := (blk_cell HK.out.r.1 1).trans rfl
         have cr2 : wk.cell? ⟨gl + 1, 2, none⟩ = some (.slice r.A2 r.ks.length r.c2) := (blk_cell HK.out.r.1 2).trans rfl
         have cr3 : wk.cell? ⟨gl + 1, 3, none⟩ = some (.slice r.A3 r.ds.length r.c3) := (blk_cell HK.out.r.1 3).trans rfl
         have cj0 : wk.cell? ⟨gj, 0, none⟩ = some (.bool j.leaf) := (blk_cell HK.out.j.1 0).trans rfl
         have cj1 : wk.cell? ⟨gj, 1, none⟩ = some (.slice j.A1 j.xs.length j.c1) := (blk_cell HK.out.j.1 1).trans rfl
         have cj2 : wk.cell? ⟨gj, 2, none⟩ = some (.slice j.A2 j.ks.length j.c2) := (blk_cell HK.out.j.1 2).trans rfl
         have cj3 : wk.cell? ⟨gj, 3, none⟩ = some (.slice j.A3 j.ds.length j.c3) := (blk_cell HK.out.j.1 3).trans rfl)
      | (go_at_call 15
         (first
           | (with_reducible refine (nv_check (v := l) ?_ J1.out).mono ?_)
             · repeat (with_reducible first | exact HK.out.ol | exact HK.out.drew.ol | exact HK.out.drew.drew.ol)
           | (with_reducible refine (nv_check (v := r) ?_ J4.out).mono ?_)
             · repeat (with_reducible first | exact HK.out.or | exact HK.out.drew.or | exact HK.out.drew.drew.or))
         rintro e wk ⟨rfl, hbk⟩
         replace HK := Lib.hid (L6.below (w := w) (m := m) (l := l) (r := r) (j := j) (gl := gl) (gj := gj) ?hh hbk)
         case hh => (with_reducible first | exact HK.out | exact HK.out.drew | exact HK.out.drew.drew)
         clear hbk cm0 cm1 cm2 cm3 cl0 cl1 cl2 cl3 cr0 cr1 cr2 cr3 cj0 cj1 cj2 cj3
         have cm0 : wk.cell? ⟨w.heap.size, 0, none⟩ = some (.bool m.leaf) := (blk_cell HK.out.m.1 0).trans rfl
         have cm1 : wk.cell? ⟨w.heap.size, 1, none⟩ = some (.slice m.A1 m.xs.length m.c1) := (blk_cell HK.out.m.1 1).trans rfl
         have cm2 : wk.cell? ⟨w.heap.size, 2, none⟩ = some (.slice m.A2 m.ks.length m.c2) := (blk_cell HK.out.m.1 2).trans rfl
         have cm3 : wk.cell? ⟨w.heap.size, 3, none⟩ = some (.slice m.A3 m.ds.length m.c3) := (blk_cell HK.out.m.1 3).trans rfl
         have cl0 : wk.cell? ⟨gl, 0, none⟩ = some (.bool l.leaf) := (blk_cell HK.out.l.1 0).trans rfl
         have cl1 : wk.cell? ⟨gl, 1, none⟩ = some (.slice l.A1 l.xs.length l.c1) := (blk_cell HK.out.l.1 1).trans rfl
         have cl2 : wk.cell? ⟨gl, 2, none⟩ = some (.slice l.A2 l.ks.length l.c2) := (blk_cell HK.out.l.1 2).trans rfl
         have cl3 : wk.cell? ⟨gl, 3, none⟩ = some (.slice l.A3 l.ds.length l.c3) := (blk_cell HK.out.l.1 3).trans rfl
         have cr0 : wk.cell? ⟨gl + 1, 0, none⟩ = some (.bool r.leaf) := (blk_cell HK.out.r.1 0).trans rfl
         have cr1 : wk.cell? ⟨gl + 1, 1, none⟩ = some (.slice r.A1 r.xs.length r.c1) := (blk_cell HK.out.r.1 1).trans rfl
         have cr2 : wk.cell? ⟨gl + 1, 2, none⟩ = some (.slice r.A2 r.ks.length r.c2) := (blk_cell HK.out.r.1 2).trans rfl
         have cr3 : wk.cell? ⟨gl + 1, 3, none⟩ = some (.slice r.A3 r.ds.length r.c3) := (blk_cell HK.out.r.1 3).trans rfl
         have cj0 : wk.cell? ⟨gj, 0, none⟩ = some (.bool j.leaf) := (blk_cell HK.out.j.1 0).trans rfl
         have cj1 : wk.cell? ⟨gj, 1, none⟩ = some (.slice j.A1 j.xs.length j.c1) := (blk_cell HK.out.j.1 1).trans rfl
         have cj2 : wk.cell? ⟨gj, 2, none⟩ = some (.slice j.A2 j.ks.length j.c2) := (blk_cell HK.out.j.1 2).trans rfl
         have cj3 : wk.cell? ⟨gj, 3, none⟩ = some (.slice j.A3 j.ds.length j.c3) := (blk_cell HK.out.j.1 3).trans rfl)
      | (go_at_call 16
         (first
           | (with_reducible refine (nv_size (v := l) ?_ J1.out).mono ?_)
             · repeat (with_reducible first | exact HK.out.ol | exact HK.out.drew.ol | exact HK.out.drew.drew.ol)
           | (with_reducible refine (nv_size (v := m) ?_ HMc.out).mono ?_)
             · repeat (with_reducible first | exact HK.out.om | exact HK.out.drew.om | exact HK.out.drew.drew.om)
           | (with_reducible refine (nv_size (v := r) ?_ J4.out).mono ?_)
             · repeat (with_reducible first | exact HK.out.or | exact HK.out.drew.or | exact HK.out.drew.drew.or))
         rintro e wk ⟨rfl, hbk⟩
         replace HK := Lib.hid (L6.below (w := w) (m := m) (l := l) (r := r) (j := j) (gl := gl) (gj := gj) ?hh hbk)
         case hh => (with_reducible first | exact HK.out | exact HK.out.drew | exact HK.out.drew.drew)
         clear hbk cm0 cm1 cm2 cm3 cl0 cl1 cl2 cl3 cr0 cr1 cr2 cr3 cj0 cj1 cj2 cj3
         have cm0 : wk.cell? ⟨w.heap.size, 0, none⟩ = some (.bool m.leaf) := (blk_cell HK.out.m.1 0).trans rfl
         have cm1 : wk.cell? ⟨w.heap.size, 1, none⟩ = some (.slice m.A1 m.xs.length m.c1) := (blk_cell HK.out.m.1 1).trans rfl
         have cm2 : wk.cell? ⟨w.heap.size, 2, none⟩ = some (.slice m.A2 m.ks.length m.c2) := (blk_cell HK.out.m.1 2).trans rfl
         have cm3 : wk.cell? ⟨w.heap.size, 3, none⟩ = some (.slice m.A3 m.ds.length m.c3) := (blk_cell HK.out.m.1 3).trans rfl
         have cl0 : wk.cell? ⟨gl, 0, none⟩ = some (.bool l.leaf) := (blk_cell HK.out.l.1 0).trans rfl
         have cl1 : wk.cell? ⟨gl, 1, none⟩ = some (.slice l.A1 l.xs.length l.c1) := (blk_cell HK.out.l.1 1).trans rfl
         have cl2 : wk.cell? ⟨gl, 2, none⟩ = some (.slice l.A2 l.ks.length l.c2) := (blk_cell HK.out.l.1 2).trans rfl
         have cl3 : wk.cell? ⟨gl, 3, none⟩ = some (.slice l.A3 l.ds.length l.c3) := (blk_cell HK.out.l.1 3).trans rfl
         have cr0 : wk.cell? ⟨gl + 1, 0, none⟩ = some (.bool r.leaf) := (blk_cell HK.out.r.1 0).trans rfl
         have cr1 : wk.cell? ⟨gl + 1, 1, none⟩ = some (.slice r.A1 r.xs.length r.c1) := (blk_cell HK.out.r.1 1).trans rfl
         have cr2 : wk.cell? ⟨gl + 1, 2, none⟩ = some (.slice r.A2 r.ks.length r.c2) := (blk_cell HK.out.r.1 2).trans rfl
         have cr3 : wk.cell? ⟨gl + 1, 3, none⟩ = some (.slice r.A3 r.ds.length r.c3) := (blk_cell HK.out.r.1 3).trans rfl
         have cj0 : wk.cell? ⟨gj, 0, none⟩ = some (.bool j.leaf) := (blk_cell HK.out.j.1 0).trans rfl
         have cj1 : wk.cell? ⟨gj, 1, none⟩ = some (.slice j.A1 j.xs.length j.c1) := (blk_cell HK.out.j.1 1).trans rfl
         have cj2 : wk.cell? ⟨gj, 2, none⟩ = some (.slice j.A2 j.ks.length j.c2) := (blk_cell HK.out.j.1 2).trans rfl
         have cj3 : wk.cell? ⟨gj, 3, none⟩ = some (.slice j.A3 j.ds.length j.c3) := (blk_cell HK.out.j.1 3).trans rfl))
  clear hgj hga hq1 hq2 hi1 hi2 J1 J2 J4 HMc HJE
  have hP := Lib.hid HWh.out.pc
  go_upto_block 0 with fail
  go_cut [] (fun wc => Hid (L6 w m l r j gl gj wc))
  case first =>
    as_aux_lemma =>
    go_wp2_with fail
    go_loopw [71] (fun i wr => ∃ k : Nat, k ≤ l.xs.length ∧ i = .int .i64 k ∧ Hid (L6 w m l r j gl gj wr)) (fun i _ => l.xs.length - (intOf i).toNat)
    case atStart => exact ⟨0, Nat.zero_le _, rfl, HK⟩
    case round =>
    obtain ⟨k, hk, rfl, HK⟩ := hrel
    by_cases hlt : k < l.xs.length
    · obtain ⟨ad, he, x0, x1, x2, x3⟩ := MSlot.at_T43 HK.out.ol.r1 (k : Int) (by omega) (by omega)
      have hi0 : (0 : Int) ≤ (k : Int) := by omega
      have hi1 : (k : Int) < (l.xs.length : Int) := by omega
      have hb : Op.bytesLess (MSlot.rd_T43 l.xs (k : Int)).f0.toList key.toList = true := hP.out _ (by unfold MSlot.rd_T43; rw [Int.toNat_natCast, List.getD_eq_getElem?_getD, List.getElem?_eq_getElem hlt]; exact List.getElem_mem hlt)
      have hw : wrap64 ((k : Int) + 1) = (k : Int) + 1 := wI (by have := HK.out.ol.r1.2.1; omega)
      simp only [Int.toNat_natCast] at x0 x1 x2 x3
      go_wp2
      go_roundw
      case rel =>
        refine ⟨k + 1, by omega, by (with_reducible first | rfl | (simp; done) | (go_num; done)), Lib.hid (HK.out.below (below_alloc (Below.refl _ _) _))⟩
      case measure => rw [hw]; clear hw; show l.xs.length - ((k : Int) + 1).toNat < l.xs.length - (k : Int).toNat; omega
    · go_wp2_with fail
      go_meet
      exact HK
  case rest =>
  have HK := hcut
  clear hcut
  have hP := Lib.hid HWh.out.qc
  have cr1 : wc.cell? ⟨gl + 1, 1, none⟩ = some (.slice r.A1 r.xs.length r.c1) := (blk_cell HK.out.r.1 1).trans rfl
  go_upto_block 2 with fail
  go_cut [] (fun wc => Hid (L6 w m l r j gl gj wc))
  case first =>
    as_aux_lemma =>
    go_wp2_with fail
    go_loopw [83] (fun i wr => ∃ k : Nat, k ≤ r.xs.length ∧ i = .int .i64 k ∧ Hid (L6 w m l r j gl gj wr)) (fun i _ => r.xs.length - (intOf i).toNat)
    case atStart => exact ⟨0, Nat.zero_le _, rfl, HK⟩
    case round =>
    obtain ⟨k, hk, rfl, HK⟩ := hrel
    by_cases hlt : k < r.xs.length
    · obtain ⟨ad, he, x0, x1, x2, x3⟩ := MSlot.at_T43 HK.out.or.r1 (k : Int) (by omega) (by omega)
      have hi0 : (0 : Int) ≤ (k : Int) := by omega
      have hi1 : (k : Int) < (r.xs.length : Int) := by omega
      have hb : Op.bytesLess (MSlot.rd_T43 r.xs (k : Int)).f0.toList key.toList = false := hP.out _ (by unfold MSlot.rd_T43; rw [Int.toNat_natCast, List.getD_eq_getElem?_getD, List.getElem?_eq_getElem hlt]; exact List.getElem_mem hlt)
      have hw : wrap64 ((k : Int) + 1) = (k : Int) + 1 := wI (by have := HK.out.or.r1.2.1; omega)
      simp only [Int.toNat_natCast] at x0 x1 x2 x3
      go_wp2
      go_roundw
      case rel =>
        refine ⟨k + 1, by omega, by (with_reducible first | rfl | (simp; done) | (go_num; done)), Lib.hid (HK.out.below (below_alloc (Below.refl _ _) _))⟩
      case measure => rw [hw]; clear hw; show r.xs.length - ((k : Int) + 1).toNat < r.xs.length - (k : Int).toNat; omega
    · go_wp2_with fail
      go_meet
      exact HK
  case rest =>
  have HK := hcut
  clear hcut
  have hP := Lib.hid HWh.out.pk
  have cl2 : wc.cell? ⟨gl, 2, none⟩ = some (.slice l.A2 l.ks.length l.c2) := (blk_cell HK.out.l.1 2).trans rfl
  go_upto_block 4 with fail
  go_cut [] (fun wc => Hid (L6 w m l r j gl gj wc))
  case first =>
    as_aux_lemma =>
    go_wp2_with fail
    go_loopw [95] (fun i wr => ∃ k : Nat, k ≤ l.ks.length ∧ i = .int .i64 k ∧ Hid (L6 w m l r j gl gj wr)) (fun i _ => l.ks.length - (intOf i).toNat)
    case atStart => exact ⟨0, Nat.zero_le _, rfl, HK⟩
    case round =>
    obtain ⟨k, hk, rfl, HK⟩ := hrel
    by_cases hlt : k < l.ks.length
    · obtain ⟨ad, he, x0⟩ := Kd.at_string HK.out.ol.r2 (k : Int) (by omega) (by omega)
      have hi0 : (0 : Int) ≤ (k : Int) := by omega
      have hi1 : (k : Int) < (l.ks.length : Int) := by omega
      have hb : Op.bytesLess (rdOf ByteArray.empty l.ks (k : Int)).toList key.toList = true := hP.out _ (by unfold rdOf; rw [Int.toNat_natCast, List.getD_eq_getElem?_getD, List.getElem?_eq_getElem hlt]; exact List.getElem_mem hlt)
      have hw : wrap64 ((k : Int) + 1) = (k : Int) + 1 := wI (by have := HK.out.ol.r2.2.1; omega)
      simp only [Int.toNat_natCast] at x0
      go_wp2
      go_roundw
      case rel =>
        refine ⟨k + 1, by omega, by (with_reducible first | rfl | (simp; done) | (go_num; done)), Lib.hid (HK.out)⟩
      case measure => rw [hw]; clear hw; show l.ks.length - ((k : Int) + 1).toNat < l.ks.length - (k : Int).toNat; omega
    · go_wp2_with fail
      go_meet
      exact HK
  case rest =>
  have HK := hcut
  clear hcut
  have hP := Lib.hid HWh.out.qk
  have cr2 : wc.cell? ⟨gl + 1, 2, none⟩ = some (.slice r.A2 r.ks.length r.c2) := (blk_cell HK.out.r.1 2).trans rfl
  go_upto_block 6 with fail
  go_cut [] (fun wc => Hid (L6 w m l r j gl gj wc))
  case first =>
    as_aux_lemma =>
    go_wp2_with fail
    go_loopw [106] (fun i wr => ∃ k : Nat, k ≤ r.ks.length ∧ i = .int .i64 k ∧ Hid (L6 w m l r j gl gj wr)) (fun i _ => r.ks.length - (intOf i).toNat)
    case atStart => exact ⟨0, Nat.zero_le _, rfl, HK⟩
    case round =>
    obtain ⟨k, hk, rfl, HK⟩ := hrel
    by_cases hlt : k < r.ks.length
    · obtain ⟨ad, he, x0⟩ := Kd.at_string HK.out.or.r2 (k : Int) (by omega) (by omega)
      have hi0 : (0 : Int) ≤ (k : Int) := by omega
      have hi1 : (k : Int) < (r.ks.length : Int) := by omega
      have hb : Op.bytesLess key.toList (rdOf ByteArray.empty r.ks (k : Int)).toList = true := hP.out _ (by unfold rdOf; rw [Int.toNat_natCast, List.getD_eq_getElem?_getD, List.getElem?_eq_getElem hlt]; exact List.getElem_mem hlt)
      have hw : wrap64 ((k : Int) + 1) = (k : Int) + 1 := wI (by have := HK.out.or.r2.2.1; omega)
      simp only [Int.toNat_natCast] at x0
      go_wp2
      go_roundw
      case rel =>
        refine ⟨k + 1, by omega, by (with_reducible first | rfl | (simp; done) | (go_num; done)), Lib.hid (HK.out)⟩
      case measure => rw [hw]; clear hw; show r.ks.length - ((k : Int) + 1).toNat < r.ks.length - (k : Int).toNat; omega
    · go_wp2_with fail
      go_meet
      exact HK
  case rest =>
  have HK := hcut
  go_wp2_with (first
    | (go_at_call 14
       (with_reducible refine (HV.out _).mono ?_)
       rintro e w9 ⟨rfl, hb9⟩
       have HB9 := Lib.hid (below_then HK.out.b HK.out.b.size hb9)
       clear hb9))
  go_ret
  exact ⟨rfl, HB9.out⟩
end Go.Proofs.Ytbkcoddcgfclaaa.SP
