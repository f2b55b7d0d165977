/- Nodes in memory: what a walk over layer 11 needs of them. -/
import Derived.Test.YtbkcoddcgfclaaaExtB
import Derived.Deep.RegionHeld3
import Derived.Deep.AppendLies
import Derived.StillTactics
set_option linter.unusedSimpArgs false
set_option linter.unusedVariables false
namespace Go.Proofs.Ytbkcoddcgfclaaa.Ext
open Go.Proofs.Ytbkcoddcgfclaaa.MSlot Go.RowKit Go.Proofs.YtbkcoddcgfclaaaW.PrintWords Go.Proofs.YtbkcoddcgfclaaaW.PrintLast Go.Proofs.YtbkcoddcgfclaaaW.PrintMore Go.Proofs.Ytbkcoddcgfclaaa.SP

theorem mild_check {leaf : Bool} {cells : List S43} {keys : List ByteArray} {kids : List Int} (h : checkB leaf cells keys kids = true) : mild cells keys kids = true := by
  obtain ⟨h1, h2, h3, h4, h5, h6⟩ := check_parts h
  have hk : kids.length ≤ 256 := by
    unfold shapeB at h3
    cases leaf
    · simp at h3; omega
    · simp at h3; rw [h3.2]; simp
  unfold mild
  simp only [Bool.and_eq_true, decide_eq_true_eq, List.all_eq_true]
  refine ⟨⟨⟨by omega, by omega⟩, by omega⟩, fun c hc => ?_⟩
  have := cellB_size (adjC_all cells none h4 c hc)
  omega
theorem check_f {leaf : Bool} {cells : List S43} {keys : List ByteArray} {kids : List Int} (h : checkB leaf cells keys kids = true) : slot_Check.f leaf cells keys kids = some 0 := by
  unfold slot_Check.f
  rw [if_pos (mild_check h), if_pos h]
/-- What is read of a node. -/
structure Node (w : World) (A1 : Option Addr) (c1 : Nat) (cells : List S43) (A2 : Option Addr) (c2 : Nat) (keys : List ByteArray) (A3 : Option Addr) (c3 : Nat) (kids : List Int) : Prop where
  r1 : Kd.C k43 w A1 cells.length cells
  l1 : cells.length ≤ c1
  r2 : Kd.C Kd.string w A2 keys.length keys
  l2 : keys.length ≤ c2
  r3 : Kd.C (Kd.int .i64) w A3 kids.length kids
  l3 : kids.length ≤ c3
theorem Node.below {w w1 : World} {A1 : Option Addr} {c1 : Nat} {cells : List S43} {A2 : Option Addr} {c2 : Nat} {keys : List ByteArray} {A3 : Option Addr} {c3 : Nat} {kids : List Int} (h : Node w A1 c1 cells A2 c2 keys A3 c3 kids) (hb : Below w.heap.size w w1) : Node w1 A1 c1 cells A2 c2 keys A3 c3 kids :=
  ⟨Kd.C_below h.r1 hb, h.l1, Kd.C_below h.r2 hb, h.l2, Kd.C_below h.r3 hb, h.l3⟩
theorem check_call {leaf : Bool} {A1 : Option Addr} {c1 : Nat} {cells : List S43} {A2 : Option Addr} {c2 : Nat} {keys : List ByteArray} {A3 : Option Addr} {c3 : Nat} {kids : List Int} {W : World} (h : Node W A1 c1 cells A2 c2 keys A3 c3 kids) (hc : checkB leaf cells keys kids = true) :
    Calls Try.prog 15 #[.agg #[.bool leaf, .slice A1 cells.length c1, .slice A2 keys.length c2, .slice A3 kids.length c3]] W fun e w' => e = .returned (.int .i64 0) ∧ Below W.heap.size W w' :=
  slot_Check.calls leaf A1 c1 cells A2 c2 keys A3 c3 kids 0 W h.r1 h.l1 h.r2 h.l2 h.r3 h.l3 (check_f hc)
theorem bcell {W w1 : World} (hb : Below W.heap.size W w1) : (∀ b o, b < W.heap.size → w1.cell? ⟨b, o, none⟩ = W.cell? ⟨b, o, none⟩) ∧ (∀ b o, b < W.heap.size → w1.frozen? ⟨b, o, none⟩ = W.frozen? ⟨b, o, none⟩) :=
  ⟨fun b o h => hb.cell (p := ⟨b, o, none⟩) h, fun b o h => hb.frozen (p := ⟨b, o, none⟩) h⟩
/-- A literal of rows reads as their list. -/
theorem C_lit {α : Type} {d : Kd α} {e t : Nat} {W : World} {g : Nat} (L : List (Option Addr × Nat × List α)) (hg : W.heap[g]? = some (.cells (L.map fun x => Value.slice x.1 x.2.2.length x.2.1).toArray t (0, 0)))
    (h : ∀ x ∈ L, d.C W x.1 x.2.2.length x.2.2 ∧ x.2.2.length ≤ x.2.1) (hn : L.length ≤ 1000) : Kd.C (Kd.slice e d) W (some ⟨g, 0, none⟩) L.length (L.map (·.2.2)) := by
  refine ⟨by simp, by omega, fun _ => ⟨⟨g, 0, none⟩, rfl, fun j p hj => ?_⟩⟩
  rw [List.getElem?_map] at hj
  obtain ⟨x, hx, rfl⟩ := Option.map_eq_some_iff.1 hj
  have hm := h x (List.mem_of_getElem? hx)
  refine ⟨[.slice x.1 x.2.2.length x.2.1], rfl, ⟨x.1, x.2.1, rfl, hm.2, hm.1⟩, fun q u hq => ?_⟩
  have hq0 : q = 0 := by
    rcases Nat.eq_zero_or_pos q with h0 | h0
    · exact h0
    · rw [List.getElem?_eq_none (by simp; omega)] at hq; cases hq
  subst hq0
  have hu : Value.slice x.1 x.2.2.length x.2.1 = u := by simpa using hq
  subst hu
  have ha : (⟨g, 0, none⟩ : Addr).add (j * (Kd.slice e d).sz + 0) = ⟨g, j, none⟩ := by
    rw [add_plain]
    simp [Kd.slice]
  rw [ha]
  simp [World.cell?, hg, List.getElem?_map, hx]
theorem concat_cells {W : World} {g : Nat} (A1 : Option Addr) (c1 : Nat) (x1 : List S43) (A2 : Option Addr) (c2 : Nat) (x2 : List S43) (hg : W.heap[g]? = some (.cells #[.slice A1 x1.length c1, .slice A2 x2.length c2] 22 (0, 0)))
    (h1 : Kd.C k43 W A1 x1.length x1) (l1 : x1.length ≤ c1) (h2 : Kd.C k43 W A2 x2.length x2) (l2 : x2.length ≤ c2) (n1 : x1.length ≤ 1000000) (n2 : x2.length ≤ 1000000) :
    Calls Try.prog 28 #[.slice (some ⟨g, 0, none⟩) 2 2] W fun e w' => ∃ v0_ : Value, e = .returned (v0_) ∧ Kd.R k43 43 w' W.heap.size (fun _ => True) v0_ (x1 ++ x2) ∧ Below W.heap.size W w' := by
  have hC := C_lit (e := 43) [(A1, c1, x1), (A2, c2, x2)] hg (by intro x hx; simp at hx; rcases hx with rfl | rfl; exact ⟨h1, l1⟩; exact ⟨h2, l2⟩) (by simp)
  refine slices_Concat_aquifer_api_Cell_aquifer_api_Cell.calls (some ⟨g, 0, none⟩) 2 [x1, x2] (x1 ++ x2) W hC (by simp) ?_
  unfold slices_Concat_aquifer_api_Cell_aquifer_api_Cell.f
  rw [if_pos ⟨by simp, by intro l hl; simp at hl; rcases hl with rfl | rfl <;> assumption⟩]
  simp
theorem concat_ints {W : World} {g : Nat} (A1 : Option Addr) (c1 : Nat) (x1 : List Int) (A2 : Option Addr) (c2 : Nat) (x2 : List Int) (hg : W.heap[g]? = some (.cells #[.slice A1 x1.length c1, .slice A2 x2.length c2] 24 (0, 0)))
    (h1 : Kd.C (Kd.int .i64) W A1 x1.length x1) (l1 : x1.length ≤ c1) (h2 : Kd.C (Kd.int .i64) W A2 x2.length x2) (l2 : x2.length ≤ c2) (n1 : x1.length ≤ 1000000) (n2 : x2.length ≤ 1000000) :
    Calls Try.prog 30 #[.slice (some ⟨g, 0, none⟩) 2 2] W fun e w' => ∃ v0_ : Value, e = .returned (v0_) ∧ Kd.R (Kd.int .i64) 3 w' W.heap.size (fun _ => True) v0_ (x1 ++ x2) ∧ Below W.heap.size W w' := by
  have hC := C_lit (e := 3) [(A1, c1, x1), (A2, c2, x2)] hg (by intro x hx; simp at hx; rcases hx with rfl | rfl; exact ⟨h1, l1⟩; exact ⟨h2, l2⟩) (by simp)
  refine slices_Concat_int_int.calls (some ⟨g, 0, none⟩) 2 [x1, x2] (x1 ++ x2) W hC (by simp) ?_
  unfold slices_Concat_int_int.f
  rw [if_pos ⟨by simp, by intro l hl; simp at hl; rcases hl with rfl | rfl <;> assumption⟩]
  simp
theorem concat_strs {W : World} {g m : Nat} (A1 : Option Addr) (c1 : Nat) (x1 : List ByteArray) (k : ByteArray) (A2 : Option Addr) (c2 : Nat) (x2 : List ByteArray) (hg : W.heap[g]? = some (.cells #[.slice A1 x1.length c1, .slice (some ⟨m, 0, none⟩) 1 1, .slice A2 x2.length c2] 23 (0, 0))) (hm : W.heap[m]? = some (.cells #[.string k] 9 (0, 0)))
    (h1 : Kd.C Kd.string W A1 x1.length x1) (l1 : x1.length ≤ c1) (h2 : Kd.C Kd.string W A2 x2.length x2) (l2 : x2.length ≤ c2) (n1 : x1.length ≤ 1000000) (n2 : x2.length ≤ 1000000) :
    Calls Try.prog 29 #[.slice (some ⟨g, 0, none⟩) 3 3] W fun e w' => ∃ v0_ : Value, e = .returned (v0_) ∧ Kd.R Kd.string 9 w' W.heap.size (fun _ => True) v0_ (x1 ++ k :: x2) ∧ Below W.heap.size W w' := by
  have hk : Kd.C Kd.string W (some ⟨m, 0, none⟩) 1 [k] := by
    refine ⟨rfl, by omega, fun _ => ⟨⟨m, 0, none⟩, rfl, fun j p hj => ?_⟩⟩
    have hj0 : j = 0 := by
      rcases Nat.eq_zero_or_pos j with h0 | h0
      · exact h0
      · rw [List.getElem?_eq_none (by simp; omega)] at hj; cases hj
    subst hj0
    have hp : k = p := by simpa using hj
    subst hp
    refine ⟨[.string k], rfl, rfl, fun q u hq => ?_⟩
    have hq0 : q = 0 := by
      rcases Nat.eq_zero_or_pos q with h0 | h0
      · exact h0
      · rw [List.getElem?_eq_none (by simp; omega)] at hq; cases hq
    subst hq0
    have hu : Value.string k = u := by simpa using hq
    subst hu
    rw [add_plain]
    simp [World.cell?, hm]
  have hC := C_lit (e := 9) [(A1, c1, x1), (some ⟨m, 0, none⟩, 1, [k]), (A2, c2, x2)] hg (by intro x hx; simp at hx; rcases hx with rfl | rfl | rfl; exact ⟨h1, l1⟩; exact ⟨hk, by simp⟩; exact ⟨h2, l2⟩) (by simp)
  refine slices_Concat_string_string.calls (some ⟨g, 0, none⟩) 3 [x1, [k], x2] (x1 ++ k :: x2) W hC (by simp) ?_
  unfold slices_Concat_string_string.f
  rw [if_pos ⟨by simp, by intro l hl; simp at hl; rcases hl with rfl | rfl | rfl; exact n1; simp; exact n2⟩]
  simp
/-- The boxes of a walk of Join, and that nothing else was touched. -/
def Jst (w : World) (o3 o4 o6 : Obj) (W : World) : Prop := W.heap[w.heap.size]? = some o3 ∧ W.heap[w.heap.size + 1]? = some o4 ∧ W.heap[w.heap.size + 1 + 1]? = some o6 ∧ Below w.heap.size w W ∧ w.heap.size + 3 ≤ W.heap.size
theorem Jst.below {w W W' : World} {o3 o4 o6 : Obj} (h : Jst w o3 o4 o6 W) (hb : Below W.heap.size W W') : Jst w o3 o4 o6 W' := by
  obtain ⟨h1, h2, h3, h4, h5⟩ := h
  exact ⟨(hb.block _ (by omega)).trans h1, (hb.block _ (by omega)).trans h2, (hb.block _ (by omega)).trans h3, below_then h4 (by omega) hb, Nat.le_trans h5 hb.size⟩
theorem Jst.mk0 (w : World) (o3 o4 o6 : Obj) : Jst w o3 o4 o6 (((w.alloc o3).alloc o4).alloc o6) := by
  refine ⟨?_, ?_, ?_, (((Below.refl _ w).alloc (Nat.le_refl _) _).alloc (by simp) _).alloc (by simp; omega) _, by simp⟩
  · have h1 := heap_alloc_new w o3
    have b1 : Below (w.alloc o3).heap.size (w.alloc o3) (((w.alloc o3).alloc o4).alloc o6) := ((Below.refl _ _).alloc (Nat.le_refl _) _).alloc (by simp) _
    exact (b1.block _ (by simp)).trans h1
  · have h1 := heap_alloc_new (w.alloc o3) o4
    simp only [World.size_alloc] at h1
    have b1 : Below ((w.alloc o3).alloc o4).heap.size ((w.alloc o3).alloc o4) (((w.alloc o3).alloc o4).alloc o6) := (Below.refl _ _).alloc (Nat.le_refl _) _
    exact (b1.block _ (by simp)).trans h1
  · have h1 := heap_alloc_new ((w.alloc o3).alloc o4) o6
    simpa only [World.size_alloc] using h1
theorem blk_newg {w : World} {o : Obj} {g : Nat} (h : w.heap.size = g) : (w.alloc o).heap[g]? = some o := h ▸ heap_alloc_new w o
/-- A whole node is stored into its box. -/
theorem store26 {ops : Array Oper} {Q : Exit → Act → World → Prop} {oi : Oper} {a : Act} {W : World} {K : Act → World → Prop} (g : Nat) {p q : Tmp} {b b0 : Bool} {A1 A2 A3 : Option Addr} {n1 c1 n2 c2 n3 c3 : Nat} {u1 u2 u3 : Value}
    (hw : Region.wanted oi (yielded ops a.tmps) = true) (hN : oi.dst = none) (hop : oi.op = .store 26 (.tmp p) (.tmp q)) (hp : a.eval (.tmp p) = .pointer (some ⟨g, 0, none⟩)) (hq : a.eval (.tmp q) = .agg #[.bool b, .slice A1 n1 c1, .slice A2 n2 c2, .slice A3 n3 c3])
    (hb : W.heap[g]? = some (.cells #[.bool b0, u1, u2, u3] 26 (0, 0)))
    (h : ∀ W', W'.heap[g]? = some (.cells #[.bool b, .slice A1 n1 c1, .slice A2 n2 c2, .slice A3 n3 c3] 26 (0, 0)) → (∀ k, k ≠ g → W'.heap[k]? = W.heap[k]?) → (∀ B w0, B ≤ g → Below B w0 W → Below B w0 W') → K a W') :
    if Region.wanted oi (yielded ops a.tmps) = true then Oper.wp Try.prog oi a W K Q else K (a.put none undef) W := by
  have x0 := (blk_cell hb 0).trans rfl
  have x1 := (blk_cell hb 1).trans rfl
  have x2 := (blk_cell hb 2).trans rfl
  have x3 := (blk_cell hb 3).trans rfl
  have f0 := blk_frozen hb 0
  have f1 := blk_frozen hb 1
  have f2 := blk_frozen hb 2
  have f3 := blk_frozen hb 3
  refine skip_ (w1 := (((W.setCell ⟨g, 0, none⟩ (.bool b)).setCell ⟨g, 1, none⟩ (.slice A1 n1 c1)).setCell ⟨g, 2, none⟩ (.slice A2 n2 c2)).setCell ⟨g, 3, none⟩ (.slice A3 n3 c3)) hw hN ?_ ?_
  · unfold execOp
    rw [hop]
    simp only [hp, hq]
    clear h hp hq hop hN hw hb
    go_simp
  · refine h _ ?_ ?_ ?_
    · have y0 := blk_set hb 0 (.bool b)
      have y1 := blk_set y0 1 (.slice A1 n1 c1)
      have y2 := blk_set y1 2 (.slice A2 n2 c2)
      have y3 := blk_set y2 3 (.slice A3 n3 c3)
      simpa using y3
    · intro k hk
      rw [Below.heap_setCell _ _ _ _ hk, Below.heap_setCell _ _ _ _ hk, Below.heap_setCell _ _ _ _ hk, Below.heap_setCell _ _ _ _ hk]
    · intro B w0 hB h0
      exact (((h0.setCell hB _).setCell hB _).setCell hB _).setCell hB _
theorem R_from {α : Type} {d : Kd α} {e : Nat} {w : World} {base : Nat} {v : Value} {xs : List α} (h : d.R e w base (fun _ => True) v xs) : d.R e w base (fun k => base ≤ k) v xs := by
  have := Kd.R_bound h
  exact Kd.R_mono this (fun k hk => hk.2.1)
theorem R_at {α : Type} {d : Kd α} {e : Nat} {w W : World} {base n0 g : Nat} {v : Value} {xs : List α} (h : d.R e w base (fun k => n0 ≤ k) v xs) (hg : g < n0 ∨ w.heap.size ≤ g) (hk : ∀ k, k < w.heap.size → k ≠ g → W.heap[k]? = w.heap[k]?) : d.R e W base (fun k => k ≠ g) v xs :=
  Kd.R_mono (Kd.R_step (Kd.R_bound h) (fun k h1 h2 => hk k h2 (by rcases hg with hg | hg <;> omega))) (fun k h1 => by rcases hg with hg | hg <;> omega)
/-- One field of the made node is written (behind a call). -/
theorem R_past {α : Type} {d : Kd α} {e : Nat} {wc w4 : World} {base g j : Nat} {u v : Value} {xs : List α} (h : d.R e wc base (fun k => k ≠ g) v xs) (hb : Below wc.heap.size wc w4) : d.R e (w4.setCell ⟨g, j, none⟩ u) base (fun k => k ≠ g) v xs :=
  Kd.R_step h (fun k h1 h2 => (Below.heap_setCell _ _ _ _ h1).trans (hb.block k h2))
theorem R_put {α : Type} {d : Kd α} {e : Nat} {w4 : World} {base n0 g j : Nat} {u v : Value} {xs : List α} (h : d.R e w4 n0 (fun _ => True) v xs) (hg : g < n0) (hbase : base ≤ n0) : d.R e (w4.setCell ⟨g, j, none⟩ u) base (fun k => k ≠ g) v xs :=
  Kd.R_lower (R_at (R_from h) (.inl hg) (fun k _ hk => Below.heap_setCell _ _ _ _ hk)) hbase
theorem Jst.put {w W : World} {o3 o4 o6 : Obj} (h : Jst w o3 o4 o6 W) {g j : Nat} (u : Value) (hg : w.heap.size + 3 ≤ g) : Jst w o3 o4 o6 (W.setCell ⟨g, j, none⟩ u) := by
  obtain ⟨h1, h2, h3, h4, h5⟩ := h
  refine ⟨?_, ?_, ?_, h4.setCell (by show w.heap.size ≤ g; omega) u, by simpa [World.setCell] using h5⟩
  · exact (Below.heap_setCell _ _ _ _ (by show _ ≠ g; omega)).trans h1
  · exact (Below.heap_setCell _ _ _ _ (by show _ ≠ g; omega)).trans h2
  · exact (Below.heap_setCell _ _ _ _ (by show _ ≠ g; omega)).trans h3
end Go.Proofs.Ytbkcoddcgfclaaa.Ext
