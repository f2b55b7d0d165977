/- slot.Join where both nodes, and what they make together, may be. -/
import Derived.Test.YtbkcoddcgfclaaaExtB
import Derived.Deep.RegionHeld3
import Derived.Deep.AppendLies
import Derived.StillTactics
set_option linter.unusedSimpArgs false
set_option linter.unusedVariables false
namespace Go.Proofs.Ytbkcoddcgfclaaa.Ext
open Go.Proofs.Ytbkcoddcgfclaaa.MSlot Go.RowKit Go.Proofs.YtbkcoddcgfclaaaW.PrintWords Go.Proofs.YtbkcoddcgfclaaaW.PrintLast Go.Proofs.YtbkcoddcgfclaaaW.PrintMore Go.Proofs.Ytbkcoddcgfclaaa.SP

theorem mild_check {leaf : Bool} {cells : List S43} {keys : List ByteArray} {kids : List Int} (h : checkB leaf cells keys kids = true) : mild cells keys kids = true := by
  obtain ⟨h1, h2, h3, h4, h5, h6⟩ := check_parts h
  have hk : kids.length ≤ 256 := by
    unfold shapeB at h3
    cases leaf
    · simp at h3; omega
    · simp at h3; rw [h3.2]; simp
  unfold mild
  simp only [Bool.and_eq_true, decide_eq_true_eq, List.all_eq_true]
  refine ⟨⟨⟨by omega, by omega⟩, by omega⟩, fun c hc => ?_⟩
  have := cellB_size (adjC_all cells none h4 c hc)
  omega
theorem check_f {leaf : Bool} {cells : List S43} {keys : List ByteArray} {kids : List Int} (h : checkB leaf cells keys kids = true) : slot_Check.f leaf cells keys kids = some 0 := by
  unfold slot_Check.f
  rw [if_pos (mild_check h), if_pos h]
/-- What is read of a node. -/
structure Node (w : World) (A1 : Option Addr) (c1 : Nat) (cells : List S43) (A2 : Option Addr) (c2 : Nat) (keys : List ByteArray) (A3 : Option Addr) (c3 : Nat) (kids : List Int) : Prop where
  r1 : Kd.C k43 w A1 cells.length cells
  l1 : cells.length ≤ c1
  r2 : Kd.C Kd.string w A2 keys.length keys
  l2 : keys.length ≤ c2
  r3 : Kd.C (Kd.int .i64) w A3 kids.length kids
  l3 : kids.length ≤ c3
theorem Node.below {w w1 : World} {A1 : Option Addr} {c1 : Nat} {cells : List S43} {A2 : Option Addr} {c2 : Nat} {keys : List ByteArray} {A3 : Option Addr} {c3 : Nat} {kids : List Int} (h : Node w A1 c1 cells A2 c2 keys A3 c3 kids) (hb : Below w.heap.size w w1) : Node w1 A1 c1 cells A2 c2 keys A3 c3 kids :=
  ⟨Kd.C_below h.r1 hb, h.l1, Kd.C_below h.r2 hb, h.l2, Kd.C_below h.r3 hb, h.l3⟩
theorem check_call {leaf : Bool} {A1 : Option Addr} {c1 : Nat} {cells : List S43} {A2 : Option Addr} {c2 : Nat} {keys : List ByteArray} {A3 : Option Addr} {c3 : Nat} {kids : List Int} {W : World} (h : Node W A1 c1 cells A2 c2 keys A3 c3 kids) (hc : checkB leaf cells keys kids = true) :
    Calls Try.prog 15 #[.agg #[.bool leaf, .slice A1 cells.length c1, .slice A2 keys.length c2, .slice A3 kids.length c3]] W fun e w' => e = .returned (.int .i64 0) ∧ Below W.heap.size W w' :=
  slot_Check.calls leaf A1 c1 cells A2 c2 keys A3 c3 kids 0 W h.r1 h.l1 h.r2 h.l2 h.r3 h.l3 (check_f hc)
theorem bcell {W w1 : World} (hb : Below W.heap.size W w1) : (∀ b o, b < W.heap.size → w1.cell? ⟨b, o, none⟩ = W.cell? ⟨b, o, none⟩) ∧ (∀ b o, b < W.heap.size → w1.frozen? ⟨b, o, none⟩ = W.frozen? ⟨b, o, none⟩) :=
  ⟨fun b o h => hb.cell (p := ⟨b, o, none⟩) h, fun b o h => hb.frozen (p := ⟨b, o, none⟩) h⟩
/-- A literal of rows reads as their list. -/
theorem C_lit {α : Type} {d : Kd α} {e t : Nat} {W : World} {g : Nat} (L : List (Option Addr × Nat × List α)) (hg : W.heap[g]? = some (.cells (L.map fun x => Value.slice x.1 x.2.2.length x.2.1).toArray t (0, 0)))
    (h : ∀ x ∈ L, d.C W x.1 x.2.2.length x.2.2 ∧ x.2.2.length ≤ x.2.1) (hn : L.length ≤ 1000) : Kd.C (Kd.slice e d) W (some ⟨g, 0, none⟩) L.length (L.map (·.2.2)) := by
  refine ⟨by simp, by omega, fun _ => ⟨⟨g, 0, none⟩, rfl, fun j p hj => ?_⟩⟩
  rw [List.getElem?_map] at hj
  obtain ⟨x, hx, rfl⟩ := Option.map_eq_some_iff.1 hj
  have hm := h x (List.mem_of_getElem? hx)
  refine ⟨[.slice x.1 x.2.2.length x.2.1], rfl, ⟨x.1, x.2.1, rfl, hm.2, hm.1⟩, fun q u hq => ?_⟩
  have hq0 : q = 0 := by
    rcases Nat.eq_zero_or_pos q with h0 | h0
    · exact h0
    · rw [List.getElem?_eq_none (by simp; omega)] at hq; cases hq
  subst hq0
  have hu : Value.slice x.1 x.2.2.length x.2.1 = u := by simpa using hq
  subst hu
  have ha : (⟨g, 0, none⟩ : Addr).add (j * (Kd.slice e d).sz + 0) = ⟨g, j, none⟩ := by
    rw [add_plain]
    simp [Kd.slice]
  rw [ha]
  simp [World.cell?, hg, List.getElem?_map, hx]
theorem concat_cells {W : World} {g : Nat} (A1 : Option Addr) (c1 : Nat) (x1 : List S43) (A2 : Option Addr) (c2 : Nat) (x2 : List S43) (hg : W.heap[g]? = some (.cells #[.slice A1 x1.length c1, .slice A2 x2.length c2] 22 (0, 0)))
    (h1 : Kd.C k43 W A1 x1.length x1) (l1 : x1.length ≤ c1) (h2 : Kd.C k43 W A2 x2.length x2) (l2 : x2.length ≤ c2) (n1 : x1.length ≤ 1000000) (n2 : x2.length ≤ 1000000) :
    Calls Try.prog 28 #[.slice (some ⟨g, 0, none⟩) 2 2] W fun e w' => ∃ v0_ : Value, e = .returned (v0_) ∧ Kd.R k43 43 w' W.heap.size (fun _ => True) v0_ (x1 ++ x2) ∧ Below W.heap.size W w' := by
  have hC := C_lit (e := 43) [(A1, c1, x1), (A2, c2, x2)] hg (by intro x hx; simp at hx; rcases hx with rfl | rfl; exact ⟨h1, l1⟩; exact ⟨h2, l2⟩) (by simp)
  refine slices_Concat_aquifer_api_Cell_aquifer_api_Cell.calls (some ⟨g, 0, none⟩) 2 [x1, x2] (x1 ++ x2) W hC (by simp) ?_
  unfold slices_Concat_aquifer_api_Cell_aquifer_api_Cell.f
  rw [if_pos ⟨by simp, by intro l hl; simp at hl; rcases hl with rfl | rfl <;> assumption⟩]
  simp
theorem concat_ints {W : World} {g : Nat} (A1 : Option Addr) (c1 : Nat) (x1 : List Int) (A2 : Option Addr) (c2 : Nat) (x2 : List Int) (hg : W.heap[g]? = some (.cells #[.slice A1 x1.length c1, .slice A2 x2.length c2] 24 (0, 0)))
    (h1 : Kd.C (Kd.int .i64) W A1 x1.length x1) (l1 : x1.length ≤ c1) (h2 : Kd.C (Kd.int .i64) W A2 x2.length x2) (l2 : x2.length ≤ c2) (n1 : x1.length ≤ 1000000) (n2 : x2.length ≤ 1000000) :
    Calls Try.prog 30 #[.slice (some ⟨g, 0, none⟩) 2 2] W fun e w' => ∃ v0_ : Value, e = .returned (v0_) ∧ Kd.R (Kd.int .i64) 3 w' W.heap.size (fun _ => True) v0_ (x1 ++ x2) ∧ Below W.heap.size W w' := by
  have hC := C_lit (e := 3) [(A1, c1, x1), (A2, c2, x2)] hg (by intro x hx; simp at hx; rcases hx with rfl | rfl; exact ⟨h1, l1⟩; exact ⟨h2, l2⟩) (by simp)
  refine slices_Concat_int_int.calls (some ⟨g, 0, none⟩) 2 [x1, x2] (x1 ++ x2) W hC (by simp) ?_
  unfold slices_Concat_int_int.f
  rw [if_pos ⟨by simp, by intro l hl; simp at hl; rcases hl with rfl | rfl <;> assumption⟩]
  simp
theorem concat_strs {W : World} {g m : Nat} (A1 : Option Addr) (c1 : Nat) (x1 : List ByteArray) (k : ByteArray) (A2 : Option Addr) (c2 : Nat) (x2 : List ByteArray) (hg : W.heap[g]? = some (.cells #[.slice A1 x1.length c1, .slice (some ⟨m, 0, none⟩) 1 1, .slice A2 x2.length c2] 23 (0, 0))) (hm : W.heap[m]? = some (.cells #[.string k] 9 (0, 0)))
    (h1 : Kd.C Kd.string W A1 x1.length x1) (l1 : x1.length ≤ c1) (h2 : Kd.C Kd.string W A2 x2.length x2) (l2 : x2.length ≤ c2) (n1 : x1.length ≤ 1000000) (n2 : x2.length ≤ 1000000) :
    Calls Try.prog 29 #[.slice (some ⟨g, 0, none⟩) 3 3] W fun e w' => ∃ v0_ : Value, e = .returned (v0_) ∧ Kd.R Kd.string 9 w' W.heap.size (fun _ => True) v0_ (x1 ++ k :: x2) ∧ Below W.heap.size W w' := by
  have hk : Kd.C Kd.string W (some ⟨m, 0, none⟩) 1 [k] := by
    refine ⟨rfl, by omega, fun _ => ⟨⟨m, 0, none⟩, rfl, fun j p hj => ?_⟩⟩
    have hj0 : j = 0 := by
      rcases Nat.eq_zero_or_pos j with h0 | h0
      · exact h0
      · rw [List.getElem?_eq_none (by simp; omega)] at hj; cases hj
    subst hj0
    have hp : k = p := by simpa using hj
    subst hp
    refine ⟨[.string k], rfl, rfl, fun q u hq => ?_⟩
    have hq0 : q = 0 := by
      rcases Nat.eq_zero_or_pos q with h0 | h0
      · exact h0
      · rw [List.getElem?_eq_none (by simp; omega)] at hq; cases hq
    subst hq0
    have hu : Value.string k = u := by simpa using hq
    subst hu
    rw [add_plain]
    simp [World.cell?, hm]
  have hC := C_lit (e := 9) [(A1, c1, x1), (some ⟨m, 0, none⟩, 1, [k]), (A2, c2, x2)] hg (by intro x hx; simp at hx; rcases hx with rfl | rfl | rfl; exact ⟨h1, l1⟩; exact ⟨hk, by simp⟩; exact ⟨h2, l2⟩) (by simp)
  refine slices_Concat_string_string.calls (some ⟨g, 0, none⟩) 3 [x1, [k], x2] (x1 ++ k :: x2) W hC (by simp) ?_
  unfold slices_Concat_string_string.f
  rw [if_pos ⟨by simp, by intro l hl; simp at hl; rcases hl with rfl | rfl | rfl; exact n1; simp; exact n2⟩]
  simp
/-- The boxes of a walk of Join, and that nothing else was touched. -/
def Jst (w : World) (o3 o4 o6 : Obj) (W : World) : Prop := W.heap[w.heap.size]? = some o3 ∧ W.heap[w.heap.size + 1]? = some o4 ∧ W.heap[w.heap.size + 1 + 1]? = some o6 ∧ Below w.heap.size w W ∧ w.heap.size + 3 ≤ W.heap.size
theorem Jst.below {w W W' : World} {o3 o4 o6 : Obj} (h : Jst w o3 o4 o6 W) (hb : Below W.heap.size W W') : Jst w o3 o4 o6 W' := by
  obtain ⟨h1, h2, h3, h4, h5⟩ := h
  exact ⟨(hb.block _ (by omega)).trans h1, (hb.block _ (by omega)).trans h2, (hb.block _ (by omega)).trans h3, below_then h4 (by omega) hb, Nat.le_trans h5 hb.size⟩
theorem Jst.mk0 (w : World) (o3 o4 o6 : Obj) : Jst w o3 o4 o6 (((w.alloc o3).alloc o4).alloc o6) := by
  refine ⟨?_, ?_, ?_, (((Below.refl _ w).alloc (Nat.le_refl _) _).alloc (by simp) _).alloc (by simp; omega) _, by simp⟩
  · have h1 := heap_alloc_new w o3
    have b1 : Below (w.alloc o3).heap.size (w.alloc o3) (((w.alloc o3).alloc o4).alloc o6) := ((Below.refl _ _).alloc (Nat.le_refl _) _).alloc (by simp) _
    exact (b1.block _ (by simp)).trans h1
  · have h1 := heap_alloc_new (w.alloc o3) o4
    simp only [World.size_alloc] at h1
    have b1 : Below ((w.alloc o3).alloc o4).heap.size ((w.alloc o3).alloc o4) (((w.alloc o3).alloc o4).alloc o6) := (Below.refl _ _).alloc (Nat.le_refl _) _
    exact (b1.block _ (by simp)).trans h1
  · have h1 := heap_alloc_new ((w.alloc o3).alloc o4) o6
    simpa only [World.size_alloc] using h1
theorem blk_newg {w : World} {o : Obj} {g : Nat} (h : w.heap.size = g) : (w.alloc o).heap[g]? = some o := h ▸ heap_alloc_new w o
/-- A whole node is stored into its box. -/
theorem store26 {ops : Array Oper} {Q : Exit → Act → World → Prop} {oi : Oper} {a : Act} {W : World} {K : Act → World → Prop} (g : Nat) {p q : Tmp} {b b0 : Bool} {A1 A2 A3 : Option Addr} {n1 c1 n2 c2 n3 c3 : Nat} {u1 u2 u3 : Value}
    (hw : Region.wanted oi (yielded ops a.tmps) = true) (hN : oi.dst = none) (hop : oi.op = .store 26 (.tmp p) (.tmp q)) (hp : a.eval (.tmp p) = .pointer (some ⟨g, 0, none⟩)) (hq : a.eval (.tmp q) = .agg #[.bool b, .slice A1 n1 c1, .slice A2 n2 c2, .slice A3 n3 c3])
    (hb : W.heap[g]? = some (.cells #[.bool b0, u1, u2, u3] 26 (0, 0)))
    (h : ∀ W', W'.heap[g]? = some (.cells #[.bool b, .slice A1 n1 c1, .slice A2 n2 c2, .slice A3 n3 c3] 26 (0, 0)) → (∀ k, k ≠ g → W'.heap[k]? = W.heap[k]?) → (∀ B w0, B ≤ g → Below B w0 W → Below B w0 W') → K a W') :
    if Region.wanted oi (yielded ops a.tmps) = true then Oper.wp Try.prog oi a W K Q else K (a.put none undef) W := by
  have x0 := (blk_cell hb 0).trans rfl
  have x1 := (blk_cell hb 1).trans rfl
  have x2 := (blk_cell hb 2).trans rfl
  have x3 := (blk_cell hb 3).trans rfl
  have f0 := blk_frozen hb 0
  have f1 := blk_frozen hb 1
  have f2 := blk_frozen hb 2
  have f3 := blk_frozen hb 3
  refine skip_ (w1 := (((W.setCell ⟨g, 0, none⟩ (.bool b)).setCell ⟨g, 1, none⟩ (.slice A1 n1 c1)).setCell ⟨g, 2, none⟩ (.slice A2 n2 c2)).setCell ⟨g, 3, none⟩ (.slice A3 n3 c3)) hw hN ?_ ?_
  · unfold execOp
    rw [hop]
    simp only [hp, hq]
    clear h hp hq hop hN hw hb
    go_simp
  · refine h _ ?_ ?_ ?_
    · have y0 := blk_set hb 0 (.bool b)
      have y1 := blk_set y0 1 (.slice A1 n1 c1)
      have y2 := blk_set y1 2 (.slice A2 n2 c2)
      have y3 := blk_set y2 3 (.slice A3 n3 c3)
      simpa using y3
    · intro k hk
      rw [Below.heap_setCell _ _ _ _ hk, Below.heap_setCell _ _ _ _ hk, Below.heap_setCell _ _ _ _ hk, Below.heap_setCell _ _ _ _ hk]
    · intro B w0 hB h0
      exact (((h0.setCell hB _).setCell hB _).setCell hB _).setCell hB _
theorem R_from {α : Type} {d : Kd α} {e : Nat} {w : World} {base : Nat} {v : Value} {xs : List α} (h : d.R e w base (fun _ => True) v xs) : d.R e w base (fun k => base ≤ k) v xs := by
  have := Kd.R_bound h
  exact Kd.R_mono this (fun k hk => hk.2.1)
theorem concat28 {w2 W : World} {g : Nat} {A1 : Option Addr} {c1 : Nat} {lc : List S43} {A2 : Option Addr} {c2 : Nat} {lk : List ByteArray} {A3 : Option Addr} {c3 : Nat} {ld : List Int} {B1 : Option Addr} {e1 : Nat} {rc : List S43} {B2 : Option Addr} {e2 : Nat} {rk : List ByteArray} {B3 : Option Addr} {e3 : Nat} {rd : List Int}
    (hb : Below w2.heap.size w2 W) (hg : W.heap[g]? = some (.cells #[.slice A1 lc.length c1, .slice B1 rc.length e1] 22 (0, 0))) (hL : Hid (Node w2 A1 c1 lc A2 c2 lk A3 c3 ld)) (hR : Hid (Node w2 B1 e1 rc B2 e2 rk B3 e3 rd)) (n1 : lc.length ≤ 255) (n2 : rc.length ≤ 255) :
    Calls Try.prog 28 #[.slice (some ⟨g, 0, none⟩) 2 2] W fun e w' => ∃ v0_ : Value, e = .returned (v0_) ∧ Hid (Kd.R k43 43 w' w2.heap.size (fun k => W.heap.size ≤ k) v0_ (lc ++ rc)) ∧ Hid (Below w2.heap.size w2 w') ∧ Below W.heap.size W w' := by
  refine (concat_cells A1 c1 lc B1 e1 rc hg (Kd.C_below hL.out.r1 hb) hL.out.l1 (Kd.C_below hR.out.r1 hb) hR.out.l1 (by omega) (by omega)).mono ?_
  rintro e w1 ⟨v, rfl, hr, hb1⟩
  exact ⟨v, rfl, Lib.hid (Kd.R_lower (R_from hr) hb.size), Lib.hid (below_then hb hb.size hb1), hb1⟩
theorem R_at {α : Type} {d : Kd α} {e : Nat} {w W : World} {base n0 g : Nat} {v : Value} {xs : List α} (h : d.R e w base (fun k => n0 ≤ k) v xs) (hg : g < n0 ∨ w.heap.size ≤ g) (hk : ∀ k, k < w.heap.size → k ≠ g → W.heap[k]? = w.heap[k]?) : d.R e W base (fun k => k ≠ g) v xs :=
  Kd.R_mono (Kd.R_step (Kd.R_bound h) (fun k h1 h2 => hk k h2 (by rcases hg with hg | hg <;> omega))) (fun k h1 => by rcases hg with hg | hg <;> omega)
def J3 (w : World) (o3 o4 o6 : Obj) (leaf : Bool) (g : Nat) (v1 : Value) (xs : List S43) (W : World) : Prop :=
  Jst w o3 o4 o6 W ∧ W.heap[g]? = some (.cells #[.bool leaf, v1, .slice none 0 0, .slice none 0 0] 26 (0, 0)) ∧ w.heap.size + 3 ≤ g ∧ Kd.R k43 43 W (w.heap.size + 3) (fun k => k ≠ g) v1 xs
theorem J3.new {w w2 w3 : World} {o3 o4 o6 : Obj} {leaf : Bool} {n0 n : Nat} {Ao : Option Addr} {co : Nat} {xs : List S43} (hJ : Jst w o3 o4 o6 w2) (hb : Below w2.heap.size w2 w3) (hr : Kd.R k43 43 w3 w2.heap.size (fun k => n0 ≤ k) (.slice Ao xs.length co) xs) (hn : xs.length = n) :
    J3 w o3 o4 o6 leaf w3.heap.size (.slice Ao n co) xs (w3.alloc (.cells #[.bool leaf, .slice Ao n co, .slice none 0 0, .slice none 0 0] 26)) := by
  subst hn
  have h1 := hJ.2.2.2.2
  have h2 := hb.size
  exact ⟨hJ.below (below_alloc hb _), heap_alloc_new _ _, by omega, Kd.R_lower (R_at hr (.inr (Nat.le_refl _)) (fun k hk _ => Below.heap_alloc _ _ k hk)) (by omega)⟩
theorem J3.old {w w2 w3 : World} {o3 o4 o6 : Obj} {leaf : Bool} {n0 n g : Nat} {Ao : Option Addr} {co : Nat} {xs : List S43} {b0 : Bool} {u1 u2 u3 : Value} (hJ : Jst w o3 o4 o6 w2) (hb : Below w2.heap.size w2 w3) (hr : Kd.R k43 43 w3 w2.heap.size (fun k => n0 ≤ k) (.slice Ao xs.length co) xs) (hn : xs.length = n)
    (hg : w2.heap.size ≤ g) (hgn : g < n0) (hx : w3.heap[g]? = some (.cells #[.bool b0, u1, u2, u3] 26 (0, 0))) :
    J3 w o3 o4 o6 leaf g (.slice Ao n co) xs ((((w3.setCell ⟨g, 0, none⟩ (.bool leaf)).setCell ⟨g, 1, none⟩ (.slice Ao n co)).setCell ⟨g, 2, none⟩ (.slice none 0 0)).setCell ⟨g, 3, none⟩ (.slice none 0 0)) := by
  subst hn
  have h1 := hJ.2.2.2.2
  have h2 := hb.size
  have y0 := blk_set hx 0 (.bool leaf)
  have y1 := blk_set y0 1 (.slice Ao xs.length co)
  have y2 := blk_set y1 2 (.slice none 0 0)
  have y3 := blk_set y2 3 (.slice none 0 0)
  refine ⟨hJ.below ((((hb.setCell hg _).setCell hg _).setCell hg _).setCell hg _), by simpa using y3, by omega, Kd.R_lower (R_at hr (.inl hgn) (fun k _ hk => ?_)) (by omega)⟩
  rw [Below.heap_setCell _ _ _ _ hk, Below.heap_setCell _ _ _ _ hk, Below.heap_setCell _ _ _ _ hk, Below.heap_setCell _ _ _ _ hk]
/-- One field of the made node is written (behind a call). -/
theorem R_past {α : Type} {d : Kd α} {e : Nat} {wc w4 : World} {base g j : Nat} {u v : Value} {xs : List α} (h : d.R e wc base (fun k => k ≠ g) v xs) (hb : Below wc.heap.size wc w4) : d.R e (w4.setCell ⟨g, j, none⟩ u) base (fun k => k ≠ g) v xs :=
  Kd.R_step h (fun k h1 h2 => (Below.heap_setCell _ _ _ _ h1).trans (hb.block k h2))
theorem R_put {α : Type} {d : Kd α} {e : Nat} {w4 : World} {base n0 g j : Nat} {u v : Value} {xs : List α} (h : d.R e w4 n0 (fun _ => True) v xs) (hg : g < n0) (hbase : base ≤ n0) : d.R e (w4.setCell ⟨g, j, none⟩ u) base (fun k => k ≠ g) v xs :=
  Kd.R_lower (R_at (R_from h) (.inl hg) (fun k _ hk => Below.heap_setCell _ _ _ _ hk)) hbase
theorem Jst.put {w W : World} {o3 o4 o6 : Obj} (h : Jst w o3 o4 o6 W) {g j : Nat} (u : Value) (hg : w.heap.size + 3 ≤ g) : Jst w o3 o4 o6 (W.setCell ⟨g, j, none⟩ u) := by
  obtain ⟨h1, h2, h3, h4, h5⟩ := h
  refine ⟨?_, ?_, ?_, h4.setCell (by show w.heap.size ≤ g; omega) u, by simpa [World.setCell] using h5⟩
  · exact (Below.heap_setCell _ _ _ _ (by show _ ≠ g; omega)).trans h1
  · exact (Below.heap_setCell _ _ _ _ (by show _ ≠ g; omega)).trans h2
  · exact (Below.heap_setCell _ _ _ _ (by show _ ≠ g; omega)).trans h3
/-- The made node, whole. -/
structure J7 (w : World) (o3 o4 o6 : Obj) (leaf : Bool) (g : Nat) (A1 : Option Addr) (n1 c1 : Nat) (xs : List S43) (A2 : Option Addr) (n2 c2 : Nat) (ks : List ByteArray) (A3 : Option Addr) (n3 c3 : Nat) (ds : List Int) (W : World) : Prop where
  st : Jst w o3 o4 o6 W
  bx : W.heap[g]? = some (.cells #[.bool leaf, .slice A1 n1 c1, .slice A2 n2 c2, .slice A3 n3 c3] 26 (0, 0))
  le : w.heap.size + 3 ≤ g
  r1 : Kd.R k43 43 W (w.heap.size + 3) (fun k => k ≠ g) (.slice A1 n1 c1) xs
  r2 : Kd.R Kd.string 9 W (w.heap.size + 3) (fun k => k ≠ g) (.slice A2 n2 c2) ks
  r3 : Kd.R (Kd.int .i64) 3 W (w.heap.size + 3) (fun k => k ≠ g) (.slice A3 n3 c3) ds
theorem J7.below {w : World} {o3 o4 o6 : Obj} {leaf : Bool} {g : Nat} {A1 : Option Addr} {n1 c1 : Nat} {xs : List S43} {A2 : Option Addr} {n2 c2 : Nat} {ks : List ByteArray} {A3 : Option Addr} {n3 c3 : Nat} {ds : List Int} {W W' : World} (h : J7 w o3 o4 o6 leaf g A1 n1 c1 xs A2 n2 c2 ks A3 n3 c3 ds W) (hb : Below W.heap.size W W') : J7 w o3 o4 o6 leaf g A1 n1 c1 xs A2 n2 c2 ks A3 n3 c3 ds W' :=
  ⟨h.st.below hb, blk_below h.bx hb, h.le, Kd.R_below h.r1 hb, Kd.R_below h.r2 hb, Kd.R_below h.r3 hb⟩
theorem J7.check {w : World} {o3 o4 o6 : Obj} {leaf : Bool} {g : Nat} {A1 : Option Addr} {n1 c1 : Nat} {xs : List S43} {A2 : Option Addr} {n2 c2 : Nat} {ks : List ByteArray} {A3 : Option Addr} {n3 c3 : Nat} {ds : List Int} {W : World} (h : J7 w o3 o4 o6 leaf g A1 n1 c1 xs A2 n2 c2 ks A3 n3 c3 ds W) (hc : checkB leaf xs ks ds = true) :
    Calls Try.prog 15 #[.agg #[.bool leaf, .slice A1 n1 c1, .slice A2 n2 c2, .slice A3 n3 c3]] W fun e w' => e = .returned (.int .i64 0) ∧ Below W.heap.size W w' := by
  obtain ⟨e1, l1, q1⟩ := Kd.R_reads' h.r1
  obtain ⟨e2, l2, q2⟩ := Kd.R_reads' h.r2
  obtain ⟨e3, l3, q3⟩ := Kd.R_reads' h.r3
  subst e1 e2 e3
  exact check_call ⟨q1, l1, q2, l2, q3, l3⟩ hc
theorem J7.result {w : World} {o3 o4 o6 : Obj} {leaf : Bool} {g : Nat} {A1 : Option Addr} {n1 c1 : Nat} {xs : List S43} {A2 : Option Addr} {n2 c2 : Nat} {ks : List ByteArray} {A3 : Option Addr} {n3 c3 : Nat} {ds : List Int} {W W' : World} (h : J7 w o3 o4 o6 leaf g A1 n1 c1 xs A2 n2 c2 ks A3 n3 c3 ds W)
    (hk : ∀ k, k ≠ w.heap.size + 2 → W'.heap[k]? = W.heap[k]?) (hs : Below w.heap.size w W') :
    ∃ v1 v2 v3 : Value, Ending.returned (.tuple #[.agg #[.bool leaf, .slice A1 n1 c1, .slice A2 n2 c2, .slice A3 n3 c3], .int .i64 0]) = .returned (.tuple #[.agg #[.bool leaf, v1, v2, v3], .int .i64 0]) ∧ Kd.R k43 43 W' w.heap.size (fun _ => True) v1 xs ∧ Kd.R Kd.string 9 W' w.heap.size (fun _ => True) v2 ks ∧ Kd.R (Kd.int .i64) 3 W' w.heap.size (fun _ => True) v3 ds ∧ Below w.heap.size w W' :=
  ⟨_, _, _, rfl, Kd.R_lower (Kd.R_mono (Kd.R_step (Kd.R_bound h.r1) (fun k h1 _ => hk k (by omega))) (fun _ _ => trivial)) (by omega), Kd.R_lower (Kd.R_mono (Kd.R_step (Kd.R_bound h.r2) (fun k h1 _ => hk k (by omega))) (fun _ _ => trivial)) (by omega), Kd.R_lower (Kd.R_mono (Kd.R_step (Kd.R_bound h.r3) (fun k h1 _ => hk k (by omega))) (fun _ _ => trivial)) (by omega), hs⟩
set_option maxHeartbeats 4000000 in
set_option maxRecDepth 100000 in
theorem join_ok (leaf : Bool) (A1 : Option Addr) (c1 : Nat) (lc : List S43) (A2 : Option Addr) (c2 : Nat) (lk : List ByteArray) (A3 : Option Addr) (c3 : Nat) (ld : List Int) (B1 : Option Addr) (e1 : Nat) (rc : List S43) (B2 : Option Addr) (e2 : Nat) (rk : List ByteArray) (B3 : Option Addr) (e3 : Nat) (rd : List Int) (key : ByteArray) (w : World)
    (hL : Node w A1 c1 lc A2 c2 lk A3 c3 ld) (hR : Node w B1 e1 rc B2 e2 rk B3 e3 rd) (h1 : checkB leaf lc lk ld = true) (h2 : checkB leaf rc rk rd = true) (h3 : checkB leaf (lc ++ rc) (if leaf then [] else lk ++ key :: rk) (if leaf then [] else ld ++ rd) = true) :
    Calls Try.prog 11 #[.agg #[.bool leaf, .slice A1 lc.length c1, .slice A2 lk.length c2, .slice A3 ld.length c3], .agg #[.bool leaf, .slice B1 rc.length e1, .slice B2 rk.length e2, .slice B3 rd.length e3], .string key] w fun e w' => ∃ v1 v2 v3 : Value, e = .returned (.tuple #[.agg #[.bool leaf, v1, v2, v3], .int .i64 0]) ∧ Kd.R k43 43 w' w.heap.size (fun _ => True) v1 (lc ++ rc) ∧ Kd.R Kd.string 9 w' w.heap.size (fun _ => True) v2 (if leaf then [] else lk ++ key :: rk) ∧ Kd.R (Kd.int .i64) 3 w' w.heap.size (fun _ => True) v3 (if leaf then [] else ld ++ rd) ∧ Below w.heap.size w w' := by
  have HB0 := Lib.hid ((((Below.refl w.heap.size w).alloc (Nat.le_refl _) (.cells #[.bool leaf, .slice A1 lc.length c1, .slice A2 lk.length c2, .slice A3 ld.length c3] 26)).alloc (by simp) (.cells #[.bool leaf, .slice B1 rc.length e1, .slice B2 rk.length e2, .slice B3 rd.length e3] 26)).alloc (by simp; omega) (.cells #[.bool false, .slice none 0 0, .slice none 0 0, .slice none 0 0] 26))
  have HJ0 := Lib.hid (Jst.mk0 w (.cells #[.bool leaf, .slice A1 lc.length c1, .slice A2 lk.length c2, .slice A3 ld.length c3] 26) (.cells #[.bool leaf, .slice B1 rc.length e1, .slice B2 rk.length e2, .slice B3 rd.length e3] 26) (.cells #[.bool false, .slice none 0 0, .slice none 0 0, .slice none 0 0] 26))
  have HL0 := Lib.hid hL
  have HR0 := Lib.hid hR
  have HL := Lib.hid (hL.below HB0.out)
  have HR := Lib.hid (hR.below HB0.out)
  have H1 := Lib.hid h1
  have H2 := Lib.hid h2
  have H3 := Lib.hid h3
  clear hL hR h1 h2 h3
  go_enter Try.func11, Try.ntmps11
  go_upto_region 3 with (first | (go_at_call 15; (with_reducible refine (check_call (leaf := leaf) (cells := lc) (keys := lk) (kids := ld) HL.out H1.out).mono ?_); rintro e w1 ⟨rfl, hb1⟩; have HJ1 := Lib.hid (HJ0.out.below hb1); have HB1 := Lib.hid hb1; clear hb1; have k130 : w1.cell? ⟨w.heap.size, 0, none⟩ = some (.bool leaf) := (blk_cell HJ1.out.1 0).trans rfl; have k131 : w1.cell? ⟨w.heap.size, 1, none⟩ = some (.slice A1 lc.length c1) := (blk_cell HJ1.out.1 1).trans rfl; have k132 : w1.cell? ⟨w.heap.size, 2, none⟩ = some (.slice A2 lk.length c2) := (blk_cell HJ1.out.1 2).trans rfl; have k133 : w1.cell? ⟨w.heap.size, 3, none⟩ = some (.slice A3 ld.length c3) := (blk_cell HJ1.out.1 3).trans rfl; have k140 : w1.cell? ⟨w.heap.size + 1, 0, none⟩ = some (.bool leaf) := (blk_cell HJ1.out.2.1 0).trans rfl; have k141 : w1.cell? ⟨w.heap.size + 1, 1, none⟩ = some (.slice B1 rc.length e1) := (blk_cell HJ1.out.2.1 1).trans rfl; have k142 : w1.cell? ⟨w.heap.size + 1, 2, none⟩ = some (.slice B2 rk.length e2) := (blk_cell HJ1.out.2.1 2).trans rfl; have k143 : w1.cell? ⟨w.heap.size + 1, 3, none⟩ = some (.slice B3 rd.length e3) := (blk_cell HJ1.out.2.1 3).trans rfl) | (go_at_call 15; (with_reducible refine (check_call (leaf := leaf) (cells := rc) (keys := rk) (kids := rd) (HR.out.below HB1.out) H2.out).mono ?_); rintro e w2 ⟨rfl, hb2⟩; have HJ2 := Lib.hid (HJ1.out.below hb2); have HL2 := Lib.hid ((HL.out.below HB1.out).below hb2); have HR2 := Lib.hid ((HR.out.below HB1.out).below hb2); clear hb2; have k230 : w2.cell? ⟨w.heap.size, 0, none⟩ = some (.bool leaf) := (blk_cell HJ2.out.1 0).trans rfl; have k231 : w2.cell? ⟨w.heap.size, 1, none⟩ = some (.slice A1 lc.length c1) := (blk_cell HJ2.out.1 1).trans rfl; have k232 : w2.cell? ⟨w.heap.size, 2, none⟩ = some (.slice A2 lk.length c2) := (blk_cell HJ2.out.1 2).trans rfl; have k233 : w2.cell? ⟨w.heap.size, 3, none⟩ = some (.slice A3 ld.length c3) := (blk_cell HJ2.out.1 3).trans rfl; have k240 : w2.cell? ⟨w.heap.size + 1, 0, none⟩ = some (.bool leaf) := (blk_cell HJ2.out.2.1 0).trans rfl; have k241 : w2.cell? ⟨w.heap.size + 1, 1, none⟩ = some (.slice B1 rc.length e1) := (blk_cell HJ2.out.2.1 1).trans rfl; have k242 : w2.cell? ⟨w.heap.size + 1, 2, none⟩ = some (.slice B2 rk.length e2) := (blk_cell HJ2.out.2.1 2).trans rfl; have k243 : w2.cell? ⟨w.heap.size + 1, 3, none⟩ = some (.slice B3 rd.length e3) := (blk_cell HJ2.out.2.1 3).trans rfl))
  clear HL HR HB1 HJ0 HJ1 HB0 k130 k131 k132 k133 k140 k141 k142 k143
  obtain ⟨c11, _, _, _, _, _⟩ := check_parts H1.out
  obtain ⟨c21, _, _, _, _, _⟩ := check_parts H2.out
  have hz2 := HJ2.out.2.2.2.2
  go_cut [8] (fun v8 wc => ∃ (g : Nat) (Ao : Option Addr) (co : Nat), v8 = .pointer (some ⟨g, 0, none⟩) ∧ Hid (J3 w (.cells #[.bool leaf, .slice A1 lc.length c1, .slice A2 lk.length c2, .slice A3 ld.length c3] 26) (.cells #[.bool leaf, .slice B1 rc.length e1, .slice B2 rk.length e2, .slice B3 rd.length e3] 26) (.cells #[.bool false, .slice none 0 0, .slice none 0 0, .slice none 0 0] 26) leaf g (.slice Ao (lc.length + rc.length) co) (lc ++ rc) wc))
  case first =>
    go_region_held3 (fun w' => w'.cell? ⟨w.heap.size, 0, none⟩ = some (.bool leaf) ∧ w'.cell? ⟨w.heap.size, 1, none⟩ = some (.slice A1 lc.length c1) ∧ w'.cell? ⟨w.heap.size + 1, 1, none⟩ = some (.slice B1 rc.length e1))
      (first
        | (refine ⟨?_, ?_, ?_⟩ <;> (refine (World.cell?_setCell_far _ _ _ _ (by dsimp only; omega)).trans ?_) <;> (refine (World.cell?_setCell_far _ _ _ _ (by dsimp only; omega)).trans ?_) <;> (refine (World.cell?_setCell_far _ _ _ _ (by dsimp only; omega)).trans ?_) <;> (refine (World.cell?_setCell_far _ _ _ _ (by dsimp only; omega)).trans ?_) <;> first | assumption | go_keep)
        | go_keep)
      (first
        | (go_at_call 28
           (first | with_reducible refine (concat28 (g := w2.heap.size) ?_ ?_ HL2 HR2 c11 c21).mono ?_ | with_reducible refine (concat28 (g := w2.heap.size + 1) ?_ ?_ HL2 HR2 c11 c21).mono ?_)
           · repeat (first | exact Below.refl _ _ | apply below_drew1 | apply below_alloc)
           · repeat (with_reducible first | exact blk_newg (by simp; done) | refine blk_drew ?_ | refine blk_alloc ?_ _)
           rintro e w3 ⟨v1, rfl, hr3, hb3, hn3⟩
           obtain ⟨Ao, co, rfl⟩ := Kd.R_slice hr3.out
           have HJ3 := Lib.hid (HJ2.out.below hb3.out)
           have k330 : w3.cell? ⟨w.heap.size, 0, none⟩ = some (.bool leaf) := (blk_cell HJ3.out.1 0).trans rfl; have k331 : w3.cell? ⟨w.heap.size, 1, none⟩ = some (.slice A1 lc.length c1) := (blk_cell HJ3.out.1 1).trans rfl; have k332 : w3.cell? ⟨w.heap.size, 2, none⟩ = some (.slice A2 lk.length c2) := (blk_cell HJ3.out.1 2).trans rfl; have k333 : w3.cell? ⟨w.heap.size, 3, none⟩ = some (.slice A3 ld.length c3) := (blk_cell HJ3.out.1 3).trans rfl; have k340 : w3.cell? ⟨w.heap.size + 1, 0, none⟩ = some (.bool leaf) := (blk_cell HJ3.out.2.1 0).trans rfl; have k341 : w3.cell? ⟨w.heap.size + 1, 1, none⟩ = some (.slice B1 rc.length e1) := (blk_cell HJ3.out.2.1 1).trans rfl; have k342 : w3.cell? ⟨w.heap.size + 1, 2, none⟩ = some (.slice B2 rk.length e2) := (blk_cell HJ3.out.2.1 2).trans rfl; have k343 : w3.cell? ⟨w.heap.size + 1, 3, none⟩ = some (.slice B3 rd.length e3) := (blk_cell HJ3.out.2.1 3).trans rfl
           have hkeep := fun (g : Nat) (o : Obj) (h : _) => blk_below (g := g) (o := o) h hn3
           (first
             | (have hbx := hkeep (w2.heap.size) (.cells #[.bool false, .slice none 0 0, .slice none 0 0, .slice none 0 0] 26) ?hx
                case hx => repeat (with_reducible first | exact heap_alloc_new _ _ | (refine blk_newg ?_; simp; done) | refine blk_drew ?_ | refine blk_alloc ?_ _)
                have bx0 := (blk_cell hbx 0).trans rfl
                have bx1 := (blk_cell hbx 1).trans rfl
                have bx2 := (blk_cell hbx 2).trans rfl
                have bx3 := (blk_cell hbx 3).trans rfl
                have fx0 := blk_frozen hbx 0
                have fx1 := blk_frozen hbx 1
                have fx2 := blk_frozen hbx 2
                have fx3 := blk_frozen hbx 3)
             | (have hbx := hkeep (w2.heap.size + 1) (.cells #[.bool false, .slice none 0 0, .slice none 0 0, .slice none 0 0] 26) ?hx
                case hx => repeat (with_reducible first | exact heap_alloc_new _ _ | (refine blk_newg ?_; simp; done) | refine blk_drew ?_ | refine blk_alloc ?_ _)
                have bx0 := (blk_cell hbx 0).trans rfl
                have bx1 := (blk_cell hbx 1).trans rfl
                have bx2 := (blk_cell hbx 2).trans rfl
                have bx3 := (blk_cell hbx 3).trans rfl
                have fx0 := blk_frozen hbx 0
                have fx1 := blk_frozen hbx 1
                have fx2 := blk_frozen hbx 2
                have fx3 := blk_frozen hbx 3)
             | skip)
           clear hkeep
           replace hn3 := hn3.size
           simp only [World.size_alloc, World.size_drew] at hn3))
    all_goals go_wp2
    all_goals go_meet
    all_goals (case rel =>
      refine ⟨_, Ao, co, rfl, ?_⟩
      refine Lib.hid ?_
      first
        | (with_reducible refine J3.new HJ2.out hb3.out hr3.out ?_
           exact List.length_append)
        | (with_reducible refine J3.old HJ2.out hb3.out hr3.out ?_ ?_ ?_ hbx
           · exact List.length_append
           · omega
           · simp only [World.size_alloc, World.size_drew]
             omega))
  case rest =>
    obtain ⟨g, Ao, co, rfl, HJ3⟩ := hcut
    clear HJ2 HL2 HR2 k230 k231 k232 k233 k240 k241 k242 k243 hz2
    have HJc := Lib.hid HJ3.out.1
    have kc30 : wc.cell? ⟨w.heap.size, 0, none⟩ = some (.bool leaf) := (blk_cell HJc.out.1 0).trans rfl; have kc31 : wc.cell? ⟨w.heap.size, 1, none⟩ = some (.slice A1 lc.length c1) := (blk_cell HJc.out.1 1).trans rfl; have kc32 : wc.cell? ⟨w.heap.size, 2, none⟩ = some (.slice A2 lk.length c2) := (blk_cell HJc.out.1 2).trans rfl; have kc33 : wc.cell? ⟨w.heap.size, 3, none⟩ = some (.slice A3 ld.length c3) := (blk_cell HJc.out.1 3).trans rfl; have kc40 : wc.cell? ⟨w.heap.size + 1, 0, none⟩ = some (.bool leaf) := (blk_cell HJc.out.2.1 0).trans rfl; have kc41 : wc.cell? ⟨w.heap.size + 1, 1, none⟩ = some (.slice B1 rc.length e1) := (blk_cell HJc.out.2.1 1).trans rfl; have kc42 : wc.cell? ⟨w.heap.size + 1, 2, none⟩ = some (.slice B2 rk.length e2) := (blk_cell HJc.out.2.1 2).trans rfl; have kc43 : wc.cell? ⟨w.heap.size + 1, 3, none⟩ = some (.slice B3 rd.length e3) := (blk_cell HJc.out.2.1 3).trans rfl
    have hgl := HJ3.out.2.2.1
    have hgx := HJ3.out.2.1
    have gx0 := (blk_cell hgx 0).trans rfl
    have gx1 := (blk_cell hgx 1).trans rfl
    have gx2 := (blk_cell hgx 2).trans rfl
    have gx3 := (blk_cell hgx 3).trans rfl
    have fg0 := blk_frozen hgx 0
    have fg1 := blk_frozen hgx 1
    have fg2 := blk_frozen hgx 2
    have fg3 := blk_frozen hgx 3
    clear hgx
    cases leaf
    · have kal : ∀ o, (wc.alloc o).cell? ⟨w.heap.size + 1, 2, none⟩ = some (.slice B2 rk.length e2) := fun o => pw_cell_below (below_alloc (Below.refl _ _) o) kc42
      have HBc := Lib.hid (show Below w.heap.size w wc from HJc.out.2.2.2.1)
      go_upto_region 6 with (first
        | (go_at_call 29
           (with_reducible refine (concat_strs (g := wc.heap.size + 1) (m := wc.heap.size) A2 c2 lk key B2 e2 rk ?_ ?_ (Kd.C_below HL0.out.r2 (below_alloc (below_alloc HBc.out _) _)) HL0.out.l2 (Kd.C_below HR0.out.r2 (below_alloc (below_alloc HBc.out _) _)) HR0.out.l2 ?_ ?_).mono ?_)
           · exact blk_newg (by simp)
           · exact blk_alloc (heap_alloc_new _ _) _
           · have := check_parts H1.out
             omega
           · have := check_parts H2.out
             omega
           rintro e w4 ⟨v2, rfl, hr4, hb4⟩
           obtain ⟨Ao2, co2, rfl⟩ := Kd.R_slice hr4
           have HR4 := Lib.hid hr4
           have HW4 := Lib.hid (below_then (below_alloc (below_alloc (Below.refl wc.heap.size wc) _) _) (by simp; omega) hb4)
           clear hr4 hb4
           have hgy := blk_below HJ3.out.2.1 HW4.out
           have gy2 := (blk_cell hgy 2).trans rfl
           have fy2 := blk_frozen hgy 2
           have HGY := Lib.hid hgy
           clear hgy))
      obtain ⟨n2, hn2⟩ : ∃ n, n = lk.length + (rk.length + 1) := ⟨_, rfl⟩
      rw [← hn2]
      have hl2 : (lk ++ key :: rk).length = n2 := by simp [hn2]
      have hgn := blk_lt HJ3.out.2.1
      have hws := HBc.out.size
      have HR5 := Lib.hid (R_put (g := g) (j := 2) (base := w.heap.size + 3) (u := .slice Ao2 n2 co2) HR4.out (by simp; omega) (by simp; omega))
      rw [hl2] at HR5
      clear hn2 hl2
      have HR5' := Lib.hid (R_past (j := 2) (u := .slice Ao2 n2 co2) HJ3.out.2.2.2 HW4.out)
      have HJ5 := Lib.hid ((HJc.out.below HW4.out).put (j := 2) (.slice Ao2 n2 co2) hgl)
      have HG5 := Lib.hid (blk_put HGY.out 2 (.slice Ao2 n2 co2) rfl)
      have hgn5 : g < (w4.setCell ⟨g, 2, none⟩ (.slice Ao2 n2 co2)).heap.size := blk_lt HG5.out
      clear gy2 fy2 HGY HW4 HR4 kal
      clear gx0 gx1 gx2 gx3 fg0 fg1 fg2 fg3
      generalize w4.setCell ⟨g, 2, none⟩ (.slice Ao2 n2 co2) = w5 at HR5 HR5' HJ5 HG5 hgn5 ⊢
      have k530 : w5.cell? ⟨w.heap.size, 0, none⟩ = some (.bool false) := (blk_cell HJ5.out.1 0).trans rfl; have k531 : w5.cell? ⟨w.heap.size, 1, none⟩ = some (.slice A1 lc.length c1) := (blk_cell HJ5.out.1 1).trans rfl; have k532 : w5.cell? ⟨w.heap.size, 2, none⟩ = some (.slice A2 lk.length c2) := (blk_cell HJ5.out.1 2).trans rfl; have k533 : w5.cell? ⟨w.heap.size, 3, none⟩ = some (.slice A3 ld.length c3) := (blk_cell HJ5.out.1 3).trans rfl; have k540 : w5.cell? ⟨w.heap.size + 1, 0, none⟩ = some (.bool false) := (blk_cell HJ5.out.2.1 0).trans rfl; have k541 : w5.cell? ⟨w.heap.size + 1, 1, none⟩ = some (.slice B1 rc.length e1) := (blk_cell HJ5.out.2.1 1).trans rfl; have k542 : w5.cell? ⟨w.heap.size + 1, 2, none⟩ = some (.slice B2 rk.length e2) := (blk_cell HJ5.out.2.1 2).trans rfl; have k543 : w5.cell? ⟨w.heap.size + 1, 3, none⟩ = some (.slice B3 rd.length e3) := (blk_cell HJ5.out.2.1 3).trans rfl
      have HB5 := Lib.hid (show Below w.heap.size w w5 from HJ5.out.2.2.2.1)
      go_upto_region 7 with (first
        | (go_at_call 30
           (with_reducible refine (concat_ints (g := w5.heap.size) A3 c3 ld B3 e3 rd (heap_alloc_new _ _) (Kd.C_below HL0.out.r3 (below_alloc HB5.out _)) HL0.out.l3 (Kd.C_below HR0.out.r3 (below_alloc HB5.out _)) HR0.out.l3 ?_ ?_).mono ?_)
           · have := check_parts H1.out
             have h9 := this.2.2.1
             unfold shapeB at h9
             simp at h9
             omega
           · have := check_parts H2.out
             have h9 := this.2.2.1
             unfold shapeB at h9
             simp at h9
             omega
           rintro e w6 ⟨v3, rfl, hr6, hb6⟩
           obtain ⟨Ao3, co3, rfl⟩ := Kd.R_slice hr6
           have HR6 := Lib.hid hr6
           have HW6 := Lib.hid (below_then (below_alloc (Below.refl w5.heap.size w5) _) (by simp) hb6)
           clear hr6 hb6
           have hgz := blk_below HG5.out HW6.out
           have gz3 := (blk_cell hgz 3).trans rfl
           have fz3 := blk_frozen hgz 3
           have HGZ := Lib.hid hgz
           clear hgz))
      obtain ⟨n3, hn3⟩ : ∃ n, n = ld.length + rd.length := ⟨_, rfl⟩
      rw [← hn3]
      have hl3 : (ld ++ rd).length = n3 := by simp [hn3]
      have hws5 := HB5.out.size
      have HR7 := Lib.hid (R_put (g := g) (j := 3) (base := w.heap.size + 3) (u := .slice Ao3 n3 co3) HR6.out (by simp; omega) (by have := HJ5.out.2.2.2.2; simp; omega))
      rw [hl3] at HR7
      clear hn3 hl3
      have HG7 := Lib.hid (blk_put HGZ.out 3 (.slice Ao3 n3 co3) rfl)
      have HJ7 : Hid (J7 w _ _ (.cells #[.bool false, .slice none 0 0, .slice none 0 0, .slice none 0 0] 26) false g Ao (lc.length + rc.length) co (lc ++ rc) Ao2 n2 co2 (lk ++ key :: rk) Ao3 n3 co3 (ld ++ rd) (w6.setCell ⟨g, 3, none⟩ (.slice Ao3 n3 co3))) :=
        Lib.hid ⟨(HJ5.out.below HW6.out).put (j := 3) (.slice Ao3 n3 co3) hgl, HG7.out, hgl, R_past HR5'.out HW6.out, R_past HR5.out HW6.out, HR7.out⟩
      clear gz3 fz3 HGZ HW6 HR6 HR7 HG7 HR5 HR5' HG5 HJ5 HJc
      generalize w6.setCell ⟨g, 3, none⟩ (.slice Ao3 n3 co3) = w7 at HJ7 ⊢
      clear k530 k531 k532 k533 k540 k541 k542 k543 kc30 kc31 kc32 kc33 kc40 kc41 kc42 kc43
      have HC7 : Hid (checkB false (lc ++ rc) (lk ++ key :: rk) (ld ++ rd) = true) := Lib.hid (by simpa using H3.out)
      have q0 := (blk_cell HJ7.out.bx 0).trans rfl
      have q1 := (blk_cell HJ7.out.bx 1).trans rfl
      have q2 := (blk_cell HJ7.out.bx 2).trans rfl
      have q3 := (blk_cell HJ7.out.bx 3).trans rfl
      go_wp2_with (first
        | (go_at_call 15
           (with_reducible refine (HJ7.out.check HC7.out).mono ?_)
           rintro e w8 ⟨rfl, hb8⟩
           have HJ8 := Lib.hid (HJ7.out.below hb8)
           clear hb8
           have p0 := (blk_cell HJ8.out.bx 0).trans rfl
           have p1 := (blk_cell HJ8.out.bx 1).trans rfl
           have p2 := (blk_cell HJ8.out.bx 2).trans rfl
           have p3 := (blk_cell HJ8.out.bx 3).trans rfl
           have r0 := (blk_cell HJ8.out.st.2.2.1 0).trans rfl
           have r1 := (blk_cell HJ8.out.st.2.2.1 1).trans rfl
           have r2 := (blk_cell HJ8.out.st.2.2.1 2).trans rfl
           have r3 := (blk_cell HJ8.out.st.2.2.1 3).trans rfl
           have rf0 := blk_frozen HJ8.out.st.2.2.1 0
           have rf1 := blk_frozen HJ8.out.st.2.2.1 1
           have rf2 := blk_frozen HJ8.out.st.2.2.1 2
           have rf3 := blk_frozen HJ8.out.st.2.2.1 3))
      have hz8 := HJ8.out.st.2.2.2.2
      have y0 := blk_put HJ8.out.st.2.2.1 0 (.bool false) rfl
      have y1 := blk_put y0 1 (.slice Ao (lc.length + rc.length) co) rfl
      have y2 := blk_put y1 2 (.slice Ao2 n2 co2) rfl
      have y3 := blk_put y2 3 (.slice Ao3 n3 co3) rfl
      refine bodyPost_ret (results_ct rfl _ _ (w.heap.size + 1 + 1) 26 #[.bool false, .slice Ao (lc.length + rc.length) co, .slice Ao2 n2 co2, .slice Ao3 n3 co3] (0, 0) _ rfl y3 Try.underlying26 rfl (by kernel_rfl)) rfl ?_
      refine J7.result HJ8.out ?_ ?_
      · intro k hk
        rw [Below.heap_setCell _ _ _ _ hk, Below.heap_setCell _ _ _ _ hk, Below.heap_setCell _ _ _ _ hk, Below.heap_setCell _ _ _ _ hk]
      · have h0 := HJ8.out.st.2.2.2.1
        exact (((h0.setCell (by show _ ≤ w.heap.size + 1 + 1; omega) _).setCell (by show _ ≤ w.heap.size + 1 + 1; omega) _).setCell (by show _ ≤ w.heap.size + 1 + 1; omega) _).setCell (by show _ ≤ w.heap.size + 1 + 1; omega) _
    · go_upto_region 7 with fail
      have HC7 : Hid (checkB true (lc ++ rc) [] [] = true) := Lib.hid (by simpa using H3.out)
      have HJ7 : Hid (J7 w _ _ (.cells #[.bool false, .slice none 0 0, .slice none 0 0, .slice none 0 0] 26) true g Ao (lc.length + rc.length) co (lc ++ rc) none 0 0 [] none 0 0 [] wc) :=
        Lib.hid ⟨HJc.out, HJ3.out.2.1, hgl, HJ3.out.2.2.2, Kd.R_nil _ _ _ _ _, Kd.R_nil _ _ _ _ _⟩
      clear HJc gx0 gx1 gx2 gx3 fg0 fg1 fg2 fg3 kc30 kc31 kc32 kc33 kc40 kc41 kc42 kc43
      have q0 := (blk_cell HJ7.out.bx 0).trans rfl
      have q1 := (blk_cell HJ7.out.bx 1).trans rfl
      have q2 := (blk_cell HJ7.out.bx 2).trans rfl
      have q3 := (blk_cell HJ7.out.bx 3).trans rfl
      go_wp2_with (first
        | (go_at_call 15
           (with_reducible refine (HJ7.out.check HC7.out).mono ?_)
           rintro e w8 ⟨rfl, hb8⟩
           have HJ8 := Lib.hid (HJ7.out.below hb8)
           clear hb8
           have p0 := (blk_cell HJ8.out.bx 0).trans rfl
           have p1 := (blk_cell HJ8.out.bx 1).trans rfl
           have p2 := (blk_cell HJ8.out.bx 2).trans rfl
           have p3 := (blk_cell HJ8.out.bx 3).trans rfl
           have r0 := (blk_cell HJ8.out.st.2.2.1 0).trans rfl
           have r1 := (blk_cell HJ8.out.st.2.2.1 1).trans rfl
           have r2 := (blk_cell HJ8.out.st.2.2.1 2).trans rfl
           have r3 := (blk_cell HJ8.out.st.2.2.1 3).trans rfl
           have rf0 := blk_frozen HJ8.out.st.2.2.1 0
           have rf1 := blk_frozen HJ8.out.st.2.2.1 1
           have rf2 := blk_frozen HJ8.out.st.2.2.1 2
           have rf3 := blk_frozen HJ8.out.st.2.2.1 3))
      have hz8 := HJ8.out.st.2.2.2.2
      have y0 := blk_put HJ8.out.st.2.2.1 0 (.bool true) rfl
      have y1 := blk_put y0 1 (.slice Ao (lc.length + rc.length) co) rfl
      have y2 := blk_put y1 2 (.slice none 0 0) rfl
      have y3 := blk_put y2 3 (.slice none 0 0) rfl
      refine bodyPost_ret (results_ct rfl _ _ (w.heap.size + 1 + 1) 26 #[.bool true, .slice Ao (lc.length + rc.length) co, .slice none 0 0, .slice none 0 0] (0, 0) _ rfl y3 Try.underlying26 rfl (by kernel_rfl)) rfl ?_
      refine J7.result HJ8.out ?_ ?_
      · intro k hk
        rw [Below.heap_setCell _ _ _ _ hk, Below.heap_setCell _ _ _ _ hk, Below.heap_setCell _ _ _ _ hk, Below.heap_setCell _ _ _ _ hk]
      · have h0 := HJ8.out.st.2.2.2.1
        exact (((h0.setCell (by show _ ≤ w.heap.size + 1 + 1; omega) _).setCell (by show _ ≤ w.heap.size + 1 + 1; omega) _).setCell (by show _ ≤ w.heap.size + 1 + 1; omega) _).setCell (by show _ ≤ w.heap.size + 1 + 1; omega) _
end Go.Proofs.Ytbkcoddcgfclaaa.Ext
