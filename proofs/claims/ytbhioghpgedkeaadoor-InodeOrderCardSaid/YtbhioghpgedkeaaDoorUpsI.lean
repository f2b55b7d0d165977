/- path.Ups and Below, which goes over it (ported from the chapter path). -/
import Derived.RangeFuncNested
import Derived.RangeFuncBound
import Derived.RangeFuncCalls
import Derived.RangeFuncLeaves
import Derived.Shelf.Abstract
import Derived.Shelf.RegionOpen
import Derived.WalkKit
import Derived.OwnWalkIn
import Derived.TacticsInMore
import Derived.LoopNIn
import Derived.LoopIn
import Derived.Lib.Hide
import Derived.Test.YtbhioghpgedkeaaDoorMKpx1
import Derived.Test.YtbhioghpgedkeaaDoorPPu
set_option linter.unusedSimpArgs false
set_option linter.unusedVariables false
namespace Go.Proofs.YtbhioghpgedkeaaDoor.Ups
open Go.RowKit Go.Shelf Go.Proofs.YtbhioghpgedkeaaDoorW.PrintWords Go.Proofs.YtbhioghpgedkeaaDoor.MKp Go.Proofs.YtbhioghpgedkeaaDoor.PP
attribute [local go_sem] Oper.semAt_some

/-- What stands above p, one by one, as Parent tells it (in at most k rounds a call). -/
def Chain (k : Nat) : ByteArray → List ByteArray → Prop
  | p, [] => path_Parent.f p = some (⟨#[]⟩, false)
  | p, x :: r => path_Parent.f p = some (x, true) ∧ x.size < p.size ∧ Chain k x r
def szOf : Value → Nat
  | .string s => s.size
  | _ => 0
def bitOf : Value → Nat
  | .bool true => 1
  | _ => 0
theorem chain_step {k : Nat} {p : ByteArray} {xs : List ByteArray} (h : Chain k p xs) : ∃ x b r, path_Parent.f p = some (x, b) ∧ ((b = false ∧ x.size = 0 ∧ xs = []) ∨ (b = true ∧ x.size < p.size ∧ xs = x :: r ∧ Chain k x r)) := by
  cases xs with
  | nil => exact ⟨⟨#[]⟩, false, [], h, .inl ⟨rfl, rfl, rfl⟩⟩
  | cons x r => exact ⟨x, true, r, h.1, .inr ⟨rfl, h.2.1, rfl, h.2.2⟩⟩

theorem grown_of_below {w w' : World} (h : Below w.heap.size w w') : w.grownBy w' none := ⟨h.os, h.tape, h.output, h.size, fun k hk _ => h.block k hk⟩

set_option maxHeartbeats 2000000 in
theorem ups1_in (n : Nat) (hn : 1 ≤ n) (k : Nat) (l Bn : Nat) (p : ByteArray) (xs : List ByteArray) (J Jx : List ByteArray → World → Prop) (Kp : World → World → Prop) (B0 : Nat) (hJ : AbidesFrom B0 J)
    (hY : ∀ pre x W, J pre W → pre.length < xs.length → YieldAt Fence.wide (n - 1) Tryd.prog l #[.string x] W fun e W' =>
      (e = .returned (.bool true) ∧ J (pre ++ [x]) W' ∧ Kp W W') ∨ (e = .returned (.bool false) ∧ Jx (pre ++ [x]) W'))
    (W : World) (hBn : W.cell? ⟨Bn, 0, none⟩ = some (.string p)) (hc : Chain k p xs) (h0 : J [] W) :
    CallsIn Fence.wide n Tryd.prog 82 #[.func (.yield l) #[] #[], .pointer (some ⟨Bn, 0, none⟩)] W fun e W' => (∃ v, e = .returned v) ∧
      ((∃ ys, ys = xs ∧ J ys W') ∨ (∃ pre, pre <+: xs ∧ Jx pre W')) := by
  have step : ∀ (pre : List ByteArray) (A A' : World), J pre A → Below A.heap.size A A' → J pre A' := fun pre A A' h hb => hJ pre A A' none h (grown_of_below hb) (fun r e => by cases e)
  have STEP := Lib.hid step
  clear step
  refine callsIn_of_wp Tryd.func82 rfl trivial ?_ rfl
  simp only [Tryd.ntmps82, List.size_toArray, List.length_cons, List.length_nil, Nat.reduceAdd, Nat.reduceSub, Array.replicate_succ, Array.replicate_zero, List.push_toArray, List.append_toArray, List.nil_append, List.cons_append]
  obtain ⟨x0, b0, r0, hP0, hC0⟩ := chain_step hc
  gi_wp2_with (refine ⟨trivial, ?_⟩; gi_at_call 83; refine (callsIn_wide.2 (path_Parent.calls p x0 b0 _ hP0)).mono ?_; rintro e w1 ⟨rfl, hb1⟩)
  have h1 := STEP.out [] W w1 h0 hb1
  clear hb1 h0 hBn
  gi_loopw [3, 4] (fun p q wr => ∃ (pre : List ByteArray) (x : ByteArray) (b : Bool) (rest : List ByteArray), p = .string x ∧ q = .bool b ∧ ((b = false ∧ xs = pre) ∨ (b = true ∧ xs = pre ++ x :: rest ∧ Chain k x rest)) ∧ J pre wr)
    (fun p q _ => 2 * szOf p + bitOf q)
  case atStart =>
    refine ⟨[], x0, b0, r0, rfl, rfl, ?_, h1⟩
    rcases hC0 with ⟨rfl, _, h⟩ | ⟨rfl, _, h, h2⟩
    · exact .inl ⟨rfl, h⟩
    · exact .inr ⟨rfl, h, h2⟩
  case round =>
    obtain ⟨pre, x, b, rest, rfl, rfl, hx, hJs⟩ := hrel
    rcases hx with ⟨rfl, hx⟩ | ⟨rfl, hx, hcx⟩
    · gi_wp2
      go_end0
      exact ⟨⟨_, rfl⟩, .inl ⟨pre, hx.symm, hJs⟩⟩
    · obtain ⟨fn, tmps, assign, body, hy, hR⟩ := hY pre x wr hJs (by rw [hx]; simp)
      obtain ⟨x2, b2, r2, hP2, hC2⟩ := chain_step hcx
      gi_wp2
      refine hR.mono ?_
      rintro e W3 (⟨rfl, hJ3, hk3⟩ | ⟨rfl, hJx3⟩)
      · gi_wp2_with (refine ⟨trivial, ?_⟩; gi_at_call 83; refine (callsIn_wide.2 (path_Parent.calls x x2 b2 _ hP2)).mono ?_; rintro e w4 ⟨rfl, hb4⟩)
        have h4 := STEP.out _ W3 w4 hJ3 hb4
        clear hb4 hJ3 hk3
        go_roundw
        case rel =>
          refine ⟨pre ++ [x], x2, b2, r2, rfl, rfl, ?_, h4⟩
          rcases hC2 with ⟨rfl, _, h⟩ | ⟨rfl, _, h, h2⟩
          · exact .inl ⟨rfl, by rw [hx, h]⟩
          · exact .inr ⟨rfl, by rw [hx, h]; simp, h2⟩
        case measure =>
          rcases hC2 with ⟨rfl, h, _⟩ | ⟨rfl, h, _⟩
          · simp only [szOf, bitOf]; omega
          · simp only [szOf, bitOf]; omega
      · gi_wp2
        refine bodyPost_ret (results_none rfl _ _ _) rfl ?_
        exact ⟨⟨_, rfl⟩, .inr ⟨pre ++ [x], ⟨rest, by rw [hx]; simp⟩, hJx3⟩⟩

set_option maxHeartbeats 1000000 in
/-- path.Ups: p is boxed; the function value captures the box. -/
theorem ups_in (n : Nat) (p : ByteArray) (w : World) :
    CallsIn Fence.wide n Tryd.prog 62 #[.string p] w fun e w' => e = .returned (.func (.func 82) #[] #[.pointer (some ⟨w.heap.size, 0, none⟩)]) ∧ w' = w.alloc (.cells #[.string p] 9) := by
  refine callsIn_of_wp Tryd.func62 rfl trivial ?_ rfl
  simp only [Tryd.ntmps62, List.size_toArray, List.length_cons, List.length_nil, Nat.reduceAdd, Nat.reduceSub, Array.replicate_succ, Array.replicate_zero, List.push_toArray, List.append_toArray, List.nil_append, List.cons_append]
  gi_wp2
  go_ret
  exact ⟨rfl, rfl⟩
theorem ups_stops (n : Nat) (hn : 1 ≤ n) (k Bn n₀ : Nat) (p : ByteArray) (xs : List ByteArray) (w : World) (hBn : Bn < w.heap.size) (hn₀ : n₀ ≤ w.heap.size)
    (hc : w.cell? ⟨Bn, 0, none⟩ = some (.string p)) (hL : Chain k p xs) :
    SeqStopsK Fence.wide n Tryd.prog 82 #[.pointer (some ⟨Bn, 0, none⟩)] (fun x : ByteArray => #[Value.string x]) (Below n₀) (fun ys => ys = xs) (fun pre => pre <+: xs) xs.length w := fun l J Jx W hW hJ _ hY h0 =>
  ups1_in n hn k l Bn p xs J Jx (Below n₀) _ hJ hY W ((hW.cell (p := ⟨Bn, 0, none⟩) hBn).trans hc) hL h0

theorem tol_inj {a b : ByteArray} (h : a.toList = b.toList) : a = b := by
  rw [ByteArray.toList_eq, ByteArray.toList_eq] at h
  obtain ⟨⟨a⟩⟩ := a
  obtain ⟨⟨b⟩⟩ := b
  exact congrArg (fun l => (⟨⟨l⟩⟩ : ByteArray)) h
theorem cell_of_box_l {W : World} {B : Nat} {v : Value} {t : TypeId} (h : W.heap[B]? = some (.cells #[v] t (0, 0))) : W.cell? ⟨B, 0, none⟩ = some v ∧ W.frozen? ⟨B, 0, none⟩ = false := by
  constructor <;> simp [World.cell?, World.frozen?, h]
theorem cell_new_l (W : World) (v : Value) (t : TypeId) : (W.alloc (.cells #[v] t)).cell? ⟨W.heap.size, 0, none⟩ = some v ∧ (W.alloc (.cells #[v] t)).frozen? ⟨W.heap.size, 0, none⟩ = false :=
  cell_of_box_l (World.alloc_heap_new W _)
theorem cell_alloc_l {W : World} {a : Addr} {v : Value} (o : Obj) (h : W.cell? a = some v) : (W.alloc o).cell? a = some v := cell_kept h (World.grownBy_alloc W o none) (fun r e => by cases e)
theorem frozen_alloc_l {W : World} {a : Addr} {v : Value} (o : Obj) (h : W.cell? a = some v) (hf : W.frozen? a = false) : (W.alloc o).frozen? a = false := (frozen_kept h (World.grownBy_alloc W o none) (fun r e => by cases e)).trans hf

set_option maxRecDepth 100000 in
set_option maxHeartbeats 2000000 in
/-- path.Below: whether dir is among what Ups tells. -/
theorem below_in (n : Nat) (hn : 3 ≤ n) (k : Nat) (want p : ByteArray) (xs : List ByteArray) (r : Bool) (hr : r = true ↔ want ∈ xs) (w : World) (hL : Chain k p xs) :
    CallsIn Fence.wide n Tryd.prog 35 #[.string want, .string p] w fun e W' => e = .returned (.bool r) ∧ Below w.heap.size w W' := by
  have h1 : 1 ≤ n := by omega
  refine callsIn_of_wp_marks Tryd.func35 rfl trivial ?_ rfl
  simp only [Tryd.ntmps35, List.size_toArray, List.length_cons, List.length_nil, Nat.reduceAdd, Nat.reduceSub, Array.replicate_succ, Array.replicate_zero, List.push_toArray, List.append_toArray, List.nil_append, List.cons_append]
  gi_wp2_with (refine ⟨trivial, ?_⟩; gi_at_call 62; refine (ups_in (n - 1) p _).mono ?_; rintro e w' ⟨rfl, rfl⟩)
  have c0 := cell_new_l w (.string want) 9
  have c1 := cell_new_l (w.alloc (.cells #[.string want] 9)) (.bool false) 4
  have c2 := cell_new_l ((w.alloc (.cells #[.string want] 9)).alloc (.cells #[.bool false] 4)) (.string p) 9
  simp only [World.size_alloc] at c1 c2
  have hB0 : Below w.heap.size w (((w.alloc (.cells #[.string want] 9)).alloc (.cells #[.bool false] 4)).alloc (.cells #[.string p] 9)) := (((Below.refl _ w).alloc (Nat.le_refl _) _).alloc (by simp) _).alloc (by simp; omega) _
  refine wpIn_rangeFunc_ownF rfl h1 (gf := 82) (lb := #[.pointer (some ⟨w.heap.size + 1 + 1, 0, none⟩)]) rfl trivial (enters_of Tryd.func82 (by kernel_rfl) rfl)
    (ups_stops (n - 1) (by omega) k (w.heap.size + 1 + 1) w.heap.size p xs _ (by simp) (by simp; omega) c2.1 hL) belowK_t (belowK_b (by simp; omega)) (Below.refl _ _) (fun _ => rfl)
    (fun pre W => ((∀ y ∈ pre, y ≠ want) ∧ W.cell? ⟨w.heap.size, 0, none⟩ = some (.string want) ∧ W.cell? ⟨w.heap.size + 1, 0, none⟩ = some (.bool false) ∧ W.frozen? ⟨w.heap.size + 1, 0, none⟩ = false) ∧ Below w.heap.size w W)
    (fun c pre W => (c = .ret ∧ want ∈ pre ∧ W.cell? ⟨w.heap.size + 1, 0, none⟩ = some (.bool true)) ∧ Below w.heap.size w W)
    (OwnFrom.and (Own.from (fun s A B row hs hg hr => ⟨hs.1, cell_kept hs.2.1 hg hr, cell_kept hs.2.2.1 hg hr, (frozen_kept hs.2.2.1 hg hr).trans hs.2.2.2⟩) _) (ownFrom_below (Nat.le_refl _) (by simp; omega)))
    (fun c => OwnFrom.and (Own.from (fun s A B row hs hg hr => ⟨hs.1, hs.2.1, cell_kept hs.2.2 hg hr⟩) _) (ownFrom_below (Nat.le_refl _) (by simp; omega)))
    ⟨⟨by simp, cell_alloc_l _ (cell_alloc_l _ c0.1), cell_alloc_l _ c1.1, frozen_alloc_l _ c1.1 c1.2⟩, hB0⟩
    (fun x => { tmps := #[.string want, .string p, .pointer (some ⟨w.heap.size, 0, none⟩), undef, .pointer (some ⟨w.heap.size + 1, 0, none⟩), .string x, .string p, .func (.func 82) #[] #[.pointer (some ⟨w.heap.size + 1 + 1, 0, none⟩)], .string x, undef, undef, undef], defers := [] }) ?assign ?body ?done ?stop
  case assign =>
    intro l x W K hK
    gi_wp2
    exact hK
  case body =>
    rintro l pre x W ⟨⟨hp, hcw, hcr, hfr⟩, hB⟩ _
    gi_wp2
    · rename_i hx
      obtain rfl : x = want := tol_inj (eq_of_beq hx)
      exact ⟨KeepsOthers.setCell _ _ _, ⟨rfl, List.mem_append.2 (.inr (by simp)), World.cell?_setCell_same' _ _ _ (by rw [hcr]; rfl)⟩, hB.setCell (p := ⟨w.heap.size + 1, 0, none⟩) (by simp) _⟩
    · rename_i hx
      exact ⟨KeepsOthers.refl _, Below.refl _ _, ⟨fun y hy => (List.mem_append.1 hy).elim (hp y) (fun e e' => by simp at e; subst e; subst e'; simp at hx), hcw, hcr, hfr⟩, hB⟩
  case done =>
    rintro D ys W hD rfl ⟨⟨hne, _, hcr, hfr⟩, hB⟩ hK
    gi_wp2
    have hK' := (KeepsOthers.setCell W ⟨w.heap.size + 1, 0, none⟩ (.bool false)).same D _ hK rfl
    refine ⟨by simp, .inl ⟨_, _, rfl, run_takeDeferred hK', ?_⟩⟩
    have hc5 := cell_kept (World.cell?_setCell_same' W ⟨w.heap.size + 1, 0, none⟩ (.bool false) (by rw [hcr]; rfl)) (grownBy_putObj' _ D (.deferred none)) (fun r e => by cases e; exact ⟨_, hK', rfl⟩)
    refine ⟨.bool false, ?_, by rw [show r = false from Bool.eq_false_iff.2 (fun h => hne want (hr.1 h) rfl)], (hB.setCell (p := ⟨w.heap.size + 1, 0, none⟩) (by simp) _).trans (belowK_b (w := w) (Nat.le_refl _) _ D _ _ (by simp at hD; omega) hK' rfl rfl)⟩
    simp [results, Tryd.f35, go_sem, hc5]
  case stop =>
    rintro D c pre W hD hpre ⟨⟨rfl, hin, hcr⟩, hB⟩ hK
    gi_wp2
    refine ⟨by simp, .inl ⟨_, _, rfl, run_takeDeferred hK, ?_⟩⟩
    have hc5 := cell_kept hcr (grownBy_putObj' _ D (.deferred none)) (fun r e => by cases e; exact ⟨_, hK, rfl⟩)
    refine ⟨.bool true, ?_, by rw [hr.2 (hpre.subset hin)], hB.trans (belowK_b (w := w) (Nat.le_refl _) W D _ _ (by simp at hD; omega) hK rfl rfl)⟩
    simp [results, Tryd.f35, go_sem, hc5]

/-! ### in plain words -/
theorem chain_names {N : List (List UInt8)} (h : Names N) : ∀ m, m ≤ N.length → Chain 400 (bs (jn [47] (N.take m))) ((upsN N m).map bs)
  | 0, _ => by
    show path_Parent.f (bs []) = _
    rw [Parent_eq _ _ (Nat.le_refl _)]
    rfl
  | m + 1, hm => by
    rw [upsN_succ, List.map_cons]
    obtain ⟨h1, h2⟩ := h.parent m hm
    exact ⟨by rw [Parent_eq _ _ (Nat.le_refl _), bs_data, h1], h2, chain_names h m (by omega)⟩
theorem chain_up (p : ByteArray) : Chain 400 p ((upsL p.data.toList).map bs) := by
  unfold upsL
  by_cases hn : p.data.toList = []
  · rw [if_pos hn]
    show path_Parent.f p = _
    rw [Parent_eq _ _ (Nat.le_refl _), hn]
    rfl
  · rw [if_neg hn]
    by_cases hk : (kindP p.data.toList).2 = 0
    · rw [if_pos hk]
      obtain ⟨h1, h2⟩ := names_of _ hk hn
      have := chain_names h1 (splitL p.data.toList).length (Nat.le_refl _)
      rw [List.take_length, h2, bs_back] at this
      exact this
    · rw [if_neg hk]
      show path_Parent.f p = _
      rw [Parent_eq _ _ (Nat.le_refl _)]
      unfold parentP
      rw [if_neg hn, if_neg hk]
      rfl
def belowP (d p : List UInt8) : Bool := decide (d ∈ upsL p)
def path_Below.f (a0 : ByteArray) (a1 : ByteArray) : Option (Bool) := some (belowP a0.data.toList a1.data.toList)
theorem path_Below.calls (a0 : ByteArray) (a1 : ByteArray) (r : Bool) (w : World) (h : path_Below.f a0 a1 = some r) :
    Calls Tryd.prog 35 #[.string a0, .string a1] w fun e w' => e = .returned (.bool r) ∧ Below w.heap.size w w' := by
  refine callsIn_wide.1 (below_in 3 (Nat.le_refl _) 400 a0 a1 _ r ?_ w (chain_up a1))
  obtain rfl : belowP a0.data.toList a1.data.toList = r := Option.some.inj h
  unfold belowP
  rw [decide_eq_true_iff]
  constructor
  · intro h
    exact List.mem_map.2 ⟨_, h, bs_back a0⟩
  · intro h
    obtain ⟨x, hx, e⟩ := List.mem_map.1 h
    rw [← e, bs_data]
    exact hx
end Go.Proofs.YtbhioghpgedkeaaDoor.Ups
