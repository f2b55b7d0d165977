/- The law's own ups: what path.Ups tells, collected up to so many. -/
import Derived.OneCell
import Derived.Test.YtfnbadfehelleaaDoorUps
set_option linter.unusedSimpArgs false
set_option linter.unusedVariables false
namespace Go.Proofs.YtfnbadfehelleaaDoor.Ups
open Go.RowKit Go.Shelf Go.Proofs.YtfnbadfehelleaaDoorW.PrintWords Go.Proofs.YtfnbadfehelleaaDoor.MPath Go.Proofs.YtfnbadfehelleaaDoor.PP

theorem info9s : (Tryd.prog.info? 9).map (fun i => (i.zero, i.size, i.bytes)) = some (some (.string ⟨#[]⟩), 1, 16) := by kernel_rfl
/-- What the closure keeps: the two boxes, the row. -/
structure Holds (w : World) (base Bl Bm : Nat) (most : Int) (v : Value) (xs : List ByteArray) : Prop where
  box : w.heap[Bl]? = some (.cells #[v] 29 (0, 0))
  most : w.heap[Bm]? = some (.cells #[.int .i64 most] 3 (0, 0))
  row : w.ownsRow base 9 1 v xs.length (encs Value.string xs)
theorem encs_snoc (xs : List ByteArray) (s : ByteArray) : encs Value.string xs ++ [.string s] = encs Value.string (xs ++ [s]) := by simp [encs]
theorem encs_len (xs : List ByteArray) : (encs Value.string xs).length = xs.length := by simp [encs]
theorem Holds.below {w w' : World} {base Bl Bm : Nat} {most : Int} {v : Value} {xs : List ByteArray} (h : Holds w base Bl Bm most v xs) (hb : Below w.heap.size w w') : Holds w' base Bl Bm most v xs :=
  ⟨(hb.block _ (lt_of_block h.box)).trans h.box, (hb.block _ (lt_of_block h.most)).trans h.most, pw_own_below h.row hb⟩
theorem row_ne {w : World} {base B : Nat} {t : TypeId} {u v : Value} {n : Nat} {xs : List Value} (h : w.ownsRow base 9 1 v n xs) (hB : w.heap[B]? = some (.cells #[u] t (0, 0))) (ht : 9 ≠ t) : v.ownBlock ≠ some B := by
  rcases h.2 with ⟨rfl, _⟩ | ⟨g, cap, cur, rfl, _, hh, _⟩
  · simp [Value.ownBlock]
  · intro e
    have : g = B := by simpa [Value.ownBlock] using e
    subst this
    rw [hh] at hB
    injection hB with hB
    injection hB with _ hB
    exact ht hB
theorem Holds.appended {w w1 : World} {base Bl Bm : Nat} {most : Int} {v v1 : Value} {xs : List ByteArray} {s : ByteArray} (h : Holds w base Bl Bm most v xs) (hg : w.grownBy w1 v.ownBlock) (hne : Bl ≠ Bm)
    (ho : w1.ownsRow base 9 1 v1 (encs Value.string xs ++ [Value.string s]).length (encs Value.string xs ++ [Value.string s])) :
    w1.heap[Bl]? = some (.cells #[v] 29 (0, 0)) ∧ w1.heap[Bm]? = some (.cells #[.int .i64 most] 3 (0, 0)) ∧ Holds (w1.setCell ⟨Bl, 0, none⟩ v1) base Bl Bm most v1 (xs ++ [s]) := by
  have b1 : w1.heap[Bl]? = some (.cells #[v] 29 (0, 0)) := (hg.block _ (lt_of_block h.box) (fun e => row_ne h.row h.box (by decide) e.symm)).trans h.box
  have b2 : w1.heap[Bm]? = some (.cells #[.int .i64 most] 3 (0, 0)) := (hg.block _ (lt_of_block h.most) (fun e => row_ne h.row h.most (by decide) e.symm)).trans h.most
  refine ⟨b1, b2, one_setCell b1, ?_, ?_⟩
  · rw [Below.heap_setCell _ _ _ _ (fun e => hne e.symm)]
    exact b2
  · rw [encs_snoc, encs_len] at ho
    exact ownsRow_setCell_other ho (row_ne ho b1 (by decide)) v1
set_option maxHeartbeats 2000000 in
theorem y52 (base Bl Bm : Nat) (most : Int) (v : Value) (xs : List ByteArray) (s : ByteArray) (w0 w : World) (hne : Bl ≠ Bm) (hBl : base ≤ Bl) (hlen : xs.length ≤ 1000000) (hH : Holds w base Bl Bm most v xs) (hB : Below base w0 w) (hbase : base ≤ w.heap.size) :
    Calls Tryd.prog 52 #[.string s, .pointer (some ⟨Bl, 0, none⟩), .pointer (some ⟨Bm, 0, none⟩)] w fun e w' => ∃ v', e = .returned (.bool (decide ((xs.length : Int) + 1 < most))) ∧ Holds w' base Bl Bm most v' (xs ++ [s]) ∧ Below base w0 w' ∧ base ≤ w'.heap.size := by
  have c1 := cell_of_one hH.box
  have c2 := cell_of_one hH.most
  have f1 := free_of_one hH.box
  have HH := Lib.hid hH
  have HB := Lib.hid hB
  clear hH hB
  go_enter Tryd.func52, Tryd.ntmps52
  go_wp2_with (first | ((with_reducible refine gate_builtin (b := .append) (xs := #[.tmp 5, .tmp 7]) rfl ?_); at_builtin; refine print_append (w0 := w0) base rfl (.tmp 5) (.tmp 7) 29 9 (.string ⟨#[]⟩) 16 rfl Tryd.underlying29 info9s rfl (by omega) v (encs Value.string xs) (.string s) rfl rfl rfl ?aO HB.out hbase ?aL ?_; (case aO => rw [encs_len]; exact HH.out.row); (case aL => rw [encs_len]; omega); intro v1 w1 hown hb1 hg1 hat1; obtain ⟨b1, b2, hH1⟩ := HH.out.appended hg1 hne hown; obtain ⟨A1, k1, hv1⟩ := own_slice hown; rw [encs_snoc, encs_len, List.length_append, List.length_singleton] at hv1; subst hv1; have c1' := cell_of_one b1; have f1' := free_of_one b1; have c2' := cell_of_one b2; have hz1 := hg1.size; have H1 := Lib.hid hH1; have HB1 := Lib.hid hb1; clear hH1 hb1 hg1 hat1 hown b1 b2))
  go_ret
  exact ⟨_, rfl, H1.out, HB1.out.setCell (p := ⟨Bl, 0, none⟩) hBl _, by simp; omega⟩
def Ends (base Bl Bm : Nat) (most : Int) (w0 : World) (ys : List ByteArray) (e : Ending) (w' : World) : Prop := (∃ v, e = .returned v) ∧ ∃ v, Holds w' base Bl Bm most v ys ∧ Below base w0 w' ∧ base ≤ w'.heap.size
set_option maxHeartbeats 2000000 in
theorem u66 (k base Bl Bm Bn : Nat) (most : Int) (v0 : Value) (p : ByteArray) (xs : List ByteArray) (w0 w : World) (hne : Bl ≠ Bm) (hBl : base ≤ Bl) (hxs : xs.length ≤ 100000) (hm1 : 1 ≤ most) (hH : Holds w base Bl Bm most v0 []) (hB : Below base w0 w) (hbase : base ≤ w.heap.size)
    (hp : w.cell? ⟨Bn, 0, none⟩ = some (.string p)) (hc : Chain k p xs) :
    Calls Tryd.prog 66 #[.func (.func 52) #[] #[.pointer (some ⟨Bl, 0, none⟩), .pointer (some ⟨Bm, 0, none⟩)], .pointer (some ⟨Bn, 0, none⟩)] w (Ends base Bl Bm most w0 (xs.take most.toNat)) := by
  obtain ⟨x0, b0, r0, hP0, hC0⟩ := chain_step hc
  clear hc
  have HH := Lib.hid hH
  have HB := Lib.hid hB
  clear hH hB
  go_enter Tryd.func66, Tryd.ntmps66
  go_wp2_with (go_at_call 17; refine (path_Parent.calls k p x0 b0 _ hP0).mono ?_; rintro e w1 ⟨rfl, hb1⟩; have H1 := Lib.hid (HH.out.below hb1); have HB1 := Lib.hid (below_then HB.out hbase hb1); have hs1 := Nat.le_trans hbase hb1.size; clear hb1)
  go_loopw [3, 4] (fun p q wr => ∃ (pre : List ByteArray) (x : ByteArray) (b : Bool) (rest : List ByteArray) (v : Value), p = .string x ∧ q = .bool b ∧ ((b = false ∧ xs = pre) ∨ (b = true ∧ xs = pre ++ x :: rest ∧ Chain k x rest)) ∧ (pre.length : Int) < most ∧ Hid (Holds wr base Bl Bm most v pre) ∧ Hid (Below base w0 wr) ∧ base ≤ wr.heap.size)
    (fun p q _ => 2 * szOf p + bitOf q)
  case atStart =>
    refine ⟨[], x0, b0, r0, v0, rfl, rfl, ?_, by simp; omega, H1, HB1, hs1⟩
    rcases hC0 with ⟨rfl, _, h⟩ | ⟨rfl, _, h, h2⟩
    · exact .inl ⟨rfl, h⟩
    · exact .inr ⟨rfl, h, h2⟩
  case round =>
    obtain ⟨pre, x, b, rest, v, rfl, rfl, hx, hml, HHr, HBr, hsr⟩ := hrel
    rcases hx with ⟨rfl, hx⟩ | ⟨rfl, hx, hcx⟩
    · go_wp2
      refine bodyPost_ret (results_none rfl _ _ _) rfl ?_
      refine ⟨⟨_, rfl⟩, v, ?_, HBr.out, hsr⟩
      rw [List.take_of_length_le (by rw [hx]; omega), hx]
      exact HHr.out
    · obtain ⟨x2, b2, r2, hP2, hC2⟩ := chain_step hcx
      clear hcx
      have hl := congrArg List.length hx
      rw [List.length_append, List.length_cons] at hl
      have HX := Lib.hid hx
      clear hx
      by_cases hgo : (pre.length : Int) + 1 < most
      · have hgo' : decide ((pre.length : Int) + 1 < most) = true := decide_eq_true hgo
        go_wp2_with (first | (go_at_call 52; refine (y52 base Bl Bm most v pre x w0 _ hne hBl (by omega) HHr.out HBr.out hsr).mono ?_; rw [hgo']; rintro e w3 ⟨v3, rfl, hH3, hB3, hs3⟩; have H3 := Lib.hid hH3; have HB3 := Lib.hid hB3; clear hH3 hB3) | (go_at_call 17; refine (path_Parent.calls k x x2 b2 _ hP2).mono ?_; rintro e w4 ⟨rfl, hb4⟩; have H4 := Lib.hid (H3.out.below hb4); have HB4 := Lib.hid (below_then HB3.out hs3 hb4); have hs4 := Nat.le_trans hs3 hb4.size; clear hb4))
        go_roundw
        case rel =>
          refine ⟨pre ++ [x], x2, b2, r2, v3, rfl, rfl, ?_, by simp; omega, H4, HB4, hs4⟩
          have hx := HX.out
          rcases hC2 with ⟨rfl, _, h⟩ | ⟨rfl, _, h, h2⟩
          · exact .inl ⟨rfl, by rw [hx, h]⟩
          · exact .inr ⟨rfl, by rw [hx, h]; simp, h2⟩
        case measure =>
          rcases hC2 with ⟨rfl, h, _⟩ | ⟨rfl, h, _⟩
          · simp only [szOf, bitOf]; omega
          · simp only [szOf, bitOf]; omega
      · have hgo' : decide ((pre.length : Int) + 1 < most) = false := decide_eq_false hgo
        go_wp2_with (first | (go_at_call 52; refine (y52 base Bl Bm most v pre x w0 _ hne hBl (by omega) HHr.out HBr.out hsr).mono ?_; rw [hgo']; rintro e w3 ⟨v3, rfl, hH3, hB3, hs3⟩; have H3 := Lib.hid hH3; have HB3 := Lib.hid hB3; clear hH3 hB3))
        refine bodyPost_ret (results_none rfl _ _ _) rfl ?_
        refine ⟨⟨_, rfl⟩, v3, ?_, HB3.out, hs3⟩
        have e : xs.take most.toNat = pre ++ [x] := by
          rw [HX.out, List.take_append, List.take_of_length_le (by omega), show most.toNat - pre.length = 1 by omega]
          rfl
        rw [e]
        exact H3.out
set_option maxHeartbeats 2000000 in
theorem ups46 (p : ByteArray) (w : World) :
    Calls Tryd.prog 46 #[.string p] w fun e w' => e = .returned (.func (.func 66) #[] #[.pointer (some ⟨w.heap.size, 0, none⟩)]) ∧ w' = w.alloc (.cells #[.string p] 9) := by
  go_enter Tryd.func46, Tryd.ntmps46
  go_wp2
  go_ret
  exact ⟨rfl, rfl⟩
theorem eq_nil (B : Nat) : ∀ W : World, (binOp .eql 68 (.func (.func 66) #[] #[.pointer (some ⟨B, 0, none⟩)]) .nilFunc).run Tryd.prog W = .ok (.bool false) W := fun _ => by kernel_rfl
set_option maxHeartbeats 2000000 in
theorem ups28 (k : Nat) (p : ByteArray) (most : Int) (xs : List ByteArray) (w : World) (hm1 : 1 ≤ most) (hm2 : most ≤ 1000) (hL : Chain k p xs) (hxs : xs.length ≤ 100000) :
    Calls Tryd.prog 28 #[.string p, .int .i64 most] w fun e w' => ∃ v0_ : Value, e = .returned (v0_) ∧ Kd.R Kd.string 9 w' w.heap.size (fun _ => True) v0_ (xs.take most.toNat) ∧ Below w.heap.size w w' := by
  have hq := eq_nil (w.heap.size + 1)
  have W3 : ∃ W3, W3 = ((w.alloc (.cells #[.int .i64 most] 3)).alloc (.cells #[.string p] 9)).alloc (.cells #[.slice none 0 0] 29) := ⟨_, rfl⟩
  obtain ⟨W3, hW3⟩ := W3
  have hz3 : W3.heap.size = w.heap.size + 3 := by rw [hW3]; simp
  have hH : Holds W3 w.heap.size (w.heap.size + 2) w.heap.size most (.slice none 0 0) [] := by
    rw [hW3]
    refine ⟨?_, ?_, own_nil _ _ _ _⟩
    · have := heap_alloc_new ((w.alloc (.cells #[.int .i64 most] 3)).alloc (.cells #[.string p] 9)) (.cells #[.slice none 0 0] 29)
      simpa using this
    · have h1 := heap_alloc_new w (.cells #[.int .i64 most] 3)
      have b1 : Below (w.alloc (.cells #[.int .i64 most] 3)).heap.size (w.alloc (.cells #[.int .i64 most] 3)) (((w.alloc (.cells #[.int .i64 most] 3)).alloc (.cells #[.string p] 9)).alloc (.cells #[.slice none 0 0] 29)) := ((Below.refl _ _).alloc (Nat.le_refl _) _).alloc (by simp) _
      exact (b1.block _ (by simp)).trans h1
  have hB : Below w.heap.size w W3 := by
    rw [hW3]
    exact (((Below.refl _ w).alloc (Nat.le_refl _) _).alloc (by simp) _).alloc (by simp; omega) _
  have hp : W3.cell? ⟨w.heap.size + 1, 0, none⟩ = some (.string p) := by
    rw [hW3]
    have := heap_alloc_new (w.alloc (.cells #[.int .i64 most] 3)) (.cells #[.string p] 9)
    have b1 : Below ((w.alloc (.cells #[.int .i64 most] 3)).alloc (.cells #[.string p] 9)).heap.size ((w.alloc (.cells #[.int .i64 most] 3)).alloc (.cells #[.string p] 9)) (((w.alloc (.cells #[.int .i64 most] 3)).alloc (.cells #[.string p] 9)).alloc (.cells #[.slice none 0 0] 29)) := (Below.refl _ _).alloc (Nat.le_refl _) _
    simp only [World.size_alloc] at this
    have h2 := (b1.block (w.heap.size + 1) (by simp)).trans this
    exact cell_of_one h2
  have hu := u66 k w.heap.size (w.heap.size + 2) w.heap.size (w.heap.size + 1) most (.slice none 0 0) p xs w W3 (by omega) (by omega) hxs hm1 hH hB (by omega) hp hL
  have HU := Lib.hid hu
  clear hH hB hp hu hz3 hL
  subst hW3
  go_enter Tryd.func28, Tryd.ntmps28
  go_wp2_with (first | (go_at_call 46; refine (ups46 p _).mono ?_; rintro e w' ⟨rfl, rfl⟩) | (go_at_call 66; refine (HU.out).mono ?_; rintro e w' ⟨⟨v, rfl⟩, v', hH', hB', _⟩; have c1 := cell_of_one hH'.box; have HH' := Lib.hid hH'; have HB' := Lib.hid hB'; clear hH' hB'))
  go_ret
  exact ⟨_, rfl, Kd.R_of_own HH'.out.row (fun _ _ => trivial), HB'.out⟩
