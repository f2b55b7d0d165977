-- PRINTED for YtfnbadfehelleaaDoor by this session's own driver; checked by Lean alone
import Derived.Test.YtfnbadfehelleaaDoorMPathx0
import Derived.Test.YtfnbadfehelleaaDoorMPathx1
import Derived.Test.YtfnbadfehelleaaDoorMPathx2
import Derived.Test.YtfnbadfehelleaaDoorMPathx3
import Derived.Test.YtfnbadfehelleaaDoorMPathx4
import Derived.Test.YtfnbadfehelleaaDoorMPathx6
namespace Go.Proofs.YtfnbadfehelleaaDoor.MPath
open Go.RowKit Go.Proofs.YtfnbadfehelleaaDoorW.PrintWords Go.Proofs.YtfnbadfehelleaaDoorW.PrintLast Go.Proofs.YtfnbadfehelleaaDoorW.PrintMore
attribute [local go_sem] Go.Proofs.YtfnbadfehelleaaDoor.Aid.cell_isSome Go.Proofs.YtfnbadfehelleaaDoor.Aid.string_gtr Go.Proofs.YtfnbadfehelleaaDoor.Aid.string_leq Go.Proofs.YtfnbadfehelleaaDoor.Aid.string_geq
attribute [local go_sem] max2_int min2_int max_two min_two max_three min_three max_four min_four   -- for this text's walks alone
set_option linter.unusedVariables false
set_option linter.unusedSimpArgs false

/-! ### aquiferlaw05_PathClean: function 3 -/
def aquiferlaw05_PathClean.j0 : Nat → Int → ByteArray → Bool → Option (Bool)
  | 0, _, _, _ => none
  | k + 1, x1, x5, x49 => if x49 = true then (some false) else ((strings_Split.f k x5 (⟨#[47]⟩ : ByteArray)).bind fun t186 => (if (t186.length : Int) = 0 then (none) else (if 0 ≤ (Int.tmod (wrap64 ((Int.tmod x1 (t186.length : Int)) + (t186.length : Int))) (t186.length : Int)) then (if (Int.tmod (wrap64 ((Int.tmod x1 (t186.length : Int)) + (t186.length : Int))) (t186.length : Int)) ≤ (t186.length : Int) then ((strings_Join.f (t186.take ((Int.tmod (wrap64 ((Int.tmod x1 (t186.length : Int)) + (t186.length : Int))) (t186.length : Int)) : Int).toNat) (⟨#[47]⟩ : ByteArray)).bind fun t193 => (if 2 + t193.size ≤ 9223372036854775807 then (if ((⟨#[47, 47]⟩ : ByteArray) ++ t193).size + 8 ≤ 9223372036854775807 then ((strings_Join.f (t186.drop ((Int.tmod (wrap64 ((Int.tmod x1 (t186.length : Int)) + (t186.length : Int))) (t186.length : Int)) : Int).toNat) (⟨#[47, 47]⟩ : ByteArray)).bind fun t198 => (if (((⟨#[47, 47]⟩ : ByteArray) ++ t193) ++ (⟨#[47, 46, 47, 120, 47, 46, 46, 47]⟩ : ByteArray)).size + t198.size ≤ 9223372036854775807 then (if ((((⟨#[47, 47]⟩ : ByteArray) ++ t193) ++ (⟨#[47, 46, 47, 120, 47, 46, 46, 47]⟩ : ByteArray)) ++ t198).size + 1 ≤ 9223372036854775807 then ((path_Clean.f k (((((⟨#[47, 47]⟩ : ByteArray) ++ t193) ++ (⟨#[47, 46, 47, 120, 47, 46, 46, 47]⟩ : ByteArray)) ++ t198) ++ (⟨#[47]⟩ : ByteArray))).bind fun bt199 => (if bt199.1.toList = x5.toList then (if bt199.2 = 0 then ((aquiferlaw05_works.f k).bind fun t201 => (some t201)) else (some false)) else (some false))) else (none)) else (none))) else (none)) else (none))) else (none)) else (none))))
def aquiferlaw05_PathClean.f (k : Nat) (a0 : ByteArray) (a1 : Int) : Option (Bool) := (aquiferlaw05_few.f a0).bind fun t178 => ((path_Clean.f k t178).bind fun bt179 => (if bt179.2 = 0 then ((path_Clean.f k bt179.1).bind fun bt182 => ((path_Kind.f k bt179.1).bind fun bt184 => (if bt182.2 = 0 then (if bt182.1.toList = bt179.1.toList then (aquiferlaw05_PathClean.j0 k a1 bt179.1 (bt184.2 != 0)) else (aquiferlaw05_PathClean.j0 k a1 bt179.1 true)) else (aquiferlaw05_PathClean.j0 k a1 bt179.1 true)))) else (if bt179.1.toList = ([] : List UInt8) then ((aquiferlaw05_works.f k).bind fun t181 => (some t181)) else (some false))))
theorem aquiferlaw05_PathClean.mono_l : ∀ k, (∀ y0 y1 y2, LeO (aquiferlaw05_PathClean.j0 k y0 y1 y2) (aquiferlaw05_PathClean.j0 (k + 1) y0 y1 y2))
  | 0 => fun _ _ _ r h => by simp [aquiferlaw05_PathClean.j0] at h
  | k + 1 => by
    have ih0 := aquiferlaw05_PathClean.mono_l k
    · intro y0 y1 y2
      unfold aquiferlaw05_PathClean.j0
      repeat' first
      | (with_reducible exact ih0 _ _ _)
      | (with_reducible exact aquiferlaw05_works.mono _)
      | (with_reducible exact path_Clean.mono _ _)
      | (with_reducible exact path_Kind.mono _ _)
      | (with_reducible exact strings_Split.mono _ _ _)
      | (with_reducible exact LeO.refl _)
      | (with_reducible exact LeO.none _)
      | (with_reducible refine LeO.ite ?_ ?_)
      | (with_reducible refine LeO.bind ?_ (fun _ => ?_))
      | exact ih0 _ _ _
      | exact aquiferlaw05_works.mono _
      | exact path_Clean.mono _ _
      | exact path_Kind.mono _ _
      | exact strings_Split.mono _ _ _
      | exact LeO.none _
      | refine LeO.ite ?_ ?_
      | refine LeO.bind ?_ (fun _ => ?_)
theorem aquiferlaw05_PathClean.mono : ∀ a0 a1 k, LeO (aquiferlaw05_PathClean.f k a0 a1) (aquiferlaw05_PathClean.f (k + 1) a0 a1) := by
  intro a0 a1 k
  have ih0 := aquiferlaw05_PathClean.mono_l k
  unfold aquiferlaw05_PathClean.f
  repeat' first
      | (with_reducible exact ih0 _ _ _)
      | (with_reducible exact aquiferlaw05_works.mono _)
      | (with_reducible exact path_Clean.mono _ _)
      | (with_reducible exact path_Kind.mono _ _)
      | (with_reducible exact strings_Split.mono _ _ _)
      | (with_reducible exact LeO.refl _)
      | (with_reducible exact LeO.none _)
      | (with_reducible refine LeO.ite ?_ ?_)
      | (with_reducible refine LeO.bind ?_ (fun _ => ?_))
      | exact ih0 _ _ _
      | exact aquiferlaw05_works.mono _
      | exact path_Clean.mono _ _
      | exact path_Kind.mono _ _
      | exact strings_Split.mono _ _ _
      | exact LeO.none _
      | refine LeO.ite ?_ ?_
      | refine LeO.bind ?_ (fun _ => ?_)
def aquiferlaw05_PathClean.T11 : Bool × List (List Nat × List Nat) := (true, [([], []), ([], []), ([0, 1], [0, 1]), ([2], [2]), ([3], [3]), ([4], [4]), ([], []), ([], []), ([6, 7], [6, 7]), ([8, 3], [8]), ([5, 9], [5, 9]), ([10], [10]), ([11, 9], [11]), ([12], [12]), ([13], [13]), ([13], [13]), ([14, 12, 0, 1, 2, 3, 4, 5, 6, 7, 8, 9, 10, 11, 12, 13, 14], [14]), ([15, 16, 0, 1, 2, 3, 4, 5, 6, 7, 8, 9, 10, 11, 12, 13, 14, 15, 16], [15])])
def aquiferlaw05_PathClean.B11 : List Nat := [0, 0, 3, 7, 15, 31, 0, 0, 192, 463, 1023, 2047, 4095, 8191, 16383, 16383, 32767, 131071]
theorem aquiferlaw05_PathClean.tab11 : rtab .any (opsOf Tryd.f3 11) = aquiferlaw05_PathClean.T11 := by kernel_rfl
theorem aquiferlaw05_PathClean.bits11 : waitsOk aquiferlaw05_PathClean.T11.2 aquiferlaw05_PathClean.B11 = true := by kernel_rfl
set_option maxHeartbeats 8000000 in
set_option maxRecDepth 100000 in
theorem aquiferlaw05_PathClean.calls (k : Nat) (a0 : ByteArray) (a1 : Int) (r : Bool) (w : World) (h : aquiferlaw05_PathClean.f k a0 a1 = some r) :
    Calls Tryd.prog 3 #[.string a0, .int .i64 a1] w fun e w' => e = .returned (.bool r) ∧ Below w.heap.size w w' := by
  have HB := Aside0.mk (Below.refl w.heap.size w)
  have H : ((aquiferlaw05_few.f a0).bind fun t178 => ((path_Clean.f k t178).bind fun bt179 => (if bt179.2 = 0 then ((path_Clean.f k bt179.1).bind fun bt182 => ((path_Kind.f k bt179.1).bind fun bt184 => (if bt182.2 = 0 then (if bt182.1.toList = bt179.1.toList then (aquiferlaw05_PathClean.j0 k a1 bt179.1 (bt184.2 != 0)) else (aquiferlaw05_PathClean.j0 k a1 bt179.1 true)) else (aquiferlaw05_PathClean.j0 k a1 bt179.1 true)))) else (if bt179.1.toList = ([] : List UInt8) then ((aquiferlaw05_works.f k).bind fun t181 => (some t181)) else (some false))))) = some r := h
  clear h
  replace H := Option.bind_eq_some_iff.mp H
  obtain ⟨t178, A30, H⟩ := H
  replace H : ((path_Clean.f k t178).bind fun bt179 => (if bt179.2 = 0 then ((path_Clean.f k bt179.1).bind fun bt182 => ((path_Kind.f k bt179.1).bind fun bt184 => (if bt182.2 = 0 then (if bt182.1.toList = bt179.1.toList then (aquiferlaw05_PathClean.j0 k a1 bt179.1 (bt184.2 != 0)) else (aquiferlaw05_PathClean.j0 k a1 bt179.1 true)) else (aquiferlaw05_PathClean.j0 k a1 bt179.1 true)))) else (if bt179.1.toList = ([] : List UInt8) then ((aquiferlaw05_works.f k).bind fun t181 => (some t181)) else (some false)))) = some r := H
  have A3 := Aside0.mk A30
  clear A30
  replace H := Option.bind_eq_some_iff.mp H
  obtain ⟨⟨t179, t180⟩, A40, H⟩ := H
  replace H : (if t180 = 0 then ((path_Clean.f k t179).bind fun bt182 => ((path_Kind.f k t179).bind fun bt184 => (if bt182.2 = 0 then (if bt182.1.toList = t179.toList then (aquiferlaw05_PathClean.j0 k a1 t179 (bt184.2 != 0)) else (aquiferlaw05_PathClean.j0 k a1 t179 true)) else (aquiferlaw05_PathClean.j0 k a1 t179 true)))) else (if t179.toList = ([] : List UInt8) then ((aquiferlaw05_works.f k).bind fun t181 => (some t181)) else (some false))) = some r := H
  have A4 := Aside0.mk A40
  clear A40
  by_cases c5 : t180 = 0
  · rw [if_pos c5] at H
    have c5b0 : (t180 == 0) = true := beq_iff_eq.mpr c5
    have c5b1 : (t180 != 0) = false := bne_eq_false_iff_eq.mpr c5
    clear c5
    replace H := Option.bind_eq_some_iff.mp H
    obtain ⟨⟨t182, t183⟩, A60, H⟩ := H
    replace H : ((path_Kind.f k t179).bind fun bt184 => (if t183 = 0 then (if t182.toList = t179.toList then (aquiferlaw05_PathClean.j0 k a1 t179 (bt184.2 != 0)) else (aquiferlaw05_PathClean.j0 k a1 t179 true)) else (aquiferlaw05_PathClean.j0 k a1 t179 true))) = some r := H
    have A6 := Aside0.mk A60
    clear A60
    replace H := Option.bind_eq_some_iff.mp H
    obtain ⟨⟨t184, t185⟩, A70, H⟩ := H
    replace H : (if t183 = 0 then (if t182.toList = t179.toList then (aquiferlaw05_PathClean.j0 k a1 t179 (t185 != 0)) else (aquiferlaw05_PathClean.j0 k a1 t179 true)) else (aquiferlaw05_PathClean.j0 k a1 t179 true)) = some r := H
    have A7 := Aside0.mk A70
    clear A70
    have HC8 := Aside0.mk H
    clear H
    go_enter Tryd.func3, Tryd.ntmps3
    go_upto_region 7 with (first | ((with_reducible refine gate_callee (f := 10) rfl ?_); refine goesL_ (some 16) rfl rfl Tryd.func10 (by kernel_rfl) rfl #[.string a0] rfl (by (try simp only [List.map_toArray, List.map_cons, List.map_nil]); first | done | rfl | (simp only [List.length_drop, List.length_take]; rfl)) ?_; (with_reducible refine (aquiferlaw05_few.calls a0 t178 _ A3.out).mono ?_); rintro e w9 ⟨rfl, hb⟩; refine ⟨_, rfl, ?_⟩; have n0_ := Aside0.mk (below_step (by repeat (first | (with_reducible first | exact HB.out | apply below_alloc | apply pw_below_drewN | apply below_drew1) | exact HB.out)) hb); clear HB; have HB := n0_; clear n0_; (try clear hb); (try clear hb2); (try clear hk); (try clear hi)) | ((with_reducible refine gate_callee (f := 11) rfl ?_); refine goesL_ (some 19) rfl rfl Tryd.func11 (by kernel_rfl) rfl #[.string t178] rfl (by (try simp only [List.map_toArray, List.map_cons, List.map_nil]); first | done | rfl | (simp only [List.length_drop, List.length_take]; rfl)) ?_; (with_reducible refine (path_Clean.calls k t178 t179 t180 _ A4.out).mono ?_); rintro e w10 ⟨rfl, hb⟩; refine ⟨_, rfl, ?_⟩; have n0_ := Aside0.mk (below_step (by repeat (first | (with_reducible first | exact HB.out | apply below_alloc | apply pw_below_drewN | apply below_drew1) | exact HB.out)) hb); clear HB; have HB := n0_; clear n0_; (try clear hb); (try clear hb2); (try clear hk); (try clear hi)) | ((with_reducible refine gate_callee (f := 11) rfl ?_); refine goesL_ (some 31) rfl rfl Tryd.func11 (by kernel_rfl) rfl #[.string t179] rfl (by (try simp only [List.map_toArray, List.map_cons, List.map_nil]); first | done | rfl | (simp only [List.length_drop, List.length_take]; rfl)) ?_; (with_reducible refine (path_Clean.calls k t179 t182 t183 _ A6.out).mono ?_); rintro e w11 ⟨rfl, hb⟩; refine ⟨_, rfl, ?_⟩; have n0_ := Aside0.mk (below_step (by repeat (first | (with_reducible first | exact HB.out | apply below_alloc | apply pw_below_drewN | apply below_drew1) | exact HB.out)) hb); clear HB; have HB := n0_; clear n0_; (try clear hb); (try clear hb2); (try clear hk); (try clear hi)) | ((with_reducible refine gate_callee (f := 13) rfl ?_); refine goesL_ (some 36) rfl rfl Tryd.func13 (by kernel_rfl) rfl #[.string t179] rfl (by (try simp only [List.map_toArray, List.map_cons, List.map_nil]); first | done | rfl | (simp only [List.length_drop, List.length_take]; rfl)) ?_; (with_reducible refine (path_Kind.calls k t179 t184 t185 _ A7.out).mono ?_); rintro e w12 ⟨rfl, hb⟩; refine ⟨_, rfl, ?_⟩; have n0_ := Aside0.mk (below_step (by repeat (first | (with_reducible first | exact HB.out | apply below_alloc | apply pw_below_drewN | apply below_drew1) | exact HB.out)) hb); clear HB; have HB := n0_; clear n0_; (try clear hb); (try clear hb2); (try clear hk); (try clear hi)))
    (try simp only [Act.put, List.setIfInBounds_toArray, List.set_cons_zero, List.set_cons_succ])
    go_cut [49] (fun v49 wc => ∃ (kq : Nat) (x49_7 : Bool), v49 = .bool x49_7 ∧ Aside0 (aquiferlaw05_PathClean.j0 kq a1 t179 x49_7 = some r) ∧ Aside0 (kq ≤ k) ∧ Aside0 (Below w.heap.size w wc))
    case first =>
      have H := HC8.out
      clear HC8
      by_cases c13 : t183 = 0
      · rw [if_pos c13] at H
        have c13b0 : (t183 == 0) = true := beq_iff_eq.mpr c13
        have c13b1 : (t183 != 0) = false := bne_eq_false_iff_eq.mpr c13
        clear c13
        (first | rw [c13b0] | (simp only [i64_w, i32_w]; rw [c13b0]) | rw [c13b1] | rw [c13b2] | skip)
        by_cases c14 : t182.toList = t179.toList
        · rw [if_pos c14] at H
          have c14b0 : (t182.toList == t179.toList) = true := beq_iff_eq.mpr c14
          have c14b1 : (t182.toList != t179.toList) = false := bne_eq_false_iff_eq.mpr c14
          clear c14
          have H' := Aside0.mk H
          clear H
          go_wp2
          go_meet
          case rel => exact ⟨_, ((t185 != 0)), (by first | rfl | (simp; done) | (simp [*]; done)), H', ⟨by first | omega | exact Nat.le_refl _⟩, ⟨by repeat (first | (with_reducible first | exact HB.out | apply below_alloc | apply pw_below_drewN | apply below_drew1) | exact HB.out)⟩⟩
        · rw [if_neg c14] at H
          have c14b0 : (t182.toList == t179.toList) = false := beq_eq_false_iff_ne.mpr c14
          have c14b1 : (t182.toList != t179.toList) = true := bne_iff_ne.mpr c14
          have H' := Aside0.mk H
          clear H
          go_wp2
          go_meet
          case rel => exact ⟨_, (true), (by first | rfl | (simp; done) | (simp [*]; done)), H', ⟨by first | omega | exact Nat.le_refl _⟩, ⟨by repeat (first | (with_reducible first | exact HB.out | apply below_alloc | apply pw_below_drewN | apply below_drew1) | exact HB.out)⟩⟩
      · rw [if_neg c13] at H
        have c13b0 : (t183 == 0) = false := beq_eq_false_iff_ne.mpr c13
        have c13b1 : (t183 != 0) = true := bne_iff_ne.mpr c13
        (first | rw [c13b0] | (simp only [i64_w, i32_w]; rw [c13b0]) | rw [c13b1] | rw [c13b2] | skip)
        have H' := Aside0.mk H
        clear H
        go_wp2
        go_meet
        case rel => exact ⟨_, (true), (by first | rfl | (simp; done) | (simp [*]; done)), H', ⟨by first | omega | exact Nat.le_refl _⟩, ⟨by repeat (first | (with_reducible first | exact HB.out | apply below_alloc | apply pw_below_drewN | apply below_drew1) | exact HB.out)⟩⟩
    case rest =>
      clear HC8
      try clear c1
      try clear p2
      try clear c3
      try clear c5
      try clear c5b0
      try clear c5b1
      try clear c10
      try clear c11
      try clear c13
      try clear c13b0
      try clear c13b1
      try clear c13b2
      try clear c14
      try clear c14b0
      try clear c14b1
      obtain ⟨kq, x49_7, rfl, HA, HJ7, HB⟩ := hcut
      cases kq with
      | zero => exact absurd HA.out (by simp [aquiferlaw05_PathClean.j0])
      | succ kj7 =>
        have H := HA.out
        clear HA
        simp only [aquiferlaw05_PathClean.j0] at H
        by_cases c15 : x49_7 = true
        · subst c15
          have H1 : (some false) = some r := by rw [if_pos rfl] at H; exact H
          clear H
          have H := H1
          clear H1
          obtain rfl := Option.some.inj H
          go_wp2
          go_ret
          exact ⟨by first | rfl | (simp [errW_none, errW_some] <;> rfl) | (simp [*, errW_none, errW_some] <;> rfl), by repeat (first | (with_reducible first | exact HB.out | apply below_alloc | apply pw_below_drewN | apply below_drew1) | exact HB.out)⟩
        · replace c15 := Bool.eq_false_iff.mpr c15
          subst c15
          have H1 : ((strings_Split.f kj7 t179 (⟨#[47]⟩ : ByteArray)).bind fun t186 => (if (t186.length : Int) = 0 then (none) else (if 0 ≤ (Int.tmod (wrap64 ((Int.tmod a1 (t186.length : Int)) + (t186.length : Int))) (t186.length : Int)) then (if (Int.tmod (wrap64 ((Int.tmod a1 (t186.length : Int)) + (t186.length : Int))) (t186.length : Int)) ≤ (t186.length : Int) then ((strings_Join.f (t186.take ((Int.tmod (wrap64 ((Int.tmod a1 (t186.length : Int)) + (t186.length : Int))) (t186.length : Int)) : Int).toNat) (⟨#[47]⟩ : ByteArray)).bind fun t193 => (if 2 + t193.size ≤ 9223372036854775807 then (if ((⟨#[47, 47]⟩ : ByteArray) ++ t193).size + 8 ≤ 9223372036854775807 then ((strings_Join.f (t186.drop ((Int.tmod (wrap64 ((Int.tmod a1 (t186.length : Int)) + (t186.length : Int))) (t186.length : Int)) : Int).toNat) (⟨#[47, 47]⟩ : ByteArray)).bind fun t198 => (if (((⟨#[47, 47]⟩ : ByteArray) ++ t193) ++ (⟨#[47, 46, 47, 120, 47, 46, 46, 47]⟩ : ByteArray)).size + t198.size ≤ 9223372036854775807 then (if ((((⟨#[47, 47]⟩ : ByteArray) ++ t193) ++ (⟨#[47, 46, 47, 120, 47, 46, 46, 47]⟩ : ByteArray)) ++ t198).size + 1 ≤ 9223372036854775807 then ((path_Clean.f kj7 (((((⟨#[47, 47]⟩ : ByteArray) ++ t193) ++ (⟨#[47, 46, 47, 120, 47, 46, 46, 47]⟩ : ByteArray)) ++ t198) ++ (⟨#[47]⟩ : ByteArray))).bind fun bt199 => (if bt199.1.toList = t179.toList then (if bt199.2 = 0 then ((aquiferlaw05_works.f kj7).bind fun t201 => (some t201)) else (some false)) else (some false))) else (none)) else (none))) else (none)) else (none))) else (none)) else (none)))) = some r := by rw [if_neg (show ¬ (false = true) by decide)] at H; exact H
          clear H
          have H := H1
          clear H1
          replace H := Option.bind_eq_some_iff.mp H
          obtain ⟨t186, A160, H⟩ := H
          replace H : (if (t186.length : Int) = 0 then (none) else (if 0 ≤ (Int.tmod (wrap64 ((Int.tmod a1 (t186.length : Int)) + (t186.length : Int))) (t186.length : Int)) then (if (Int.tmod (wrap64 ((Int.tmod a1 (t186.length : Int)) + (t186.length : Int))) (t186.length : Int)) ≤ (t186.length : Int) then ((strings_Join.f (t186.take ((Int.tmod (wrap64 ((Int.tmod a1 (t186.length : Int)) + (t186.length : Int))) (t186.length : Int)) : Int).toNat) (⟨#[47]⟩ : ByteArray)).bind fun t193 => (if 2 + t193.size ≤ 9223372036854775807 then (if ((⟨#[47, 47]⟩ : ByteArray) ++ t193).size + 8 ≤ 9223372036854775807 then ((strings_Join.f (t186.drop ((Int.tmod (wrap64 ((Int.tmod a1 (t186.length : Int)) + (t186.length : Int))) (t186.length : Int)) : Int).toNat) (⟨#[47, 47]⟩ : ByteArray)).bind fun t198 => (if (((⟨#[47, 47]⟩ : ByteArray) ++ t193) ++ (⟨#[47, 46, 47, 120, 47, 46, 46, 47]⟩ : ByteArray)).size + t198.size ≤ 9223372036854775807 then (if ((((⟨#[47, 47]⟩ : ByteArray) ++ t193) ++ (⟨#[47, 46, 47, 120, 47, 46, 46, 47]⟩ : ByteArray)) ++ t198).size + 1 ≤ 9223372036854775807 then ((path_Clean.f kj7 (((((⟨#[47, 47]⟩ : ByteArray) ++ t193) ++ (⟨#[47, 46, 47, 120, 47, 46, 46, 47]⟩ : ByteArray)) ++ t198) ++ (⟨#[47]⟩ : ByteArray))).bind fun bt199 => (if bt199.1.toList = t179.toList then (if bt199.2 = 0 then ((aquiferlaw05_works.f kj7).bind fun t201 => (some t201)) else (some false)) else (some false))) else (none)) else (none))) else (none)) else (none))) else (none)) else (none))) = some r := H
          have A16 := Aside0.mk A160
          clear A160
          by_cases c17 : (t186.length : Int) = 0
          · rw [if_pos c17] at H
            exact absurd H (by simp)
          · rw [if_neg c17] at H
            have c17b0 : ((t186.length : Int) == 0) = false := beq_eq_false_iff_ne.mpr c17
            have c17b1 : ((t186.length : Int) != 0) = true := bne_iff_ne.mpr c17
            have c17b2 : ¬ (t186 = []) := fun h_ => c17 (by rw [h_]; rfl)
            obtain ⟨ji18, hji18⟩ : ∃ j_ : Int, (Int.tmod (wrap64 ((Int.tmod a1 (t186.length : Int)) + (t186.length : Int))) (t186.length : Int)) = j_ := ⟨_, rfl⟩
            replace H : (if 0 ≤ (ji18) then (if (ji18) ≤ (t186.length : Int) then ((strings_Join.f (t186.take ((ji18) : Int).toNat) (⟨#[47]⟩ : ByteArray)).bind fun t193 => (if 2 + t193.size ≤ 9223372036854775807 then (if ((⟨#[47, 47]⟩ : ByteArray) ++ t193).size + 8 ≤ 9223372036854775807 then ((strings_Join.f (t186.drop ((ji18) : Int).toNat) (⟨#[47, 47]⟩ : ByteArray)).bind fun t198 => (if (((⟨#[47, 47]⟩ : ByteArray) ++ t193) ++ (⟨#[47, 46, 47, 120, 47, 46, 46, 47]⟩ : ByteArray)).size + t198.size ≤ 9223372036854775807 then (if ((((⟨#[47, 47]⟩ : ByteArray) ++ t193) ++ (⟨#[47, 46, 47, 120, 47, 46, 46, 47]⟩ : ByteArray)) ++ t198).size + 1 ≤ 9223372036854775807 then ((path_Clean.f kj7 (((((⟨#[47, 47]⟩ : ByteArray) ++ t193) ++ (⟨#[47, 46, 47, 120, 47, 46, 46, 47]⟩ : ByteArray)) ++ t198) ++ (⟨#[47]⟩ : ByteArray))).bind fun bt199 => (if bt199.1.toList = t179.toList then (if bt199.2 = 0 then ((aquiferlaw05_works.f kj7).bind fun t201 => (some t201)) else (some false)) else (some false))) else (none)) else (none))) else (none)) else (none))) else (none)) else (none)) = some r := by first | (rw [hji18] at H; exact H) | (simp only [hji18] at H ⊢; exact H)
            (try rw [hji18] at A16)
            by_cases c19 : 0 ≤ (ji18)
            · rw [if_pos c19] at H
              have c19b0 := eq_true c19
              have c19b1 : decide (0 ≤ (ji18)) = true := decide_eq_true c19
              clear c19
              by_cases c20 : (ji18) ≤ (t186.length : Int)
              · rw [if_pos c20] at H
                have c20b0 := eq_true c20
                have c20b1 : decide ((ji18) ≤ (t186.length : Int)) = true := decide_eq_true c20
                clear c20
                obtain ⟨y189, hy189⟩ : ∃ y_ : List ByteArray, y_ = (t186.take ((ji18) : Int).toNat) := ⟨_, rfl⟩
                replace H : ((strings_Join.f y189 (⟨#[47]⟩ : ByteArray)).bind fun t193 => (if 2 + t193.size ≤ 9223372036854775807 then (if ((⟨#[47, 47]⟩ : ByteArray) ++ t193).size + 8 ≤ 9223372036854775807 then ((strings_Join.f (t186.drop ((ji18) : Int).toNat) (⟨#[47, 47]⟩ : ByteArray)).bind fun t198 => (if (((⟨#[47, 47]⟩ : ByteArray) ++ t193) ++ (⟨#[47, 46, 47, 120, 47, 46, 46, 47]⟩ : ByteArray)).size + t198.size ≤ 9223372036854775807 then (if ((((⟨#[47, 47]⟩ : ByteArray) ++ t193) ++ (⟨#[47, 46, 47, 120, 47, 46, 46, 47]⟩ : ByteArray)) ++ t198).size + 1 ≤ 9223372036854775807 then ((path_Clean.f kj7 (((((⟨#[47, 47]⟩ : ByteArray) ++ t193) ++ (⟨#[47, 46, 47, 120, 47, 46, 46, 47]⟩ : ByteArray)) ++ t198) ++ (⟨#[47]⟩ : ByteArray))).bind fun bt199 => (if bt199.1.toList = t179.toList then (if bt199.2 = 0 then ((aquiferlaw05_works.f kj7).bind fun t201 => (some t201)) else (some false)) else (some false))) else (none)) else (none))) else (none)) else (none))) = some r := by first | (rw [hy189]; with_reducible exact H) | (have H2_ := (Option.bind_some _ _).symm.trans H; rw [hy189]; with_reducible exact H2_) | (have H2_ := (Option.bind_some _ _).symm.trans H; with_reducible exact H2_) | with_reducible exact H | (rw [hy189]; exact H) | exact H
                have Ny189 := Aside0.mk hy189
                clear hy189
                replace H := Option.bind_eq_some_iff.mp H
                obtain ⟨t193, A210, H⟩ := H
                replace H : (if 2 + t193.size ≤ 9223372036854775807 then (if ((⟨#[47, 47]⟩ : ByteArray) ++ t193).size + 8 ≤ 9223372036854775807 then ((strings_Join.f (t186.drop ((ji18) : Int).toNat) (⟨#[47, 47]⟩ : ByteArray)).bind fun t198 => (if (((⟨#[47, 47]⟩ : ByteArray) ++ t193) ++ (⟨#[47, 46, 47, 120, 47, 46, 46, 47]⟩ : ByteArray)).size + t198.size ≤ 9223372036854775807 then (if ((((⟨#[47, 47]⟩ : ByteArray) ++ t193) ++ (⟨#[47, 46, 47, 120, 47, 46, 46, 47]⟩ : ByteArray)) ++ t198).size + 1 ≤ 9223372036854775807 then ((path_Clean.f kj7 (((((⟨#[47, 47]⟩ : ByteArray) ++ t193) ++ (⟨#[47, 46, 47, 120, 47, 46, 46, 47]⟩ : ByteArray)) ++ t198) ++ (⟨#[47]⟩ : ByteArray))).bind fun bt199 => (if bt199.1.toList = t179.toList then (if bt199.2 = 0 then ((aquiferlaw05_works.f kj7).bind fun t201 => (some t201)) else (some false)) else (some false))) else (none)) else (none))) else (none)) else (none)) = some r := H
                have A21 := Aside0.mk A210
                clear A210
                by_cases c22 : 2 + t193.size ≤ 9223372036854775807
                · rw [if_pos c22] at H
                  have c22b0 := eq_true c22
                  have c22b1 : decide (2 + t193.size ≤ 9223372036854775807) = true := decide_eq_true c22
                  try have c22b2 : (9223372036854775807 < 2 + t193.size) = False := eq_false (Nat.not_lt.2 c22)
                  by_cases c23 : ((⟨#[47, 47]⟩ : ByteArray) ++ t193).size + 8 ≤ 9223372036854775807
                  · rw [if_pos c23] at H
                    have c23b0 := eq_true c23
                    have c23b1 : decide (((⟨#[47, 47]⟩ : ByteArray) ++ t193).size + 8 ≤ 9223372036854775807) = true := decide_eq_true c23
                    try have c23b2 : (9223372036854775807 < ((⟨#[47, 47]⟩ : ByteArray) ++ t193).size + 8) = False := eq_false (Nat.not_lt.2 c23)
                    (try (have c23b3 : (9223372036854775807 < 2 + t193.size + 8) = False := by (rw [show 2 + t193.size + 8 = ((⟨#[47, 47]⟩ : ByteArray) ++ t193).size + 8 from by (first | (simp only [ByteArray.size_append, Aid.lit_size, List.length_cons, List.length_nil, Nat.zero_add, Nat.reduceAdd]; done) | ((try simp only [decide_eq_true_eq, eq_iff_iff, iff_true] at *); simp only [ByteArray.size_extract, ByteArray.size_append, Aid.lit_size, List.length_cons, List.length_nil]; omega))]; exact c23b2)))
                    have c24b0 := eq_true (of_decide_eq_true (by first | (with_reducible assumption) | assumption) : 0 ≤ (ji18))
                    have c25b0 := eq_true (of_decide_eq_true (by first | (with_reducible assumption) | assumption) : (ji18) ≤ (t186.length : Int))
                    obtain ⟨y194, hy194⟩ : ∃ y_ : List ByteArray, y_ = (t186.drop ((ji18) : Int).toNat) := ⟨_, rfl⟩
                    replace H : ((strings_Join.f y194 (⟨#[47, 47]⟩ : ByteArray)).bind fun t198 => (if (((⟨#[47, 47]⟩ : ByteArray) ++ t193) ++ (⟨#[47, 46, 47, 120, 47, 46, 46, 47]⟩ : ByteArray)).size + t198.size ≤ 9223372036854775807 then (if ((((⟨#[47, 47]⟩ : ByteArray) ++ t193) ++ (⟨#[47, 46, 47, 120, 47, 46, 46, 47]⟩ : ByteArray)) ++ t198).size + 1 ≤ 9223372036854775807 then ((path_Clean.f kj7 (((((⟨#[47, 47]⟩ : ByteArray) ++ t193) ++ (⟨#[47, 46, 47, 120, 47, 46, 46, 47]⟩ : ByteArray)) ++ t198) ++ (⟨#[47]⟩ : ByteArray))).bind fun bt199 => (if bt199.1.toList = t179.toList then (if bt199.2 = 0 then ((aquiferlaw05_works.f kj7).bind fun t201 => (some t201)) else (some false)) else (some false))) else (none)) else (none))) = some r := by first | (rw [hy194]; with_reducible exact H) | (have H2_ := (Option.bind_some _ _).symm.trans H; rw [hy194]; with_reducible exact H2_) | (have H2_ := (Option.bind_some _ _).symm.trans H; with_reducible exact H2_) | with_reducible exact H | (rw [hy194]; exact H) | exact H
                    have Ny194 := Aside0.mk hy194
                    clear hy194
                    replace H := Option.bind_eq_some_iff.mp H
                    obtain ⟨t198, A260, H⟩ := H
                    replace H : (if (((⟨#[47, 47]⟩ : ByteArray) ++ t193) ++ (⟨#[47, 46, 47, 120, 47, 46, 46, 47]⟩ : ByteArray)).size + t198.size ≤ 9223372036854775807 then (if ((((⟨#[47, 47]⟩ : ByteArray) ++ t193) ++ (⟨#[47, 46, 47, 120, 47, 46, 46, 47]⟩ : ByteArray)) ++ t198).size + 1 ≤ 9223372036854775807 then ((path_Clean.f kj7 (((((⟨#[47, 47]⟩ : ByteArray) ++ t193) ++ (⟨#[47, 46, 47, 120, 47, 46, 46, 47]⟩ : ByteArray)) ++ t198) ++ (⟨#[47]⟩ : ByteArray))).bind fun bt199 => (if bt199.1.toList = t179.toList then (if bt199.2 = 0 then ((aquiferlaw05_works.f kj7).bind fun t201 => (some t201)) else (some false)) else (some false))) else (none)) else (none)) = some r := H
                    have A26 := Aside0.mk A260
                    clear A260
                    by_cases c27 : (((⟨#[47, 47]⟩ : ByteArray) ++ t193) ++ (⟨#[47, 46, 47, 120, 47, 46, 46, 47]⟩ : ByteArray)).size + t198.size ≤ 9223372036854775807
                    · rw [if_pos c27] at H
                      have c27b0 := eq_true c27
                      have c27b1 : decide ((((⟨#[47, 47]⟩ : ByteArray) ++ t193) ++ (⟨#[47, 46, 47, 120, 47, 46, 46, 47]⟩ : ByteArray)).size + t198.size ≤ 9223372036854775807) = true := decide_eq_true c27
                      try have c27b2 : (9223372036854775807 < (((⟨#[47, 47]⟩ : ByteArray) ++ t193) ++ (⟨#[47, 46, 47, 120, 47, 46, 46, 47]⟩ : ByteArray)).size + t198.size) = False := eq_false (Nat.not_lt.2 c27)
                      (try (have c27b3 : (9223372036854775807 < 2 + t193.size + 8 + t198.size) = False := by (rw [show 2 + t193.size + 8 + t198.size = (((⟨#[47, 47]⟩ : ByteArray) ++ t193) ++ (⟨#[47, 46, 47, 120, 47, 46, 46, 47]⟩ : ByteArray)).size + t198.size from by (first | (simp only [ByteArray.size_append, Aid.lit_size, List.length_cons, List.length_nil, Nat.zero_add, Nat.reduceAdd]; done) | ((try simp only [decide_eq_true_eq, eq_iff_iff, iff_true] at *); simp only [ByteArray.size_extract, ByteArray.size_append, Aid.lit_size, List.length_cons, List.length_nil]; omega))]; exact c27b2)))
                      by_cases c28 : ((((⟨#[47, 47]⟩ : ByteArray) ++ t193) ++ (⟨#[47, 46, 47, 120, 47, 46, 46, 47]⟩ : ByteArray)) ++ t198).size + 1 ≤ 9223372036854775807
                      · rw [if_pos c28] at H
                        have c28b0 := eq_true c28
                        have c28b1 : decide (((((⟨#[47, 47]⟩ : ByteArray) ++ t193) ++ (⟨#[47, 46, 47, 120, 47, 46, 46, 47]⟩ : ByteArray)) ++ t198).size + 1 ≤ 9223372036854775807) = true := decide_eq_true c28
                        try have c28b2 : (9223372036854775807 < ((((⟨#[47, 47]⟩ : ByteArray) ++ t193) ++ (⟨#[47, 46, 47, 120, 47, 46, 46, 47]⟩ : ByteArray)) ++ t198).size + 1) = False := eq_false (Nat.not_lt.2 c28)
                        (try (have c28b3 : (9223372036854775807 < 2 + t193.size + 8 + t198.size + 1) = False := by (rw [show 2 + t193.size + 8 + t198.size + 1 = ((((⟨#[47, 47]⟩ : ByteArray) ++ t193) ++ (⟨#[47, 46, 47, 120, 47, 46, 46, 47]⟩ : ByteArray)) ++ t198).size + 1 from by (first | (simp only [ByteArray.size_append, Aid.lit_size, List.length_cons, List.length_nil, Nat.zero_add, Nat.reduceAdd]; done) | ((try simp only [decide_eq_true_eq, eq_iff_iff, iff_true] at *); simp only [ByteArray.size_extract, ByteArray.size_append, Aid.lit_size, List.length_cons, List.length_nil]; omega))]; exact c28b2)))
                        replace H := Option.bind_eq_some_iff.mp H
                        obtain ⟨⟨t199, t200⟩, A290, H⟩ := H
                        replace H : (if t199.toList = t179.toList then (if t200 = 0 then ((aquiferlaw05_works.f kj7).bind fun t201 => (some t201)) else (some false)) else (some false)) = some r := H
                        have A29 := Aside0.mk A290
                        clear A290
                        by_cases c30 : t199.toList = t179.toList
                        · rw [if_pos c30] at H
                          have c30b0 : (t199.toList == t179.toList) = true := beq_iff_eq.mpr c30
                          have c30b1 : (t199.toList != t179.toList) = false := bne_eq_false_iff_eq.mpr c30
                          clear c30
                          by_cases c31 : t200 = 0
                          · rw [if_pos c31] at H
                            have c31b0 : (t200 == 0) = true := beq_iff_eq.mpr c31
                            have c31b1 : (t200 != 0) = false := bne_eq_false_iff_eq.mpr c31
                            clear c31
                            replace H := Option.bind_eq_some_iff.mp H
                            obtain ⟨t201, A320, H⟩ := H
                            replace H : (some t201) = some r := H
                            have A32 := Aside0.mk A320
                            clear A320
                            obtain rfl := Option.some.inj H
                            try go_wp2_with (first | ((with_reducible refine gate_callee (f := 14) rfl ?_); refine goesL_ (some 51) rfl rfl Tryd.func14 (by kernel_rfl) rfl #[.string t179, .string (⟨#[47]⟩ : ByteArray)] rfl (by (try simp only [List.map_toArray, List.map_cons, List.map_nil]); first | done | rfl | (simp only [List.length_drop, List.length_take]; rfl)) ?_; (with_reducible refine (strings_Split.calls kj7 t179 (⟨#[47]⟩ : ByteArray) t186 _ A16.out).mono ?_); rintro e w33 ⟨v187, rfl, ho0, hb⟩; refine ⟨_, rfl, ?_⟩; have n0_ := Aside0.mk (Kd.R_lower ho0 (below_size (by repeat (first | (with_reducible first | exact HB.out | apply below_alloc | apply pw_below_drewN | apply below_drew1) | exact HB.out)))); have n1_ := Aside0.mk (below_step (by repeat (first | (with_reducible first | exact HB.out | apply below_alloc | apply pw_below_drewN | apply below_drew1) | exact HB.out)) hb); clear HB; have HO188 := n0_; have HB := n1_; clear n0_ n1_; (try clear hb); (try clear hb2); (try clear hk); (try clear hi); (try clear ho0); obtain ⟨Ao34, co34, eo34⟩ := Kd.R_slice HO188.out; subst eo34))
                            have n0_ := Aside0.mk (Kd.R_drew HO188.out)
                            have n1_ := Aside0.mk (below_drew1 HB.out)
                            clear HO188
                            clear HB
                            have HO188 := n0_
                            have HB := n1_
                            clear n0_ n1_
                            have q36 : ((ji18) : Int) ≤ ((t186.length : Int) : Int) := of_decide_eq_true (by first | (with_reducible assumption) | assumption)
                            obtain ⟨i036, hi036, _, hsz36, _⟩ := info_parts info9
                            have hroom36 : t186.length ≤ co34 := (Kd.R_reads' HO188.out).2.1
                            have hC36 : Kd.C Kd.string _ Ao34 t186.length t186 := (Kd.R_reads' HO188.out).2.2
                            have hcut36 := cut_to (P := Tryd.prog) 29 9 .i64 Tryd.underlying29 hi036 Ao34 t186.length co34 (ji18) (of_decide_eq_true (by first | (with_reducible assumption) | assumption)) q36 hroom36
                            have hr36 := Kd.C_take (m := ((ji18) : Int).toNat) hC36 (by omega)
                            have hy36 : y189.length = ((ji18) : Int).toNat := (by rw [Ny189.out, List.length_take]; omega)
                            rw [← Ny189.out] at hr36
                            rw [← hy36] at hcut36
                            have HR192 := Aside0.mk hr36
                            have HC192 := Aside0.mk (show y189.length ≤ co34 from by omega)
                            clear hr36 hC36 hroom36 hi036 hsz36
                            have KY36 := Aside0.mk hy36
                            clear hy36
                            have KL36 := Aside0.mk (show ((ji18) : Int).toNat ≤ t186.length from by omega)
                            replace q36 := eq_true q36
                            have q37 : ((ji18) : Int) ≤ ((t186.length : Int) : Int) := of_decide_eq_true (by first | (with_reducible assumption) | assumption)
                            obtain ⟨i037, hi037, _, hsz37, _⟩ := info_parts info9
                            have hroom37 : t186.length ≤ co34 := (Kd.R_reads' HO188.out).2.1
                            have hC37 : Kd.C Kd.string _ Ao34 t186.length t186 := (Kd.R_reads' HO188.out).2.2
                            have q037 : (0 : Int) ≤ ((ji18) : Int) := of_decide_eq_true (by first | (with_reducible assumption) | assumption)
                            have hcut37 := cut_from (P := Tryd.prog) 29 9 .i64 Tryd.underlying29 hi037 1 hsz37 Ao34 t186.length co34 (ji18) q037 q37
                            have hr37 := Kd.C_drop (m := ((ji18) : Int).toNat) (c := co34) hC37 (by omega) hroom37
                            obtain ⟨A37, hA37⟩ : ∃ A1, A1 = (if co34 = ((ji18) : Int).toNat then Ao34 else (Ao34 : Option Addr).map (·.add (((ji18) : Int).toNat * 1))) := ⟨_, rfl⟩
                            obtain ⟨c37, hc37⟩ : ∃ c1, c1 = co34 - ((ji18) : Int).toNat := ⟨_, rfl⟩
                            have hy37 : y194.length = t186.length - ((ji18) : Int).toNat := (by rw [Ny194.out, List.length_drop] <;> omega)
                            rw [show (t186).drop ((ji18) : Int).toNat = y194 from Ny194.out.symm] at hr37
                            replace hr37 : Kd.C Kd.string _ A37 y194.length y194 := (by rw [hA37]; exact hr37)
                            rw [← hy37, ← hA37, ← hc37] at hcut37
                            have HR197 := Aside0.mk hr37
                            have HC197 := Aside0.mk (show y194.length ≤ c37 from by rw [hy37, hc37]; exact Nat.sub_le_sub_right hroom37 _)
                            clear hr37 hC37 hroom37 hi037 hsz37 hc37
                            have KY37 := Aside0.mk hy37
                            have KA37 := Aside0.mk hA37
                            clear hy37 hA37
                            have KL37 := Aside0.mk (show ((ji18) : Int).toNat ≤ t186.length from by omega)
                            replace q37 := eq_true q37
                            refine start_ (n := 18) (S := fun w' => True) (ds := []) #[false, false, false, false, false, false, false, false, false, false, false, false, false, false, false, false, false, false] (by kernel_rfl) rfl rfl trivial (fun hHeld => ?_); refine with_tabW aquiferlaw05_PathClean.tab11 aquiferlaw05_PathClean.bits11 (fun HT_ HW_ => ?_)
                            generalize w33.drew = w35 at HO188 HB HR192 HR197 hHeld ⊢
                            refine pure_ (i := 0) (N := some 63) (v := ?_) (a' := ?_) #[true, false, false, false, false, false, false, false, false, false, false, false, false, false, false, false, false, false] rfl rfl (any_of HT_.out (by kernel_rfl)) (fun _ _ _ h => h) (Or.inl ⟨by rfl, ?_⟩) ?_ ?_
                            rotate_left
                            · intro w'
                              go_simp
                              with_reducible rfl
                            rotate_left
                            · simp only [Act.put, List.setIfInBounds_toArray, List.set_cons_zero, List.set_cons_succ, i64_w, i32_w]
                              rfl
                            refine pure_ (i := 1) (N := some 64) (v := ?_) (a' := ?_) #[true, true, false, false, false, false, false, false, false, false, false, false, false, false, false, false, false, false] rfl rfl (any_of HT_.out (by kernel_rfl)) (fun _ _ _ h => h) (Or.inl ⟨by rfl, ?_⟩) ?_ ?_
                            rotate_left
                            · intro w'
                              go_simp
                              with_reducible rfl
                            rotate_left
                            · simp only [Act.put, List.setIfInBounds_toArray, List.set_cons_zero, List.set_cons_succ, i64_w, i32_w]
                              rfl
                            refine pure_ (i := 2) (N := some 65) (v := ?_) (a' := ?_) #[true, true, true, false, false, false, false, false, false, false, false, false, false, false, false, false, false, false] rfl rfl (any_of HT_.out (by kernel_rfl)) (fun _ _ _ h => h) (Or.inl ⟨by rfl, ?_⟩) ?_ ?_
                            rotate_left
                            · intro w'
                              go_simp
                              with_reducible rfl
                            rotate_left
                            · simp only [Act.put, List.setIfInBounds_toArray, List.set_cons_zero, List.set_cons_succ, i64_w, i32_w]
                              rfl
                            refine pure_ (i := 6) (N := some 69) (v := ?_) (a' := ?_) #[true, true, true, false, false, false, true, false, false, false, false, false, false, false, false, false, false, false] rfl rfl (any_of HT_.out (by kernel_rfl)) (fun _ _ _ h => h) (Or.inl ⟨by rfl, ?_⟩) ?_ ?_
                            rotate_left
                            · intro w'
                              go_simp
                              with_reducible rfl
                            rotate_left
                            · simp only [Act.put, List.setIfInBounds_toArray, List.set_cons_zero, List.set_cons_succ, i64_w, i32_w]
                              rfl
                            refine pure_ (i := 7) (N := some 70) (v := ?_) (a' := ?_) #[true, true, true, false, false, false, true, true, false, false, false, false, false, false, false, false, false, false] rfl rfl (any_of HT_.out (by kernel_rfl)) (fun _ _ _ h => h) (Or.inl ⟨by rfl, ?_⟩) ?_ ?_
                            rotate_left
                            · intro w'
                              go_simp
                              with_reducible rfl
                            rotate_left
                            · simp only [Act.put, List.setIfInBounds_toArray, List.set_cons_zero, List.set_cons_succ, i64_w, i32_w]
                              rfl
                            refine pure_ (i := 8) (N := some 71) (v := ?_) (a' := ?_) #[true, true, true, false, false, false, true, true, true, false, false, false, false, false, false, false, false, false] rfl rfl (any_of HT_.out (by kernel_rfl)) (fun _ _ _ h => h) (Or.inl ⟨by rfl, ?_⟩) ?_ ?_
                            rotate_left
                            · intro w'
                              go_simp
                              with_reducible rfl
                            rotate_left
                            · simp only [Act.put, List.setIfInBounds_toArray, List.set_cons_zero, List.set_cons_succ, i64_w, i32_w]
                              rfl
                            refine one_ (i := 3) (N := some 66) #[true, true, true, true, false, false, true, true, true, false, false, false, false, false, false, false, false, false] rfl rfl (one_of HT_.out (by kernel_rfl)) (by decide) (fun K hK => ?_)
                            refine goes_ Tryd.func15 (by kernel_rfl) rfl #[.slice Ao34 y189.length co34, .string (⟨#[47]⟩ : ByteArray)] (by rfl) rfl rfl (by (try simp only [List.map_toArray, List.map_cons, List.map_nil]); first | done | rfl | (simp only [List.length_drop, List.length_take]; rfl)) ?_
                            with_reducible refine (strings_Join.calls _ _ y189 (⟨#[47]⟩ : ByteArray) t193 _ ?side1 ?side2 A21.out).mono ?_
                            (case side1 => repeat (first | exact (by repeat (first | (with_reducible exact HR192.out) | (with_reducible refine Kd.C_alloc ?_ _) | (with_reducible refine Kd.C_drewN ?_ _) | (with_reducible refine Kd.C_drew ?_) | exact HR192.out)) | (with_reducible refine Kd.C_alloc ?_ _) | (with_reducible refine Kd.C_drewN ?_ _) | (with_reducible refine Kd.C_drew ?_)))
                            (case side2 => exact HC192.out)
                            rintro e w38 ⟨rfl, hb⟩
                            refine ⟨_, rfl, ?_⟩
                            have n0_ := Aside0.mk (Kd.R_below (by (with_reducible repeat (first | apply Kd.R_alloc | apply Kd.R_drewN | apply Kd.R_drew)); exact HO188.out) hb)
                            have n1_ := Aside0.mk (Kd.C_below (by repeat (first | (with_reducible exact HR192.out) | (with_reducible refine Kd.C_alloc ?_ _) | (with_reducible refine Kd.C_drewN ?_ _) | (with_reducible refine Kd.C_drew ?_) | exact HR192.out)) hb)
                            have n2_ := Aside0.mk (Kd.C_below (by repeat (first | (with_reducible exact HR197.out) | (with_reducible refine Kd.C_alloc ?_ _) | (with_reducible refine Kd.C_drewN ?_ _) | (with_reducible refine Kd.C_drew ?_) | exact HR197.out)) hb)
                            have n3_ := Aside0.mk (below_step (by repeat (first | (with_reducible first | exact HB.out | apply below_alloc | apply pw_below_drewN | apply below_drew1) | exact HB.out)) hb)
                            clear HO188
                            clear HR192
                            clear HR197
                            clear HB
                            have HO188 := n0_
                            have HR192 := n1_
                            have HR197 := n2_
                            have HB := n3_
                            clear n0_ n1_ n2_ n3_
                            (try clear hb)
                            (try clear hb2)
                            (try clear hk)
                            (try clear hi)
                            refine hK.out _ _ trivial (fun hHeld => ?_)
                            clear hK K
                            refine norm_ (a' := ?_) ?_ ?_
                            rotate_left
                            · show Act.put _ (some 66) _ = _
                              simp only [Act.put, List.setIfInBounds_toArray, List.set_cons_zero, List.set_cons_succ, i64_w, i32_w]
                              rfl
                            refine pure_ (i := 4) (N := some 67) (v := ?_) (a' := ?_) #[true, true, true, true, true, false, true, true, true, false, false, false, false, false, false, false, false, false] rfl rfl (any_of HT_.out (by kernel_rfl)) (fun _ _ _ h => h) (Or.inl ⟨by rfl, ?_⟩) ?_ ?_
                            rotate_left
                            · intro w'
                              go_simp
                              with_reducible rfl
                            rotate_left
                            · simp only [Act.put, List.setIfInBounds_toArray, List.set_cons_zero, List.set_cons_succ, i64_w, i32_w]
                              rfl
                            refine pure_ (i := 5) (N := some 68) (v := ?_) (a' := ?_) #[true, true, true, true, true, true, true, true, true, false, false, false, false, false, false, false, false, false] rfl rfl (any_of HT_.out (by kernel_rfl)) (fun _ _ _ h => h) (Or.inl ⟨by rfl, ?_⟩) ?_ ?_
                            rotate_left
                            · intro w'
                              go_simp
                              with_reducible rfl
                            rotate_left
                            · simp only [Act.put, List.setIfInBounds_toArray, List.set_cons_zero, List.set_cons_succ, i64_w, i32_w]
                              rfl
                            refine one_ (i := 9) (N := some 72) #[true, true, true, true, true, true, true, true, true, true, false, false, false, false, false, false, false, false] rfl rfl (one_of HT_.out (by kernel_rfl)) (by decide) (fun K hK => ?_)
                            refine goes_ Tryd.func15 (by kernel_rfl) rfl #[.slice A37 y194.length c37, .string (⟨#[47, 47]⟩ : ByteArray)] (by rfl) rfl rfl (by (try simp only [List.map_toArray, List.map_cons, List.map_nil]); first | done | rfl | (simp only [List.length_drop, List.length_take]; rfl)) ?_
                            with_reducible refine (strings_Join.calls _ _ y194 (⟨#[47, 47]⟩ : ByteArray) t198 _ ?side1 ?side2 A26.out).mono ?_
                            (case side1 => repeat (first | exact (by repeat (first | (with_reducible exact HR197.out) | (with_reducible refine Kd.C_alloc ?_ _) | (with_reducible refine Kd.C_drewN ?_ _) | (with_reducible refine Kd.C_drew ?_) | exact HR197.out)) | (with_reducible refine Kd.C_alloc ?_ _) | (with_reducible refine Kd.C_drewN ?_ _) | (with_reducible refine Kd.C_drew ?_)))
                            (case side2 => exact HC197.out)
                            rintro e w39 ⟨rfl, hb⟩
                            refine ⟨_, rfl, ?_⟩
                            have n0_ := Aside0.mk (Kd.R_below (by (with_reducible repeat (first | apply Kd.R_alloc | apply Kd.R_drewN | apply Kd.R_drew)); exact HO188.out) hb)
                            have n1_ := Aside0.mk (Kd.C_below (by repeat (first | (with_reducible exact HR192.out) | (with_reducible refine Kd.C_alloc ?_ _) | (with_reducible refine Kd.C_drewN ?_ _) | (with_reducible refine Kd.C_drew ?_) | exact HR192.out)) hb)
                            have n2_ := Aside0.mk (Kd.C_below (by repeat (first | (with_reducible exact HR197.out) | (with_reducible refine Kd.C_alloc ?_ _) | (with_reducible refine Kd.C_drewN ?_ _) | (with_reducible refine Kd.C_drew ?_) | exact HR197.out)) hb)
                            have n3_ := Aside0.mk (below_step (by repeat (first | (with_reducible first | exact HB.out | apply below_alloc | apply pw_below_drewN | apply below_drew1) | exact HB.out)) hb)
                            clear HO188
                            clear HR192
                            clear HR197
                            clear HB
                            have HO188 := n0_
                            have HR192 := n1_
                            have HR197 := n2_
                            have HB := n3_
                            clear n0_ n1_ n2_ n3_
                            (try clear hb)
                            (try clear hb2)
                            (try clear hk)
                            (try clear hi)
                            refine hK.out _ _ trivial (fun hHeld => ?_)
                            clear hK K
                            refine norm_ (a' := ?_) ?_ ?_
                            rotate_left
                            · show Act.put _ (some 72) _ = _
                              simp only [Act.put, List.setIfInBounds_toArray, List.set_cons_zero, List.set_cons_succ, i64_w, i32_w]
                              rfl
                            refine pure_ (i := 10) (N := some 73) (v := ?_) (a' := ?_) #[true, true, true, true, true, true, true, true, true, true, true, false, false, false, false, false, false, false] rfl rfl (any_of HT_.out (by kernel_rfl)) (fun _ _ _ h => h) (Or.inl ⟨by rfl, ?_⟩) ?_ ?_
                            rotate_left
                            · intro w'
                              go_simp
                              with_reducible rfl
                            rotate_left
                            · simp only [Act.put, List.setIfInBounds_toArray, List.set_cons_zero, List.set_cons_succ, i64_w, i32_w]
                              rfl
                            refine pure_ (i := 11) (N := some 74) (v := ?_) (a' := ?_) #[true, true, true, true, true, true, true, true, true, true, true, true, false, false, false, false, false, false] rfl rfl (any_of HT_.out (by kernel_rfl)) (fun _ _ _ h => h) (Or.inl ⟨by rfl, ?_⟩) ?_ ?_
                            rotate_left
                            · intro w'
                              go_simp
                              with_reducible rfl
                            rotate_left
                            · simp only [Act.put, List.setIfInBounds_toArray, List.set_cons_zero, List.set_cons_succ, i64_w, i32_w]
                              rfl
                            refine one_ (i := 12) (N := some 75) #[true, true, true, true, true, true, true, true, true, true, true, true, true, false, false, false, false, false] rfl rfl (one_of HT_.out (by kernel_rfl)) (by decide) (fun K hK => ?_)
                            refine goes_ Tryd.func11 (by kernel_rfl) rfl #[.string (((((⟨#[47, 47]⟩ : ByteArray) ++ t193) ++ (⟨#[47, 46, 47, 120, 47, 46, 46, 47]⟩ : ByteArray)) ++ t198) ++ (⟨#[47]⟩ : ByteArray))] (by rfl) rfl rfl (by (try simp only [List.map_toArray, List.map_cons, List.map_nil]); first | done | rfl | (simp only [List.length_drop, List.length_take]; rfl)) ?_
                            with_reducible refine (path_Clean.calls kj7 (((((⟨#[47, 47]⟩ : ByteArray) ++ t193) ++ (⟨#[47, 46, 47, 120, 47, 46, 46, 47]⟩ : ByteArray)) ++ t198) ++ (⟨#[47]⟩ : ByteArray)) t199 t200 _ A29.out).mono ?_
                            rintro e w40 ⟨rfl, hb⟩
                            refine ⟨_, rfl, ?_⟩
                            have n0_ := Aside0.mk (Kd.R_below (by (with_reducible repeat (first | apply Kd.R_alloc | apply Kd.R_drewN | apply Kd.R_drew)); exact HO188.out) hb)
                            have n1_ := Aside0.mk (Kd.C_below (by repeat (first | (with_reducible exact HR192.out) | (with_reducible refine Kd.C_alloc ?_ _) | (with_reducible refine Kd.C_drewN ?_ _) | (with_reducible refine Kd.C_drew ?_) | exact HR192.out)) hb)
                            have n2_ := Aside0.mk (Kd.C_below (by repeat (first | (with_reducible exact HR197.out) | (with_reducible refine Kd.C_alloc ?_ _) | (with_reducible refine Kd.C_drewN ?_ _) | (with_reducible refine Kd.C_drew ?_) | exact HR197.out)) hb)
                            have n3_ := Aside0.mk (below_step (by repeat (first | (with_reducible first | exact HB.out | apply below_alloc | apply pw_below_drewN | apply below_drew1) | exact HB.out)) hb)
                            clear HO188
                            clear HR192
                            clear HR197
                            clear HB
                            have HO188 := n0_
                            have HR192 := n1_
                            have HR197 := n2_
                            have HB := n3_
                            clear n0_ n1_ n2_ n3_
                            (try clear hb)
                            (try clear hb2)
                            (try clear hk)
                            (try clear hi)
                            refine hK.out _ _ trivial (fun hHeld => ?_)
                            clear hK K
                            refine norm_ (a' := ?_) ?_ ?_
                            rotate_left
                            · show Act.put _ (some 75) _ = _
                              simp only [Act.put, List.setIfInBounds_toArray, List.set_cons_zero, List.set_cons_succ, i64_w, i32_w]
                              rfl
                            refine pure_ (i := 13) (N := some 62) (v := ?_) (a' := ?_) #[true, true, true, true, true, true, true, true, true, true, true, true, true, true, false, false, false, false] rfl rfl (any_of HT_.out (by kernel_rfl)) (fun _ _ _ h => h) (Or.inl ⟨by rfl, ?_⟩) ?_ ?_
                            rotate_left
                            · intro w'
                              go_simp
                              with_reducible rfl
                            rotate_left
                            · simp only [Act.put, List.setIfInBounds_toArray, List.set_cons_zero, List.set_cons_succ, i64_w, i32_w]
                              rfl
                            refine pure_ (i := 14) (N := some 76) (v := ?_) (a' := ?_) #[true, true, true, true, true, true, true, true, true, true, true, true, true, true, true, false, false, false] rfl rfl (any_of HT_.out (by kernel_rfl)) (fun _ _ _ h => h) (Or.inl ⟨by rfl, ?_⟩) ?_ ?_
                            rotate_left
                            · intro w'
                              go_simp
                              with_reducible rfl
                            rotate_left
                            · simp only [Act.put, List.setIfInBounds_toArray, List.set_cons_zero, List.set_cons_succ, i64_w, i32_w]
                              rfl
                            refine pure_ (i := 15) (N := some 77) (v := ?_) (a' := ?_) #[true, true, true, true, true, true, true, true, true, true, true, true, true, true, true, true, false, false] rfl rfl (any_of HT_.out (by kernel_rfl)) (fun _ _ _ h => h) (Or.inl ⟨by rfl, ?_⟩) ?_ ?_
                            rotate_left
                            · intro w'
                              go_simp
                              with_reducible rfl
                            rotate_left
                            · simp only [Act.put, List.setIfInBounds_toArray, List.set_cons_zero, List.set_cons_succ, i64_w, i32_w]
                              rfl
                            refine pure_ (i := 16) (N := some 13) (v := ?_) (a' := ?_) #[true, true, true, true, true, true, true, true, true, true, true, true, true, true, true, true, true, false] rfl rfl (any_of HT_.out (by kernel_rfl)) (fun _ _ _ h => h) (Or.inl ⟨by rfl, ?_⟩) ?_ ?_
                            rotate_left
                            · intro w'
                              go_simp
                              with_reducible rfl
                            rotate_left
                            · simp only [Act.put, List.setIfInBounds_toArray, List.set_cons_zero, List.set_cons_succ, i64_w, i32_w]
                              rfl
                            refine pure_ (i := 17) (N := some 14) (v := ?_) (a' := ?_) #[true, true, true, true, true, true, true, true, true, true, true, true, true, true, true, true, true, true] rfl rfl (any_of HT_.out (by kernel_rfl)) (fun _ _ _ h => h) (Or.inl ⟨by rfl, ?_⟩) ?_ ?_
                            rotate_left
                            · intro w'
                              go_simp
                              with_reducible rfl
                            rotate_left
                            · simp only [Act.put, List.setIfInBounds_toArray, List.set_cons_zero, List.set_cons_succ, i64_w, i32_w]
                              rfl
                            refine done_ (done_of HT_.out (by kernel_rfl)) ?_
                            try go_wp2_with (first | (go_at_call 12; (with_reducible refine (aquiferlaw05_works.calls kj7  t201 _ A32.out).mono ?_); rintro e w41 ⟨rfl, hb⟩; have n0_ := Aside0.mk (Kd.R_below (by (with_reducible repeat (first | apply Kd.R_alloc | apply Kd.R_drewN | apply Kd.R_drew)); exact HO188.out) hb); have n1_ := Aside0.mk (Kd.C_below (by repeat (first | (with_reducible exact HR192.out) | (with_reducible refine Kd.C_alloc ?_ _) | (with_reducible refine Kd.C_drewN ?_ _) | (with_reducible refine Kd.C_drew ?_) | exact HR192.out)) hb); have n2_ := Aside0.mk (Kd.C_below (by repeat (first | (with_reducible exact HR197.out) | (with_reducible refine Kd.C_alloc ?_ _) | (with_reducible refine Kd.C_drewN ?_ _) | (with_reducible refine Kd.C_drew ?_) | exact HR197.out)) hb); have n3_ := Aside0.mk (below_step (by repeat (first | (with_reducible first | exact HB.out | apply below_alloc | apply pw_below_drewN | apply below_drew1) | exact HB.out)) hb); clear HO188; clear HR192; clear HR197; clear HB; have HO188 := n0_; have HR192 := n1_; have HR197 := n2_; have HB := n3_; clear n0_ n1_ n2_ n3_; (try clear hb); (try clear hb2); (try clear hk); (try clear hi)))
                            go_ret
                            exact ⟨by first | rfl | (simp [errW_none, errW_some] <;> rfl) | (simp only [← hji18]; first | rfl | (simp [errW_none, errW_some] <;> rfl)) | (simp [*, errW_none, errW_some] <;> rfl), by repeat (first | (with_reducible first | exact HB.out | apply below_alloc | apply pw_below_drewN | apply below_drew1) | exact HB.out)⟩
                          · rw [if_neg c31] at H
                            have c31b0 : (t200 == 0) = false := beq_eq_false_iff_ne.mpr c31
                            have c31b1 : (t200 != 0) = true := bne_iff_ne.mpr c31
                            obtain rfl := Option.some.inj H
                            try go_wp2_with (first | ((with_reducible refine gate_callee (f := 14) rfl ?_); refine goesL_ (some 51) rfl rfl Tryd.func14 (by kernel_rfl) rfl #[.string t179, .string (⟨#[47]⟩ : ByteArray)] rfl (by (try simp only [List.map_toArray, List.map_cons, List.map_nil]); first | done | rfl | (simp only [List.length_drop, List.length_take]; rfl)) ?_; (with_reducible refine (strings_Split.calls kj7 t179 (⟨#[47]⟩ : ByteArray) t186 _ A16.out).mono ?_); rintro e w42 ⟨v187, rfl, ho0, hb⟩; refine ⟨_, rfl, ?_⟩; have n0_ := Aside0.mk (Kd.R_lower ho0 (below_size (by repeat (first | (with_reducible first | exact HB.out | apply below_alloc | apply pw_below_drewN | apply below_drew1) | exact HB.out)))); have n1_ := Aside0.mk (below_step (by repeat (first | (with_reducible first | exact HB.out | apply below_alloc | apply pw_below_drewN | apply below_drew1) | exact HB.out)) hb); clear HB; have HO188 := n0_; have HB := n1_; clear n0_ n1_; (try clear hb); (try clear hb2); (try clear hk); (try clear hi); (try clear ho0); obtain ⟨Ao43, co43, eo43⟩ := Kd.R_slice HO188.out; subst eo43))
                            have n0_ := Aside0.mk (Kd.R_drew HO188.out)
                            have n1_ := Aside0.mk (below_drew1 HB.out)
                            clear HO188
                            clear HB
                            have HO188 := n0_
                            have HB := n1_
                            clear n0_ n1_
                            have q45 : ((ji18) : Int) ≤ ((t186.length : Int) : Int) := of_decide_eq_true (by first | (with_reducible assumption) | assumption)
                            obtain ⟨i045, hi045, _, hsz45, _⟩ := info_parts info9
                            have hroom45 : t186.length ≤ co43 := (Kd.R_reads' HO188.out).2.1
                            have hC45 : Kd.C Kd.string _ Ao43 t186.length t186 := (Kd.R_reads' HO188.out).2.2
                            have hcut45 := cut_to (P := Tryd.prog) 29 9 .i64 Tryd.underlying29 hi045 Ao43 t186.length co43 (ji18) (of_decide_eq_true (by first | (with_reducible assumption) | assumption)) q45 hroom45
                            have hr45 := Kd.C_take (m := ((ji18) : Int).toNat) hC45 (by omega)
                            have hy45 : y189.length = ((ji18) : Int).toNat := (by rw [Ny189.out, List.length_take]; omega)
                            rw [← Ny189.out] at hr45
                            rw [← hy45] at hcut45
                            have HR192 := Aside0.mk hr45
                            have HC192 := Aside0.mk (show y189.length ≤ co43 from by omega)
                            clear hr45 hC45 hroom45 hi045 hsz45
                            have KY45 := Aside0.mk hy45
                            clear hy45
                            have KL45 := Aside0.mk (show ((ji18) : Int).toNat ≤ t186.length from by omega)
                            replace q45 := eq_true q45
                            have q46 : ((ji18) : Int) ≤ ((t186.length : Int) : Int) := of_decide_eq_true (by first | (with_reducible assumption) | assumption)
                            obtain ⟨i046, hi046, _, hsz46, _⟩ := info_parts info9
                            have hroom46 : t186.length ≤ co43 := (Kd.R_reads' HO188.out).2.1
                            have hC46 : Kd.C Kd.string _ Ao43 t186.length t186 := (Kd.R_reads' HO188.out).2.2
                            have q046 : (0 : Int) ≤ ((ji18) : Int) := of_decide_eq_true (by first | (with_reducible assumption) | assumption)
                            have hcut46 := cut_from (P := Tryd.prog) 29 9 .i64 Tryd.underlying29 hi046 1 hsz46 Ao43 t186.length co43 (ji18) q046 q46
                            have hr46 := Kd.C_drop (m := ((ji18) : Int).toNat) (c := co43) hC46 (by omega) hroom46
                            obtain ⟨A46, hA46⟩ : ∃ A1, A1 = (if co43 = ((ji18) : Int).toNat then Ao43 else (Ao43 : Option Addr).map (·.add (((ji18) : Int).toNat * 1))) := ⟨_, rfl⟩
                            obtain ⟨c46, hc46⟩ : ∃ c1, c1 = co43 - ((ji18) : Int).toNat := ⟨_, rfl⟩
                            have hy46 : y194.length = t186.length - ((ji18) : Int).toNat := (by rw [Ny194.out, List.length_drop] <;> omega)
                            rw [show (t186).drop ((ji18) : Int).toNat = y194 from Ny194.out.symm] at hr46
                            replace hr46 : Kd.C Kd.string _ A46 y194.length y194 := (by rw [hA46]; exact hr46)
                            rw [← hy46, ← hA46, ← hc46] at hcut46
                            have HR197 := Aside0.mk hr46
                            have HC197 := Aside0.mk (show y194.length ≤ c46 from by rw [hy46, hc46]; exact Nat.sub_le_sub_right hroom46 _)
                            clear hr46 hC46 hroom46 hi046 hsz46 hc46
                            have KY46 := Aside0.mk hy46
                            have KA46 := Aside0.mk hA46
                            clear hy46 hA46
                            have KL46 := Aside0.mk (show ((ji18) : Int).toNat ≤ t186.length from by omega)
                            replace q46 := eq_true q46
                            refine start_ (n := 18) (S := fun w' => True) (ds := []) #[false, false, false, false, false, false, false, false, false, false, false, false, false, false, false, false, false, false] (by kernel_rfl) rfl rfl trivial (fun hHeld => ?_); refine with_tabW aquiferlaw05_PathClean.tab11 aquiferlaw05_PathClean.bits11 (fun HT_ HW_ => ?_)
                            generalize w42.drew = w44 at HO188 HB HR192 HR197 hHeld ⊢
                            refine pure_ (i := 0) (N := some 63) (v := ?_) (a' := ?_) #[true, false, false, false, false, false, false, false, false, false, false, false, false, false, false, false, false, false] rfl rfl (any_of HT_.out (by kernel_rfl)) (fun _ _ _ h => h) (Or.inl ⟨by rfl, ?_⟩) ?_ ?_
                            rotate_left
                            · intro w'
                              go_simp
                              with_reducible rfl
                            rotate_left
                            · simp only [Act.put, List.setIfInBounds_toArray, List.set_cons_zero, List.set_cons_succ, i64_w, i32_w]
                              rfl
                            refine pure_ (i := 1) (N := some 64) (v := ?_) (a' := ?_) #[true, true, false, false, false, false, false, false, false, false, false, false, false, false, false, false, false, false] rfl rfl (any_of HT_.out (by kernel_rfl)) (fun _ _ _ h => h) (Or.inl ⟨by rfl, ?_⟩) ?_ ?_
                            rotate_left
                            · intro w'
                              go_simp
                              with_reducible rfl
                            rotate_left
                            · simp only [Act.put, List.setIfInBounds_toArray, List.set_cons_zero, List.set_cons_succ, i64_w, i32_w]
                              rfl
                            refine pure_ (i := 2) (N := some 65) (v := ?_) (a' := ?_) #[true, true, true, false, false, false, false, false, false, false, false, false, false, false, false, false, false, false] rfl rfl (any_of HT_.out (by kernel_rfl)) (fun _ _ _ h => h) (Or.inl ⟨by rfl, ?_⟩) ?_ ?_
                            rotate_left
                            · intro w'
                              go_simp
                              with_reducible rfl
                            rotate_left
                            · simp only [Act.put, List.setIfInBounds_toArray, List.set_cons_zero, List.set_cons_succ, i64_w, i32_w]
                              rfl
                            refine pure_ (i := 6) (N := some 69) (v := ?_) (a' := ?_) #[true, true, true, false, false, false, true, false, false, false, false, false, false, false, false, false, false, false] rfl rfl (any_of HT_.out (by kernel_rfl)) (fun _ _ _ h => h) (Or.inl ⟨by rfl, ?_⟩) ?_ ?_
                            rotate_left
                            · intro w'
                              go_simp
                              with_reducible rfl
                            rotate_left
                            · simp only [Act.put, List.setIfInBounds_toArray, List.set_cons_zero, List.set_cons_succ, i64_w, i32_w]
                              rfl
                            refine pure_ (i := 7) (N := some 70) (v := ?_) (a' := ?_) #[true, true, true, false, false, false, true, true, false, false, false, false, false, false, false, false, false, false] rfl rfl (any_of HT_.out (by kernel_rfl)) (fun _ _ _ h => h) (Or.inl ⟨by rfl, ?_⟩) ?_ ?_
                            rotate_left
                            · intro w'
                              go_simp
                              with_reducible rfl
                            rotate_left
                            · simp only [Act.put, List.setIfInBounds_toArray, List.set_cons_zero, List.set_cons_succ, i64_w, i32_w]
                              rfl
                            refine pure_ (i := 8) (N := some 71) (v := ?_) (a' := ?_) #[true, true, true, false, false, false, true, true, true, false, false, false, false, false, false, false, false, false] rfl rfl (any_of HT_.out (by kernel_rfl)) (fun _ _ _ h => h) (Or.inl ⟨by rfl, ?_⟩) ?_ ?_
                            rotate_left
                            · intro w'
                              go_simp
                              with_reducible rfl
                            rotate_left
                            · simp only [Act.put, List.setIfInBounds_toArray, List.set_cons_zero, List.set_cons_succ, i64_w, i32_w]
                              rfl
                            refine one_ (i := 3) (N := some 66) #[true, true, true, true, false, false, true, true, true, false, false, false, false, false, false, false, false, false] rfl rfl (one_of HT_.out (by kernel_rfl)) (by decide) (fun K hK => ?_)
                            refine goes_ Tryd.func15 (by kernel_rfl) rfl #[.slice Ao43 y189.length co43, .string (⟨#[47]⟩ : ByteArray)] (by rfl) rfl rfl (by (try simp only [List.map_toArray, List.map_cons, List.map_nil]); first | done | rfl | (simp only [List.length_drop, List.length_take]; rfl)) ?_
                            with_reducible refine (strings_Join.calls _ _ y189 (⟨#[47]⟩ : ByteArray) t193 _ ?side1 ?side2 A21.out).mono ?_
                            (case side1 => repeat (first | exact (by repeat (first | (with_reducible exact HR192.out) | (with_reducible refine Kd.C_alloc ?_ _) | (with_reducible refine Kd.C_drewN ?_ _) | (with_reducible refine Kd.C_drew ?_) | exact HR192.out)) | (with_reducible refine Kd.C_alloc ?_ _) | (with_reducible refine Kd.C_drewN ?_ _) | (with_reducible refine Kd.C_drew ?_)))
                            (case side2 => exact HC192.out)
                            rintro e w47 ⟨rfl, hb⟩
                            refine ⟨_, rfl, ?_⟩
                            have n0_ := Aside0.mk (Kd.R_below (by (with_reducible repeat (first | apply Kd.R_alloc | apply Kd.R_drewN | apply Kd.R_drew)); exact HO188.out) hb)
                            have n1_ := Aside0.mk (Kd.C_below (by repeat (first | (with_reducible exact HR192.out) | (with_reducible refine Kd.C_alloc ?_ _) | (with_reducible refine Kd.C_drewN ?_ _) | (with_reducible refine Kd.C_drew ?_) | exact HR192.out)) hb)
                            have n2_ := Aside0.mk (Kd.C_below (by repeat (first | (with_reducible exact HR197.out) | (with_reducible refine Kd.C_alloc ?_ _) | (with_reducible refine Kd.C_drewN ?_ _) | (with_reducible refine Kd.C_drew ?_) | exact HR197.out)) hb)
                            have n3_ := Aside0.mk (below_step (by repeat (first | (with_reducible first | exact HB.out | apply below_alloc | apply pw_below_drewN | apply below_drew1) | exact HB.out)) hb)
                            clear HO188
                            clear HR192
                            clear HR197
                            clear HB
                            have HO188 := n0_
                            have HR192 := n1_
                            have HR197 := n2_
                            have HB := n3_
                            clear n0_ n1_ n2_ n3_
                            (try clear hb)
                            (try clear hb2)
                            (try clear hk)
                            (try clear hi)
                            refine hK.out _ _ trivial (fun hHeld => ?_)
                            clear hK K
                            refine norm_ (a' := ?_) ?_ ?_
                            rotate_left
                            · show Act.put _ (some 66) _ = _
                              simp only [Act.put, List.setIfInBounds_toArray, List.set_cons_zero, List.set_cons_succ, i64_w, i32_w]
                              rfl
                            refine pure_ (i := 4) (N := some 67) (v := ?_) (a' := ?_) #[true, true, true, true, true, false, true, true, true, false, false, false, false, false, false, false, false, false] rfl rfl (any_of HT_.out (by kernel_rfl)) (fun _ _ _ h => h) (Or.inl ⟨by rfl, ?_⟩) ?_ ?_
                            rotate_left
                            · intro w'
                              go_simp
                              with_reducible rfl
                            rotate_left
                            · simp only [Act.put, List.setIfInBounds_toArray, List.set_cons_zero, List.set_cons_succ, i64_w, i32_w]
                              rfl
                            refine pure_ (i := 5) (N := some 68) (v := ?_) (a' := ?_) #[true, true, true, true, true, true, true, true, true, false, false, false, false, false, false, false, false, false] rfl rfl (any_of HT_.out (by kernel_rfl)) (fun _ _ _ h => h) (Or.inl ⟨by rfl, ?_⟩) ?_ ?_
                            rotate_left
                            · intro w'
                              go_simp
                              with_reducible rfl
                            rotate_left
                            · simp only [Act.put, List.setIfInBounds_toArray, List.set_cons_zero, List.set_cons_succ, i64_w, i32_w]
                              rfl
                            refine one_ (i := 9) (N := some 72) #[true, true, true, true, true, true, true, true, true, true, false, false, false, false, false, false, false, false] rfl rfl (one_of HT_.out (by kernel_rfl)) (by decide) (fun K hK => ?_)
                            refine goes_ Tryd.func15 (by kernel_rfl) rfl #[.slice A46 y194.length c46, .string (⟨#[47, 47]⟩ : ByteArray)] (by rfl) rfl rfl (by (try simp only [List.map_toArray, List.map_cons, List.map_nil]); first | done | rfl | (simp only [List.length_drop, List.length_take]; rfl)) ?_
                            with_reducible refine (strings_Join.calls _ _ y194 (⟨#[47, 47]⟩ : ByteArray) t198 _ ?side1 ?side2 A26.out).mono ?_
                            (case side1 => repeat (first | exact (by repeat (first | (with_reducible exact HR197.out) | (with_reducible refine Kd.C_alloc ?_ _) | (with_reducible refine Kd.C_drewN ?_ _) | (with_reducible refine Kd.C_drew ?_) | exact HR197.out)) | (with_reducible refine Kd.C_alloc ?_ _) | (with_reducible refine Kd.C_drewN ?_ _) | (with_reducible refine Kd.C_drew ?_)))
                            (case side2 => exact HC197.out)
                            rintro e w48 ⟨rfl, hb⟩
                            refine ⟨_, rfl, ?_⟩
                            have n0_ := Aside0.mk (Kd.R_below (by (with_reducible repeat (first | apply Kd.R_alloc | apply Kd.R_drewN | apply Kd.R_drew)); exact HO188.out) hb)
                            have n1_ := Aside0.mk (Kd.C_below (by repeat (first | (with_reducible exact HR192.out) | (with_reducible refine Kd.C_alloc ?_ _) | (with_reducible refine Kd.C_drewN ?_ _) | (with_reducible refine Kd.C_drew ?_) | exact HR192.out)) hb)
                            have n2_ := Aside0.mk (Kd.C_below (by repeat (first | (with_reducible exact HR197.out) | (with_reducible refine Kd.C_alloc ?_ _) | (with_reducible refine Kd.C_drewN ?_ _) | (with_reducible refine Kd.C_drew ?_) | exact HR197.out)) hb)
                            have n3_ := Aside0.mk (below_step (by repeat (first | (with_reducible first | exact HB.out | apply below_alloc | apply pw_below_drewN | apply below_drew1) | exact HB.out)) hb)
                            clear HO188
                            clear HR192
                            clear HR197
                            clear HB
                            have HO188 := n0_
                            have HR192 := n1_
                            have HR197 := n2_
                            have HB := n3_
                            clear n0_ n1_ n2_ n3_
                            (try clear hb)
                            (try clear hb2)
                            (try clear hk)
                            (try clear hi)
                            refine hK.out _ _ trivial (fun hHeld => ?_)
                            clear hK K
                            refine norm_ (a' := ?_) ?_ ?_
                            rotate_left
                            · show Act.put _ (some 72) _ = _
                              simp only [Act.put, List.setIfInBounds_toArray, List.set_cons_zero, List.set_cons_succ, i64_w, i32_w]
                              rfl
                            refine pure_ (i := 10) (N := some 73) (v := ?_) (a' := ?_) #[true, true, true, true, true, true, true, true, true, true, true, false, false, false, false, false, false, false] rfl rfl (any_of HT_.out (by kernel_rfl)) (fun _ _ _ h => h) (Or.inl ⟨by rfl, ?_⟩) ?_ ?_
                            rotate_left
                            · intro w'
                              go_simp
                              with_reducible rfl
                            rotate_left
                            · simp only [Act.put, List.setIfInBounds_toArray, List.set_cons_zero, List.set_cons_succ, i64_w, i32_w]
                              rfl
                            refine pure_ (i := 11) (N := some 74) (v := ?_) (a' := ?_) #[true, true, true, true, true, true, true, true, true, true, true, true, false, false, false, false, false, false] rfl rfl (any_of HT_.out (by kernel_rfl)) (fun _ _ _ h => h) (Or.inl ⟨by rfl, ?_⟩) ?_ ?_
                            rotate_left
                            · intro w'
                              go_simp
                              with_reducible rfl
                            rotate_left
                            · simp only [Act.put, List.setIfInBounds_toArray, List.set_cons_zero, List.set_cons_succ, i64_w, i32_w]
                              rfl
                            refine one_ (i := 12) (N := some 75) #[true, true, true, true, true, true, true, true, true, true, true, true, true, false, false, false, false, false] rfl rfl (one_of HT_.out (by kernel_rfl)) (by decide) (fun K hK => ?_)
                            refine goes_ Tryd.func11 (by kernel_rfl) rfl #[.string (((((⟨#[47, 47]⟩ : ByteArray) ++ t193) ++ (⟨#[47, 46, 47, 120, 47, 46, 46, 47]⟩ : ByteArray)) ++ t198) ++ (⟨#[47]⟩ : ByteArray))] (by rfl) rfl rfl (by (try simp only [List.map_toArray, List.map_cons, List.map_nil]); first | done | rfl | (simp only [List.length_drop, List.length_take]; rfl)) ?_
                            with_reducible refine (path_Clean.calls kj7 (((((⟨#[47, 47]⟩ : ByteArray) ++ t193) ++ (⟨#[47, 46, 47, 120, 47, 46, 46, 47]⟩ : ByteArray)) ++ t198) ++ (⟨#[47]⟩ : ByteArray)) t199 t200 _ A29.out).mono ?_
                            rintro e w49 ⟨rfl, hb⟩
                            refine ⟨_, rfl, ?_⟩
                            have n0_ := Aside0.mk (Kd.R_below (by (with_reducible repeat (first | apply Kd.R_alloc | apply Kd.R_drewN | apply Kd.R_drew)); exact HO188.out) hb)
                            have n1_ := Aside0.mk (Kd.C_below (by repeat (first | (with_reducible exact HR192.out) | (with_reducible refine Kd.C_alloc ?_ _) | (with_reducible refine Kd.C_drewN ?_ _) | (with_reducible refine Kd.C_drew ?_) | exact HR192.out)) hb)
                            have n2_ := Aside0.mk (Kd.C_below (by repeat (first | (with_reducible exact HR197.out) | (with_reducible refine Kd.C_alloc ?_ _) | (with_reducible refine Kd.C_drewN ?_ _) | (with_reducible refine Kd.C_drew ?_) | exact HR197.out)) hb)
                            have n3_ := Aside0.mk (below_step (by repeat (first | (with_reducible first | exact HB.out | apply below_alloc | apply pw_below_drewN | apply below_drew1) | exact HB.out)) hb)
                            clear HO188
                            clear HR192
                            clear HR197
                            clear HB
                            have HO188 := n0_
                            have HR192 := n1_
                            have HR197 := n2_
                            have HB := n3_
                            clear n0_ n1_ n2_ n3_
                            (try clear hb)
                            (try clear hb2)
                            (try clear hk)
                            (try clear hi)
                            refine hK.out _ _ trivial (fun hHeld => ?_)
                            clear hK K
                            refine norm_ (a' := ?_) ?_ ?_
                            rotate_left
                            · show Act.put _ (some 75) _ = _
                              simp only [Act.put, List.setIfInBounds_toArray, List.set_cons_zero, List.set_cons_succ, i64_w, i32_w]
                              rfl
                            refine pure_ (i := 13) (N := some 62) (v := ?_) (a' := ?_) #[true, true, true, true, true, true, true, true, true, true, true, true, true, true, false, false, false, false] rfl rfl (any_of HT_.out (by kernel_rfl)) (fun _ _ _ h => h) (Or.inl ⟨by rfl, ?_⟩) ?_ ?_
                            rotate_left
                            · intro w'
                              go_simp
                              with_reducible rfl
                            rotate_left
                            · simp only [Act.put, List.setIfInBounds_toArray, List.set_cons_zero, List.set_cons_succ, i64_w, i32_w]
                              rfl
                            refine pure_ (i := 14) (N := some 76) (v := ?_) (a' := ?_) #[true, true, true, true, true, true, true, true, true, true, true, true, true, true, true, false, false, false] rfl rfl (any_of HT_.out (by kernel_rfl)) (fun _ _ _ h => h) (Or.inl ⟨by rfl, ?_⟩) ?_ ?_
                            rotate_left
                            · intro w'
                              go_simp
                              with_reducible rfl
                            rotate_left
                            · simp only [Act.put, List.setIfInBounds_toArray, List.set_cons_zero, List.set_cons_succ, i64_w, i32_w]
                              rfl
                            refine pure_ (i := 15) (N := some 77) (v := ?_) (a' := ?_) #[true, true, true, true, true, true, true, true, true, true, true, true, true, true, true, true, false, false] rfl rfl (any_of HT_.out (by kernel_rfl)) (fun _ _ _ h => h) (Or.inl ⟨by rfl, ?_⟩) ?_ ?_
                            rotate_left
                            · intro w'
                              go_simp
                              with_reducible rfl
                            rotate_left
                            · simp only [Act.put, List.setIfInBounds_toArray, List.set_cons_zero, List.set_cons_succ, i64_w, i32_w]
                              rfl
                            refine pure_ (i := 16) (N := some 13) (v := ?_) (a' := ?_) #[true, true, true, true, true, true, true, true, true, true, true, true, true, true, true, true, true, false] rfl rfl (any_of HT_.out (by kernel_rfl)) (fun _ _ _ h => h) (Or.inl ⟨by rfl, ?_⟩) ?_ ?_
                            rotate_left
                            · intro w'
                              go_simp
                              with_reducible rfl
                            rotate_left
                            · simp only [Act.put, List.setIfInBounds_toArray, List.set_cons_zero, List.set_cons_succ, i64_w, i32_w]
                              rfl
                            refine pure_ (i := 17) (N := some 14) (v := ?_) (a' := ?_) #[true, true, true, true, true, true, true, true, true, true, true, true, true, true, true, true, true, true] rfl rfl (any_of HT_.out (by kernel_rfl)) (fun _ _ _ h => h) (Or.inl ⟨by rfl, ?_⟩) ?_ ?_
                            rotate_left
                            · intro w'
                              go_simp
                              with_reducible rfl
                            rotate_left
                            · simp only [Act.put, List.setIfInBounds_toArray, List.set_cons_zero, List.set_cons_succ, i64_w, i32_w]
                              rfl
                            refine done_ (done_of HT_.out (by kernel_rfl)) ?_
                            try go_wp2
                            go_ret
                            exact ⟨by first | rfl | (simp [errW_none, errW_some] <;> rfl) | (simp only [← hji18]; first | rfl | (simp [errW_none, errW_some] <;> rfl)) | (simp [*, errW_none, errW_some] <;> rfl), by repeat (first | (with_reducible first | exact HB.out | apply below_alloc | apply pw_below_drewN | apply below_drew1) | exact HB.out)⟩
                        · rw [if_neg c30] at H
                          have c30b0 : (t199.toList == t179.toList) = false := beq_eq_false_iff_ne.mpr c30
                          have c30b1 : (t199.toList != t179.toList) = true := bne_iff_ne.mpr c30
                          obtain rfl := Option.some.inj H
                          try go_wp2_with (first | ((with_reducible refine gate_callee (f := 14) rfl ?_); refine goesL_ (some 51) rfl rfl Tryd.func14 (by kernel_rfl) rfl #[.string t179, .string (⟨#[47]⟩ : ByteArray)] rfl (by (try simp only [List.map_toArray, List.map_cons, List.map_nil]); first | done | rfl | (simp only [List.length_drop, List.length_take]; rfl)) ?_; (with_reducible refine (strings_Split.calls kj7 t179 (⟨#[47]⟩ : ByteArray) t186 _ A16.out).mono ?_); rintro e w50 ⟨v187, rfl, ho0, hb⟩; refine ⟨_, rfl, ?_⟩; have n0_ := Aside0.mk (Kd.R_lower ho0 (below_size (by repeat (first | (with_reducible first | exact HB.out | apply below_alloc | apply pw_below_drewN | apply below_drew1) | exact HB.out)))); have n1_ := Aside0.mk (below_step (by repeat (first | (with_reducible first | exact HB.out | apply below_alloc | apply pw_below_drewN | apply below_drew1) | exact HB.out)) hb); clear HB; have HO188 := n0_; have HB := n1_; clear n0_ n1_; (try clear hb); (try clear hb2); (try clear hk); (try clear hi); (try clear ho0); obtain ⟨Ao51, co51, eo51⟩ := Kd.R_slice HO188.out; subst eo51))
                          have n0_ := Aside0.mk (Kd.R_drew HO188.out)
                          have n1_ := Aside0.mk (below_drew1 HB.out)
                          clear HO188
                          clear HB
                          have HO188 := n0_
                          have HB := n1_
                          clear n0_ n1_
                          have q53 : ((ji18) : Int) ≤ ((t186.length : Int) : Int) := of_decide_eq_true (by first | (with_reducible assumption) | assumption)
                          obtain ⟨i053, hi053, _, hsz53, _⟩ := info_parts info9
                          have hroom53 : t186.length ≤ co51 := (Kd.R_reads' HO188.out).2.1
                          have hC53 : Kd.C Kd.string _ Ao51 t186.length t186 := (Kd.R_reads' HO188.out).2.2
                          have hcut53 := cut_to (P := Tryd.prog) 29 9 .i64 Tryd.underlying29 hi053 Ao51 t186.length co51 (ji18) (of_decide_eq_true (by first | (with_reducible assumption) | assumption)) q53 hroom53
                          have hr53 := Kd.C_take (m := ((ji18) : Int).toNat) hC53 (by omega)
                          have hy53 : y189.length = ((ji18) : Int).toNat := (by rw [Ny189.out, List.length_take]; omega)
                          rw [← Ny189.out] at hr53
                          rw [← hy53] at hcut53
                          have HR192 := Aside0.mk hr53
                          have HC192 := Aside0.mk (show y189.length ≤ co51 from by omega)
                          clear hr53 hC53 hroom53 hi053 hsz53
                          have KY53 := Aside0.mk hy53
                          clear hy53
                          have KL53 := Aside0.mk (show ((ji18) : Int).toNat ≤ t186.length from by omega)
                          replace q53 := eq_true q53
                          have q54 : ((ji18) : Int) ≤ ((t186.length : Int) : Int) := of_decide_eq_true (by first | (with_reducible assumption) | assumption)
                          obtain ⟨i054, hi054, _, hsz54, _⟩ := info_parts info9
                          have hroom54 : t186.length ≤ co51 := (Kd.R_reads' HO188.out).2.1
                          have hC54 : Kd.C Kd.string _ Ao51 t186.length t186 := (Kd.R_reads' HO188.out).2.2
                          have q054 : (0 : Int) ≤ ((ji18) : Int) := of_decide_eq_true (by first | (with_reducible assumption) | assumption)
                          have hcut54 := cut_from (P := Tryd.prog) 29 9 .i64 Tryd.underlying29 hi054 1 hsz54 Ao51 t186.length co51 (ji18) q054 q54
                          have hr54 := Kd.C_drop (m := ((ji18) : Int).toNat) (c := co51) hC54 (by omega) hroom54
                          obtain ⟨A54, hA54⟩ : ∃ A1, A1 = (if co51 = ((ji18) : Int).toNat then Ao51 else (Ao51 : Option Addr).map (·.add (((ji18) : Int).toNat * 1))) := ⟨_, rfl⟩
                          obtain ⟨c54, hc54⟩ : ∃ c1, c1 = co51 - ((ji18) : Int).toNat := ⟨_, rfl⟩
                          have hy54 : y194.length = t186.length - ((ji18) : Int).toNat := (by rw [Ny194.out, List.length_drop] <;> omega)
                          rw [show (t186).drop ((ji18) : Int).toNat = y194 from Ny194.out.symm] at hr54
                          replace hr54 : Kd.C Kd.string _ A54 y194.length y194 := (by rw [hA54]; exact hr54)
                          rw [← hy54, ← hA54, ← hc54] at hcut54
                          have HR197 := Aside0.mk hr54
                          have HC197 := Aside0.mk (show y194.length ≤ c54 from by rw [hy54, hc54]; exact Nat.sub_le_sub_right hroom54 _)
                          clear hr54 hC54 hroom54 hi054 hsz54 hc54
                          have KY54 := Aside0.mk hy54
                          have KA54 := Aside0.mk hA54
                          clear hy54 hA54
                          have KL54 := Aside0.mk (show ((ji18) : Int).toNat ≤ t186.length from by omega)
                          replace q54 := eq_true q54
                          refine start_ (n := 18) (S := fun w' => True) (ds := []) #[false, false, false, false, false, false, false, false, false, false, false, false, false, false, false, false, false, false] (by kernel_rfl) rfl rfl trivial (fun hHeld => ?_); refine with_tabW aquiferlaw05_PathClean.tab11 aquiferlaw05_PathClean.bits11 (fun HT_ HW_ => ?_)
                          generalize w50.drew = w52 at HO188 HB HR192 HR197 hHeld ⊢
                          refine pure_ (i := 0) (N := some 63) (v := ?_) (a' := ?_) #[true, false, false, false, false, false, false, false, false, false, false, false, false, false, false, false, false, false] rfl rfl (any_of HT_.out (by kernel_rfl)) (fun _ _ _ h => h) (Or.inl ⟨by rfl, ?_⟩) ?_ ?_
                          rotate_left
                          · intro w'
                            go_simp
                            with_reducible rfl
                          rotate_left
                          · simp only [Act.put, List.setIfInBounds_toArray, List.set_cons_zero, List.set_cons_succ, i64_w, i32_w]
                            rfl
                          refine pure_ (i := 1) (N := some 64) (v := ?_) (a' := ?_) #[true, true, false, false, false, false, false, false, false, false, false, false, false, false, false, false, false, false] rfl rfl (any_of HT_.out (by kernel_rfl)) (fun _ _ _ h => h) (Or.inl ⟨by rfl, ?_⟩) ?_ ?_
                          rotate_left
                          · intro w'
                            go_simp
                            with_reducible rfl
                          rotate_left
                          · simp only [Act.put, List.setIfInBounds_toArray, List.set_cons_zero, List.set_cons_succ, i64_w, i32_w]
                            rfl
                          refine pure_ (i := 2) (N := some 65) (v := ?_) (a' := ?_) #[true, true, true, false, false, false, false, false, false, false, false, false, false, false, false, false, false, false] rfl rfl (any_of HT_.out (by kernel_rfl)) (fun _ _ _ h => h) (Or.inl ⟨by rfl, ?_⟩) ?_ ?_
                          rotate_left
                          · intro w'
                            go_simp
                            with_reducible rfl
                          rotate_left
                          · simp only [Act.put, List.setIfInBounds_toArray, List.set_cons_zero, List.set_cons_succ, i64_w, i32_w]
                            rfl
                          refine pure_ (i := 6) (N := some 69) (v := ?_) (a' := ?_) #[true, true, true, false, false, false, true, false, false, false, false, false, false, false, false, false, false, false] rfl rfl (any_of HT_.out (by kernel_rfl)) (fun _ _ _ h => h) (Or.inl ⟨by rfl, ?_⟩) ?_ ?_
                          rotate_left
                          · intro w'
                            go_simp
                            with_reducible rfl
                          rotate_left
                          · simp only [Act.put, List.setIfInBounds_toArray, List.set_cons_zero, List.set_cons_succ, i64_w, i32_w]
                            rfl
                          refine pure_ (i := 7) (N := some 70) (v := ?_) (a' := ?_) #[true, true, true, false, false, false, true, true, false, false, false, false, false, false, false, false, false, false] rfl rfl (any_of HT_.out (by kernel_rfl)) (fun _ _ _ h => h) (Or.inl ⟨by rfl, ?_⟩) ?_ ?_
                          rotate_left
                          · intro w'
                            go_simp
                            with_reducible rfl
                          rotate_left
                          · simp only [Act.put, List.setIfInBounds_toArray, List.set_cons_zero, List.set_cons_succ, i64_w, i32_w]
                            rfl
                          refine pure_ (i := 8) (N := some 71) (v := ?_) (a' := ?_) #[true, true, true, false, false, false, true, true, true, false, false, false, false, false, false, false, false, false] rfl rfl (any_of HT_.out (by kernel_rfl)) (fun _ _ _ h => h) (Or.inl ⟨by rfl, ?_⟩) ?_ ?_
                          rotate_left
                          · intro w'
                            go_simp
                            with_reducible rfl
                          rotate_left
                          · simp only [Act.put, List.setIfInBounds_toArray, List.set_cons_zero, List.set_cons_succ, i64_w, i32_w]
                            rfl
                          refine one_ (i := 3) (N := some 66) #[true, true, true, true, false, false, true, true, true, false, false, false, false, false, false, false, false, false] rfl rfl (one_of HT_.out (by kernel_rfl)) (by decide) (fun K hK => ?_)
                          refine goes_ Tryd.func15 (by kernel_rfl) rfl #[.slice Ao51 y189.length co51, .string (⟨#[47]⟩ : ByteArray)] (by rfl) rfl rfl (by (try simp only [List.map_toArray, List.map_cons, List.map_nil]); first | done | rfl | (simp only [List.length_drop, List.length_take]; rfl)) ?_
                          with_reducible refine (strings_Join.calls _ _ y189 (⟨#[47]⟩ : ByteArray) t193 _ ?side1 ?side2 A21.out).mono ?_
                          (case side1 => repeat (first | exact (by repeat (first | (with_reducible exact HR192.out) | (with_reducible refine Kd.C_alloc ?_ _) | (with_reducible refine Kd.C_drewN ?_ _) | (with_reducible refine Kd.C_drew ?_) | exact HR192.out)) | (with_reducible refine Kd.C_alloc ?_ _) | (with_reducible refine Kd.C_drewN ?_ _) | (with_reducible refine Kd.C_drew ?_)))
                          (case side2 => exact HC192.out)
                          rintro e w55 ⟨rfl, hb⟩
                          refine ⟨_, rfl, ?_⟩
                          have n0_ := Aside0.mk (Kd.R_below (by (with_reducible repeat (first | apply Kd.R_alloc | apply Kd.R_drewN | apply Kd.R_drew)); exact HO188.out) hb)
                          have n1_ := Aside0.mk (Kd.C_below (by repeat (first | (with_reducible exact HR192.out) | (with_reducible refine Kd.C_alloc ?_ _) | (with_reducible refine Kd.C_drewN ?_ _) | (with_reducible refine Kd.C_drew ?_) | exact HR192.out)) hb)
                          have n2_ := Aside0.mk (Kd.C_below (by repeat (first | (with_reducible exact HR197.out) | (with_reducible refine Kd.C_alloc ?_ _) | (with_reducible refine Kd.C_drewN ?_ _) | (with_reducible refine Kd.C_drew ?_) | exact HR197.out)) hb)
                          have n3_ := Aside0.mk (below_step (by repeat (first | (with_reducible first | exact HB.out | apply below_alloc | apply pw_below_drewN | apply below_drew1) | exact HB.out)) hb)
                          clear HO188
                          clear HR192
                          clear HR197
                          clear HB
                          have HO188 := n0_
                          have HR192 := n1_
                          have HR197 := n2_
                          have HB := n3_
                          clear n0_ n1_ n2_ n3_
                          (try clear hb)
                          (try clear hb2)
                          (try clear hk)
                          (try clear hi)
                          refine hK.out _ _ trivial (fun hHeld => ?_)
                          clear hK K
                          refine norm_ (a' := ?_) ?_ ?_
                          rotate_left
                          · show Act.put _ (some 66) _ = _
                            simp only [Act.put, List.setIfInBounds_toArray, List.set_cons_zero, List.set_cons_succ, i64_w, i32_w]
                            rfl
                          refine pure_ (i := 4) (N := some 67) (v := ?_) (a' := ?_) #[true, true, true, true, true, false, true, true, true, false, false, false, false, false, false, false, false, false] rfl rfl (any_of HT_.out (by kernel_rfl)) (fun _ _ _ h => h) (Or.inl ⟨by rfl, ?_⟩) ?_ ?_
                          rotate_left
                          · intro w'
                            go_simp
                            with_reducible rfl
                          rotate_left
                          · simp only [Act.put, List.setIfInBounds_toArray, List.set_cons_zero, List.set_cons_succ, i64_w, i32_w]
                            rfl
                          refine pure_ (i := 5) (N := some 68) (v := ?_) (a' := ?_) #[true, true, true, true, true, true, true, true, true, false, false, false, false, false, false, false, false, false] rfl rfl (any_of HT_.out (by kernel_rfl)) (fun _ _ _ h => h) (Or.inl ⟨by rfl, ?_⟩) ?_ ?_
                          rotate_left
                          · intro w'
                            go_simp
                            with_reducible rfl
                          rotate_left
                          · simp only [Act.put, List.setIfInBounds_toArray, List.set_cons_zero, List.set_cons_succ, i64_w, i32_w]
                            rfl
                          refine one_ (i := 9) (N := some 72) #[true, true, true, true, true, true, true, true, true, true, false, false, false, false, false, false, false, false] rfl rfl (one_of HT_.out (by kernel_rfl)) (by decide) (fun K hK => ?_)
                          refine goes_ Tryd.func15 (by kernel_rfl) rfl #[.slice A54 y194.length c54, .string (⟨#[47, 47]⟩ : ByteArray)] (by rfl) rfl rfl (by (try simp only [List.map_toArray, List.map_cons, List.map_nil]); first | done | rfl | (simp only [List.length_drop, List.length_take]; rfl)) ?_
                          with_reducible refine (strings_Join.calls _ _ y194 (⟨#[47, 47]⟩ : ByteArray) t198 _ ?side1 ?side2 A26.out).mono ?_
                          (case side1 => repeat (first | exact (by repeat (first | (with_reducible exact HR197.out) | (with_reducible refine Kd.C_alloc ?_ _) | (with_reducible refine Kd.C_drewN ?_ _) | (with_reducible refine Kd.C_drew ?_) | exact HR197.out)) | (with_reducible refine Kd.C_alloc ?_ _) | (with_reducible refine Kd.C_drewN ?_ _) | (with_reducible refine Kd.C_drew ?_)))
                          (case side2 => exact HC197.out)
                          rintro e w56 ⟨rfl, hb⟩
                          refine ⟨_, rfl, ?_⟩
                          have n0_ := Aside0.mk (Kd.R_below (by (with_reducible repeat (first | apply Kd.R_alloc | apply Kd.R_drewN | apply Kd.R_drew)); exact HO188.out) hb)
                          have n1_ := Aside0.mk (Kd.C_below (by repeat (first | (with_reducible exact HR192.out) | (with_reducible refine Kd.C_alloc ?_ _) | (with_reducible refine Kd.C_drewN ?_ _) | (with_reducible refine Kd.C_drew ?_) | exact HR192.out)) hb)
                          have n2_ := Aside0.mk (Kd.C_below (by repeat (first | (with_reducible exact HR197.out) | (with_reducible refine Kd.C_alloc ?_ _) | (with_reducible refine Kd.C_drewN ?_ _) | (with_reducible refine Kd.C_drew ?_) | exact HR197.out)) hb)
                          have n3_ := Aside0.mk (below_step (by repeat (first | (with_reducible first | exact HB.out | apply below_alloc | apply pw_below_drewN | apply below_drew1) | exact HB.out)) hb)
                          clear HO188
                          clear HR192
                          clear HR197
                          clear HB
                          have HO188 := n0_
                          have HR192 := n1_
                          have HR197 := n2_
                          have HB := n3_
                          clear n0_ n1_ n2_ n3_
                          (try clear hb)
                          (try clear hb2)
                          (try clear hk)
                          (try clear hi)
                          refine hK.out _ _ trivial (fun hHeld => ?_)
                          clear hK K
                          refine norm_ (a' := ?_) ?_ ?_
                          rotate_left
                          · show Act.put _ (some 72) _ = _
                            simp only [Act.put, List.setIfInBounds_toArray, List.set_cons_zero, List.set_cons_succ, i64_w, i32_w]
                            rfl
                          refine pure_ (i := 10) (N := some 73) (v := ?_) (a' := ?_) #[true, true, true, true, true, true, true, true, true, true, true, false, false, false, false, false, false, false] rfl rfl (any_of HT_.out (by kernel_rfl)) (fun _ _ _ h => h) (Or.inl ⟨by rfl, ?_⟩) ?_ ?_
                          rotate_left
                          · intro w'
                            go_simp
                            with_reducible rfl
                          rotate_left
                          · simp only [Act.put, List.setIfInBounds_toArray, List.set_cons_zero, List.set_cons_succ, i64_w, i32_w]
                            rfl
                          refine pure_ (i := 11) (N := some 74) (v := ?_) (a' := ?_) #[true, true, true, true, true, true, true, true, true, true, true, true, false, false, false, false, false, false] rfl rfl (any_of HT_.out (by kernel_rfl)) (fun _ _ _ h => h) (Or.inl ⟨by rfl, ?_⟩) ?_ ?_
                          rotate_left
                          · intro w'
                            go_simp
                            with_reducible rfl
                          rotate_left
                          · simp only [Act.put, List.setIfInBounds_toArray, List.set_cons_zero, List.set_cons_succ, i64_w, i32_w]
                            rfl
                          refine one_ (i := 12) (N := some 75) #[true, true, true, true, true, true, true, true, true, true, true, true, true, false, false, false, false, false] rfl rfl (one_of HT_.out (by kernel_rfl)) (by decide) (fun K hK => ?_)
                          refine goes_ Tryd.func11 (by kernel_rfl) rfl #[.string (((((⟨#[47, 47]⟩ : ByteArray) ++ t193) ++ (⟨#[47, 46, 47, 120, 47, 46, 46, 47]⟩ : ByteArray)) ++ t198) ++ (⟨#[47]⟩ : ByteArray))] (by rfl) rfl rfl (by (try simp only [List.map_toArray, List.map_cons, List.map_nil]); first | done | rfl | (simp only [List.length_drop, List.length_take]; rfl)) ?_
                          with_reducible refine (path_Clean.calls kj7 (((((⟨#[47, 47]⟩ : ByteArray) ++ t193) ++ (⟨#[47, 46, 47, 120, 47, 46, 46, 47]⟩ : ByteArray)) ++ t198) ++ (⟨#[47]⟩ : ByteArray)) t199 t200 _ A29.out).mono ?_
                          rintro e w57 ⟨rfl, hb⟩
                          refine ⟨_, rfl, ?_⟩
                          have n0_ := Aside0.mk (Kd.R_below (by (with_reducible repeat (first | apply Kd.R_alloc | apply Kd.R_drewN | apply Kd.R_drew)); exact HO188.out) hb)
                          have n1_ := Aside0.mk (Kd.C_below (by repeat (first | (with_reducible exact HR192.out) | (with_reducible refine Kd.C_alloc ?_ _) | (with_reducible refine Kd.C_drewN ?_ _) | (with_reducible refine Kd.C_drew ?_) | exact HR192.out)) hb)
                          have n2_ := Aside0.mk (Kd.C_below (by repeat (first | (with_reducible exact HR197.out) | (with_reducible refine Kd.C_alloc ?_ _) | (with_reducible refine Kd.C_drewN ?_ _) | (with_reducible refine Kd.C_drew ?_) | exact HR197.out)) hb)
                          have n3_ := Aside0.mk (below_step (by repeat (first | (with_reducible first | exact HB.out | apply below_alloc | apply pw_below_drewN | apply below_drew1) | exact HB.out)) hb)
                          clear HO188
                          clear HR192
                          clear HR197
                          clear HB
                          have HO188 := n0_
                          have HR192 := n1_
                          have HR197 := n2_
                          have HB := n3_
                          clear n0_ n1_ n2_ n3_
                          (try clear hb)
                          (try clear hb2)
                          (try clear hk)
                          (try clear hi)
                          refine hK.out _ _ trivial (fun hHeld => ?_)
                          clear hK K
                          refine norm_ (a' := ?_) ?_ ?_
                          rotate_left
                          · show Act.put _ (some 75) _ = _
                            simp only [Act.put, List.setIfInBounds_toArray, List.set_cons_zero, List.set_cons_succ, i64_w, i32_w]
                            rfl
                          refine pure_ (i := 13) (N := some 62) (v := ?_) (a' := ?_) #[true, true, true, true, true, true, true, true, true, true, true, true, true, true, false, false, false, false] rfl rfl (any_of HT_.out (by kernel_rfl)) (fun _ _ _ h => h) (Or.inl ⟨by rfl, ?_⟩) ?_ ?_
                          rotate_left
                          · intro w'
                            go_simp
                            with_reducible rfl
                          rotate_left
                          · simp only [Act.put, List.setIfInBounds_toArray, List.set_cons_zero, List.set_cons_succ, i64_w, i32_w]
                            rfl
                          refine pure_ (i := 14) (N := some 76) (v := ?_) (a' := ?_) #[true, true, true, true, true, true, true, true, true, true, true, true, true, true, true, false, false, false] rfl rfl (any_of HT_.out (by kernel_rfl)) (fun _ _ _ h => h) (Or.inl ⟨by rfl, ?_⟩) ?_ ?_
                          rotate_left
                          · intro w'
                            go_simp
                            with_reducible rfl
                          rotate_left
                          · simp only [Act.put, List.setIfInBounds_toArray, List.set_cons_zero, List.set_cons_succ, i64_w, i32_w]
                            rfl
                          refine pure_ (i := 15) (N := some 77) (v := ?_) (a' := ?_) #[true, true, true, true, true, true, true, true, true, true, true, true, true, true, true, true, false, false] rfl rfl (any_of HT_.out (by kernel_rfl)) (fun _ _ _ h => h) (Or.inl ⟨by rfl, ?_⟩) ?_ ?_
                          rotate_left
                          · intro w'
                            go_simp
                            with_reducible rfl
                          rotate_left
                          · simp only [Act.put, List.setIfInBounds_toArray, List.set_cons_zero, List.set_cons_succ, i64_w, i32_w]
                            rfl
                          refine pure_ (i := 16) (N := some 13) (v := ?_) (a' := ?_) #[true, true, true, true, true, true, true, true, true, true, true, true, true, true, true, true, true, false] rfl rfl (any_of HT_.out (by kernel_rfl)) (fun _ _ _ h => h) (Or.inl ⟨by rfl, ?_⟩) ?_ ?_
                          rotate_left
                          · intro w'
                            go_simp
                            with_reducible rfl
                          rotate_left
                          · simp only [Act.put, List.setIfInBounds_toArray, List.set_cons_zero, List.set_cons_succ, i64_w, i32_w]
                            rfl
                          refine pure_ (i := 17) (N := some 14) (v := ?_) (a' := ?_) #[true, true, true, true, true, true, true, true, true, true, true, true, true, true, true, true, true, true] rfl rfl (any_of HT_.out (by kernel_rfl)) (fun _ _ _ h => h) (Or.inl ⟨by rfl, ?_⟩) ?_ ?_
                          rotate_left
                          · intro w'
                            go_simp
                            with_reducible rfl
                          rotate_left
                          · simp only [Act.put, List.setIfInBounds_toArray, List.set_cons_zero, List.set_cons_succ, i64_w, i32_w]
                            rfl
                          refine done_ (done_of HT_.out (by kernel_rfl)) ?_
                          try go_wp2
                          go_ret
                          exact ⟨by first | rfl | (simp [errW_none, errW_some] <;> rfl) | (simp only [← hji18]; first | rfl | (simp [errW_none, errW_some] <;> rfl)) | (simp [*, errW_none, errW_some] <;> rfl), by repeat (first | (with_reducible first | exact HB.out | apply below_alloc | apply pw_below_drewN | apply below_drew1) | exact HB.out)⟩
                      · rw [if_neg c28] at H
                        exact absurd H (by simp)
                    · rw [if_neg c27] at H
                      exact absurd H (by simp)
                  · rw [if_neg c23] at H
                    exact absurd H (by simp)
                · rw [if_neg c22] at H
                  exact absurd H (by simp)
              · rw [if_neg c20] at H
                exact absurd H (by simp)
            · rw [if_neg c19] at H
              exact absurd H (by simp)
  · rw [if_neg c5] at H
    have c5b0 : (t180 == 0) = false := beq_eq_false_iff_ne.mpr c5
    have c5b1 : (t180 != 0) = true := bne_iff_ne.mpr c5
    by_cases c58 : t179.toList = ([] : List UInt8)
    · rw [if_pos c58] at H
      have c58b0 : (t179.toList == ([] : List UInt8)) = true := beq_iff_eq.mpr c58
      have c58b1 : (t179.toList != ([] : List UInt8)) = false := bne_eq_false_iff_eq.mpr c58
      clear c58
      replace H := Option.bind_eq_some_iff.mp H
      obtain ⟨t181, A590, H⟩ := H
      replace H : (some t181) = some r := H
      have A59 := Aside0.mk A590
      clear A590
      obtain rfl := Option.some.inj H
      go_enter Tryd.func3, Tryd.ntmps3
      go_wp2_with (first | ((with_reducible refine gate_callee (f := 10) rfl ?_); refine goesL_ (some 16) rfl rfl Tryd.func10 (by kernel_rfl) rfl #[.string a0] rfl (by (try simp only [List.map_toArray, List.map_cons, List.map_nil]); first | done | rfl | (simp only [List.length_drop, List.length_take]; rfl)) ?_; (with_reducible refine (aquiferlaw05_few.calls a0 t178 _ A3.out).mono ?_); rintro e w60 ⟨rfl, hb⟩; refine ⟨_, rfl, ?_⟩; have n0_ := Aside0.mk (below_step (by repeat (first | (with_reducible first | exact HB.out | apply below_alloc | apply pw_below_drewN | apply below_drew1) | exact HB.out)) hb); clear HB; have HB := n0_; clear n0_; (try clear hb); (try clear hb2); (try clear hk); (try clear hi)) | ((with_reducible refine gate_callee (f := 11) rfl ?_); refine goesL_ (some 19) rfl rfl Tryd.func11 (by kernel_rfl) rfl #[.string t178] rfl (by (try simp only [List.map_toArray, List.map_cons, List.map_nil]); first | done | rfl | (simp only [List.length_drop, List.length_take]; rfl)) ?_; (with_reducible refine (path_Clean.calls k t178 t179 t180 _ A4.out).mono ?_); rintro e w61 ⟨rfl, hb⟩; refine ⟨_, rfl, ?_⟩; have n0_ := Aside0.mk (below_step (by repeat (first | (with_reducible first | exact HB.out | apply below_alloc | apply pw_below_drewN | apply below_drew1) | exact HB.out)) hb); clear HB; have HB := n0_; clear n0_; (try clear hb); (try clear hb2); (try clear hk); (try clear hi)) | (go_at_call 12; (with_reducible refine (aquiferlaw05_works.calls k  t181 _ A59.out).mono ?_); rintro e w62 ⟨rfl, hb⟩; have n0_ := Aside0.mk (below_step (by repeat (first | (with_reducible first | exact HB.out | apply below_alloc | apply pw_below_drewN | apply below_drew1) | exact HB.out)) hb); clear HB; have HB := n0_; clear n0_; (try clear hb); (try clear hb2); (try clear hk); (try clear hi)))
      go_ret
      exact ⟨by first | rfl | (simp [errW_none, errW_some] <;> rfl) | (simp [*, errW_none, errW_some] <;> rfl), by repeat (first | (with_reducible first | exact HB.out | apply below_alloc | apply pw_below_drewN | apply below_drew1) | exact HB.out)⟩
    · rw [if_neg c58] at H
      have c58b0 : (t179.toList == ([] : List UInt8)) = false := beq_eq_false_iff_ne.mpr c58
      have c58b1 : (t179.toList != ([] : List UInt8)) = true := bne_iff_ne.mpr c58
      obtain rfl := Option.some.inj H
      go_enter Tryd.func3, Tryd.ntmps3
      go_wp2_with (first | ((with_reducible refine gate_callee (f := 10) rfl ?_); refine goesL_ (some 16) rfl rfl Tryd.func10 (by kernel_rfl) rfl #[.string a0] rfl (by (try simp only [List.map_toArray, List.map_cons, List.map_nil]); first | done | rfl | (simp only [List.length_drop, List.length_take]; rfl)) ?_; (with_reducible refine (aquiferlaw05_few.calls a0 t178 _ A3.out).mono ?_); rintro e w63 ⟨rfl, hb⟩; refine ⟨_, rfl, ?_⟩; have n0_ := Aside0.mk (below_step (by repeat (first | (with_reducible first | exact HB.out | apply below_alloc | apply pw_below_drewN | apply below_drew1) | exact HB.out)) hb); clear HB; have HB := n0_; clear n0_; (try clear hb); (try clear hb2); (try clear hk); (try clear hi)) | ((with_reducible refine gate_callee (f := 11) rfl ?_); refine goesL_ (some 19) rfl rfl Tryd.func11 (by kernel_rfl) rfl #[.string t178] rfl (by (try simp only [List.map_toArray, List.map_cons, List.map_nil]); first | done | rfl | (simp only [List.length_drop, List.length_take]; rfl)) ?_; (with_reducible refine (path_Clean.calls k t178 t179 t180 _ A4.out).mono ?_); rintro e w64 ⟨rfl, hb⟩; refine ⟨_, rfl, ?_⟩; have n0_ := Aside0.mk (below_step (by repeat (first | (with_reducible first | exact HB.out | apply below_alloc | apply pw_below_drewN | apply below_drew1) | exact HB.out)) hb); clear HB; have HB := n0_; clear n0_; (try clear hb); (try clear hb2); (try clear hk); (try clear hi)))
      go_ret
      exact ⟨by first | rfl | (simp [errW_none, errW_some] <;> rfl) | (simp [*, errW_none, errW_some] <;> rfl), by repeat (first | (with_reducible first | exact HB.out | apply below_alloc | apply pw_below_drewN | apply below_drew1) | exact HB.out)⟩

/-- THE ONE PURE STATEMENT of aquiferlaw05_PathClean: yours. -/
def aquiferlaw05_PathClean.Pure : Prop := ∀ (a0 : ByteArray) (a1 : Int), a0.size ≤ 140737488351232 → (Lit.int .i64 a1).wf = true → ∃ k, aquiferlaw05_PathClean.f k a0 a1 = some true
theorem aquiferlaw05_PathClean.walk (P : aquiferlaw05_PathClean.Pure) (a0 : ByteArray) (a1 : Int) (w : World) (w0 : a0.size ≤ 140737488351232) (w1 : (Lit.int .i64 a1).wf = true) :
    Calls Tryd.prog 3 #[.string a0, .int .i64 a1] w fun e w' => e = .returned (.bool true) ∧ Below w.heap.size w w' := by
  obtain ⟨k, h⟩ := P a0 a1 w0 w1
  refine (aquiferlaw05_PathClean.calls k a0 a1 true w h).mono ?_
  rintro e w' ⟨rfl, hd⟩
  exact ⟨rfl, hd⟩

end Go.Proofs.YtfnbadfehelleaaDoor.MPath
