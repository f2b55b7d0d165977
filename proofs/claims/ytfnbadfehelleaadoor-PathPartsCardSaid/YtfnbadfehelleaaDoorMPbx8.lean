-- PRINTED for YtfnbadfehelleaaDoor by this session's own driver; checked by Lean alone
import Derived.Test.YtfnbadfehelleaaDoorMPbx0
import Derived.Test.YtfnbadfehelleaaDoorMPbx1
import Derived.Test.YtfnbadfehelleaaDoorMPbx3
import Derived.Test.YtfnbadfehelleaaDoorMPbx4
namespace Go.Proofs.YtfnbadfehelleaaDoor.MPb
open Go.RowKit Go.Proofs.YtfnbadfehelleaaDoorW.PrintWords Go.Proofs.YtfnbadfehelleaaDoorW.PrintLast Go.Proofs.YtfnbadfehelleaaDoorW.PrintMore
attribute [local go_sem] Go.Proofs.YtfnbadfehelleaaDoor.Aid.cell_isSome Go.Proofs.YtfnbadfehelleaaDoor.Aid.string_gtr Go.Proofs.YtfnbadfehelleaaDoor.Aid.string_leq Go.Proofs.YtfnbadfehelleaaDoor.Aid.string_geq
attribute [local go_sem] max2_int min2_int max_two min_two max_three min_three max_four min_four   -- for this text's walks alone
set_option linter.unusedVariables false
set_option linter.unusedSimpArgs false

/-! ### aquiferlaw05_PathParts: function 9 -/
mutual
def aquiferlaw05_PathParts.j0 : Nat → ByteArray → ByteArray → List ByteArray → Bool → Option (Bool)
 | 0, _, _, _, _ => none
 | k + 1, x0, x1, x9, x81 => if x81 = true then (some false) else (aquiferlaw05_PathParts.l0 k x0 x1 false x9 (x9.length : Int) 0)
def aquiferlaw05_PathParts.l0 : Nat → ByteArray → ByteArray → Bool → List ByteArray → Int → Int → Option (Bool)
 | 0, _, _, _, _, _, _ => none
 | k + 1, x0, x1, x10, x82, x83, x84 => if x84 < x83 then (if 0 ≤ x84 then (if x84 < (x82.length : Int) then (if x10 = true then ((path_Below.f (rdOf ByteArray.empty x82 x84) x0).bind fun t223 => (if t223 = true then (aquiferlaw05_PathParts.l0 k x0 x1 true x82 x83 (wrap64 (x84 + 1))) else (some false))) else ((path_Below.f (rdOf ByteArray.empty x82 x84) x0).bind fun t224 => (if t224 = true then (aquiferlaw05_PathParts.l0 k x0 x1 ((rdOf ByteArray.empty x82 x84).toList == x1.toList) x82 x83 (wrap64 (x84 + 1))) else (some false)))) else (none)) else (none)) else ((path_Below.f x1 x0).bind fun t225 => (if (t225 == x10) = true then ((aquiferlaw05_ups.f x0 1).bind fun t226 => (if (t226.length : Int) = 1 then ((aquiferlaw05_works.f).bind fun t229 => (some t229)) else (some false))) else (some false)))
end
def aquiferlaw05_PathParts.f (k : Nat) (a0 : ByteArray) (a1 : ByteArray) : Option (Bool) := (aquiferlaw05_few.f a0).bind fun t199 => ((aquiferlaw05_few.f a1).bind fun t200 => ((path_Parent.f t199).bind fun bt201 => (if bt201.2 = true then ((path_Name.f t199).bind fun t211 => ((path_Join.f bt201.1 t211).bind fun bt212 => ((aquiferlaw05_ups.f t199 100).bind fun t214 => (if bt212.1.toList = t199.toList then (if bt212.2 = 0 then ((path_Split.f t199).bind fun t217 => (if (t214.length : Int) = (t217.length : Int) then (if 0 < (t214.length : Int) then (if (rdOf ByteArray.empty t214 0).toList = bt201.1.toList then (if 0 ≤ (wrap64 ((t214.length : Int) - 1)) then (if (wrap64 ((t214.length : Int) - 1)) < (t214.length : Int) then (aquiferlaw05_PathParts.j0 k t199 t200 t214 ((rdOf ByteArray.empty t214 (wrap64 ((t214.length : Int) - 1))).toList != ([] : List UInt8))) else (none)) else (none)) else (aquiferlaw05_PathParts.j0 k t199 t200 t214 true)) else (none)) else (aquiferlaw05_PathParts.j0 k t199 t200 t214 true))) else (aquiferlaw05_PathParts.j0 k t199 t200 t214 true)) else (aquiferlaw05_PathParts.j0 k t199 t200 t214 true))))) else ((aquiferlaw05_ups.f t199 100).bind fun t203 => (if (t203.length : Int) = 0 then ((path_Split.f t199).bind fun t206 => (if (t206.length : Int) = 0 then ((path_Name.f t199).bind fun t209 => (if t209.toList = ([] : List UInt8) then ((aquiferlaw05_works.f).bind fun t210 => (some t210)) else (some false))) else (some false))) else (some false))))))
theorem aquiferlaw05_PathParts.mono_l : ∀ k, (∀ y0 y1 y2 y3, LeO (aquiferlaw05_PathParts.j0 k y0 y1 y2 y3) (aquiferlaw05_PathParts.j0 (k + 1) y0 y1 y2 y3)) ∧ (∀ y0 y1 y2 y3 y4 y5, LeO (aquiferlaw05_PathParts.l0 k y0 y1 y2 y3 y4 y5) (aquiferlaw05_PathParts.l0 (k + 1) y0 y1 y2 y3 y4 y5))
 | 0 => ⟨fun _ _ _ _ r h => by simp [aquiferlaw05_PathParts.j0] at h, fun _ _ _ _ _ _ r h => by simp [aquiferlaw05_PathParts.l0] at h⟩
 | k + 1 => by
  obtain ⟨ih0, ih1⟩ := aquiferlaw05_PathParts.mono_l k
  refine ⟨?_, ?_⟩
  ·intro y0 y1 y2 y3
   unfold aquiferlaw05_PathParts.j0
   repeat' first
   | (with_reducible exact ih0 _ _ _ _)
   | (with_reducible exact ih1 _ _ _ _ _ _)
   | (with_reducible exact LeO.refl _)
   | (with_reducible exact LeO.none _)
   | (with_reducible refine LeO.ite ?_ ?_)
   | (with_reducible refine LeO.bind ?_ (fun _ => ?_))
   | exact ih0 _ _ _ _
   | exact ih1 _ _ _ _ _ _
   | exact LeO.none _
   | refine LeO.ite ?_ ?_
   | refine LeO.bind ?_ (fun _ => ?_)
  ·intro y0 y1 y2 y3 y4 y5
   unfold aquiferlaw05_PathParts.l0
   repeat' first
   | (with_reducible exact ih0 _ _ _ _)
   | (with_reducible exact ih1 _ _ _ _ _ _)
   | (with_reducible exact LeO.refl _)
   | (with_reducible exact LeO.none _)
   | (with_reducible refine LeO.ite ?_ ?_)
   | (with_reducible refine LeO.bind ?_ (fun _ => ?_))
   | exact ih0 _ _ _ _
   | exact ih1 _ _ _ _ _ _
   | exact LeO.none _
   | refine LeO.ite ?_ ?_
   | refine LeO.bind ?_ (fun _ => ?_)
theorem aquiferlaw05_PathParts.mono : ∀ a0 a1 k, LeO (aquiferlaw05_PathParts.f k a0 a1) (aquiferlaw05_PathParts.f (k + 1) a0 a1) := by
 intro a0 a1 k
 obtain ⟨ih0, ih1⟩ := aquiferlaw05_PathParts.mono_l k
 unfold aquiferlaw05_PathParts.f
 repeat' first
   | (with_reducible exact ih0 _ _ _ _)
   | (with_reducible exact ih1 _ _ _ _ _ _)
   | (with_reducible exact LeO.refl _)
   | (with_reducible exact LeO.none _)
   | (with_reducible refine LeO.ite ?_ ?_)
   | (with_reducible refine LeO.bind ?_ (fun _ => ?_))
   | exact ih0 _ _ _ _
   | exact ih1 _ _ _ _ _ _
   | exact LeO.none _
   | refine LeO.ite ?_ ?_
   | refine LeO.bind ?_ (fun _ => ?_)
set_option maxHeartbeats 8000000 in
set_option maxRecDepth 100000 in
theorem aquiferlaw05_PathParts.calls (k : Nat) (a0 : ByteArray) (a1 : ByteArray) (r : Bool) (w : World) (h : aquiferlaw05_PathParts.f k a0 a1 = some r) :
  Calls Tryd.prog 9 #[.string a0, .string a1] w fun e w' => e = .returned (.bool r) ∧ Below w.heap.size w w' := by
 have HB := Aside0.mk (Below.refl w.heap.size w)
 have H : ((aquiferlaw05_few.f a0).bind fun t199 => ((aquiferlaw05_few.f a1).bind fun t200 => ((path_Parent.f t199).bind fun bt201 => (if bt201.2 = true then ((path_Name.f t199).bind fun t211 => ((path_Join.f bt201.1 t211).bind fun bt212 => ((aquiferlaw05_ups.f t199 100).bind fun t214 => (if bt212.1.toList = t199.toList then (if bt212.2 = 0 then ((path_Split.f t199).bind fun t217 => (if (t214.length : Int) = (t217.length : Int) then (if 0 < (t214.length : Int) then (if (rdOf ByteArray.empty t214 0).toList = bt201.1.toList then (if 0 ≤ (wrap64 ((t214.length : Int) - 1)) then (if (wrap64 ((t214.length : Int) - 1)) < (t214.length : Int) then (aquiferlaw05_PathParts.j0 k t199 t200 t214 ((rdOf ByteArray.empty t214 (wrap64 ((t214.length : Int) - 1))).toList != ([] : List UInt8))) else (none)) else (none)) else (aquiferlaw05_PathParts.j0 k t199 t200 t214 true)) else (none)) else (aquiferlaw05_PathParts.j0 k t199 t200 t214 true))) else (aquiferlaw05_PathParts.j0 k t199 t200 t214 true)) else (aquiferlaw05_PathParts.j0 k t199 t200 t214 true))))) else ((aquiferlaw05_ups.f t199 100).bind fun t203 => (if (t203.length : Int) = 0 then ((path_Split.f t199).bind fun t206 => (if (t206.length : Int) = 0 then ((path_Name.f t199).bind fun t209 => (if t209.toList = ([] : List UInt8) then ((aquiferlaw05_works.f).bind fun t210 => (some t210)) else (some false))) else (some false))) else (some false))))))) = some r := h
 clear h
 replace H := Option.bind_eq_some_iff.mp H
 obtain ⟨t199, A30, H⟩ := H
 replace H : ((aquiferlaw05_few.f a1).bind fun t200 => ((path_Parent.f t199).bind fun bt201 => (if bt201.2 = true then ((path_Name.f t199).bind fun t211 => ((path_Join.f bt201.1 t211).bind fun bt212 => ((aquiferlaw05_ups.f t199 100).bind fun t214 => (if bt212.1.toList = t199.toList then (if bt212.2 = 0 then ((path_Split.f t199).bind fun t217 => (if (t214.length : Int) = (t217.length : Int) then (if 0 < (t214.length : Int) then (if (rdOf ByteArray.empty t214 0).toList = bt201.1.toList then (if 0 ≤ (wrap64 ((t214.length : Int) - 1)) then (if (wrap64 ((t214.length : Int) - 1)) < (t214.length : Int) then (aquiferlaw05_PathParts.j0 k t199 t200 t214 ((rdOf ByteArray.empty t214 (wrap64 ((t214.length : Int) - 1))).toList != ([] : List UInt8))) else (none)) else (none)) else (aquiferlaw05_PathParts.j0 k t199 t200 t214 true)) else (none)) else (aquiferlaw05_PathParts.j0 k t199 t200 t214 true))) else (aquiferlaw05_PathParts.j0 k t199 t200 t214 true)) else (aquiferlaw05_PathParts.j0 k t199 t200 t214 true))))) else ((aquiferlaw05_ups.f t199 100).bind fun t203 => (if (t203.length : Int) = 0 then ((path_Split.f t199).bind fun t206 => (if (t206.length : Int) = 0 then ((path_Name.f t199).bind fun t209 => (if t209.toList = ([] : List UInt8) then ((aquiferlaw05_works.f).bind fun t210 => (some t210)) else (some false))) else (some false))) else (some false)))))) = some r := H
 have A3 := Aside0.mk A30
 clear A30
 replace H := Option.bind_eq_some_iff.mp H
 obtain ⟨t200, A40, H⟩ := H
 replace H : ((path_Parent.f t199).bind fun bt201 => (if bt201.2 = true then ((path_Name.f t199).bind fun t211 => ((path_Join.f bt201.1 t211).bind fun bt212 => ((aquiferlaw05_ups.f t199 100).bind fun t214 => (if bt212.1.toList = t199.toList then (if bt212.2 = 0 then ((path_Split.f t199).bind fun t217 => (if (t214.length : Int) = (t217.length : Int) then (if 0 < (t214.length : Int) then (if (rdOf ByteArray.empty t214 0).toList = bt201.1.toList then (if 0 ≤ (wrap64 ((t214.length : Int) - 1)) then (if (wrap64 ((t214.length : Int) - 1)) < (t214.length : Int) then (aquiferlaw05_PathParts.j0 k t199 t200 t214 ((rdOf ByteArray.empty t214 (wrap64 ((t214.length : Int) - 1))).toList != ([] : List UInt8))) else (none)) else (none)) else (aquiferlaw05_PathParts.j0 k t199 t200 t214 true)) else (none)) else (aquiferlaw05_PathParts.j0 k t199 t200 t214 true))) else (aquiferlaw05_PathParts.j0 k t199 t200 t214 true)) else (aquiferlaw05_PathParts.j0 k t199 t200 t214 true))))) else ((aquiferlaw05_ups.f t199 100).bind fun t203 => (if (t203.length : Int) = 0 then ((path_Split.f t199).bind fun t206 => (if (t206.length : Int) = 0 then ((path_Name.f t199).bind fun t209 => (if t209.toList = ([] : List UInt8) then ((aquiferlaw05_works.f).bind fun t210 => (some t210)) else (some false))) else (some false))) else (some false))))) = some r := H
 have A4 := Aside0.mk A40
 clear A40
 replace H := Option.bind_eq_some_iff.mp H
 obtain ⟨⟨t201, t202⟩, A50, H⟩ := H
 replace H : (if t202 = true then ((path_Name.f t199).bind fun t211 => ((path_Join.f t201 t211).bind fun bt212 => ((aquiferlaw05_ups.f t199 100).bind fun t214 => (if bt212.1.toList = t199.toList then (if bt212.2 = 0 then ((path_Split.f t199).bind fun t217 => (if (t214.length : Int) = (t217.length : Int) then (if 0 < (t214.length : Int) then (if (rdOf ByteArray.empty t214 0).toList = t201.toList then (if 0 ≤ (wrap64 ((t214.length : Int) - 1)) then (if (wrap64 ((t214.length : Int) - 1)) < (t214.length : Int) then (aquiferlaw05_PathParts.j0 k t199 t200 t214 ((rdOf ByteArray.empty t214 (wrap64 ((t214.length : Int) - 1))).toList != ([] : List UInt8))) else (none)) else (none)) else (aquiferlaw05_PathParts.j0 k t199 t200 t214 true)) else (none)) else (aquiferlaw05_PathParts.j0 k t199 t200 t214 true))) else (aquiferlaw05_PathParts.j0 k t199 t200 t214 true)) else (aquiferlaw05_PathParts.j0 k t199 t200 t214 true))))) else ((aquiferlaw05_ups.f t199 100).bind fun t203 => (if (t203.length : Int) = 0 then ((path_Split.f t199).bind fun t206 => (if (t206.length : Int) = 0 then ((path_Name.f t199).bind fun t209 => (if t209.toList = ([] : List UInt8) then ((aquiferlaw05_works.f).bind fun t210 => (some t210)) else (some false))) else (some false))) else (some false)))) = some r := H
 have A5 := Aside0.mk A50
 clear A50
 by_cases c6 : t202 = true
 ·subst c6
  have H1 : ((path_Name.f t199).bind fun t211 => ((path_Join.f t201 t211).bind fun bt212 => ((aquiferlaw05_ups.f t199 100).bind fun t214 => (if bt212.1.toList = t199.toList then (if bt212.2 = 0 then ((path_Split.f t199).bind fun t217 => (if (t214.length : Int) = (t217.length : Int) then (if 0 < (t214.length : Int) then (if (rdOf ByteArray.empty t214 0).toList = t201.toList then (if 0 ≤ (wrap64 ((t214.length : Int) - 1)) then (if (wrap64 ((t214.length : Int) - 1)) < (t214.length : Int) then (aquiferlaw05_PathParts.j0 k t199 t200 t214 ((rdOf ByteArray.empty t214 (wrap64 ((t214.length : Int) - 1))).toList != ([] : List UInt8))) else (none)) else (none)) else (aquiferlaw05_PathParts.j0 k t199 t200 t214 true)) else (none)) else (aquiferlaw05_PathParts.j0 k t199 t200 t214 true))) else (aquiferlaw05_PathParts.j0 k t199 t200 t214 true)) else (aquiferlaw05_PathParts.j0 k t199 t200 t214 true))))) = some r := by rw [if_pos rfl] at H; exact H
  clear H
  have H := H1
  clear H1
  replace H := Option.bind_eq_some_iff.mp H
  obtain ⟨t211, A70, H⟩ := H
  replace H : ((path_Join.f t201 t211).bind fun bt212 => ((aquiferlaw05_ups.f t199 100).bind fun t214 => (if bt212.1.toList = t199.toList then (if bt212.2 = 0 then ((path_Split.f t199).bind fun t217 => (if (t214.length : Int) = (t217.length : Int) then (if 0 < (t214.length : Int) then (if (rdOf ByteArray.empty t214 0).toList = t201.toList then (if 0 ≤ (wrap64 ((t214.length : Int) - 1)) then (if (wrap64 ((t214.length : Int) - 1)) < (t214.length : Int) then (aquiferlaw05_PathParts.j0 k t199 t200 t214 ((rdOf ByteArray.empty t214 (wrap64 ((t214.length : Int) - 1))).toList != ([] : List UInt8))) else (none)) else (none)) else (aquiferlaw05_PathParts.j0 k t199 t200 t214 true)) else (none)) else (aquiferlaw05_PathParts.j0 k t199 t200 t214 true))) else (aquiferlaw05_PathParts.j0 k t199 t200 t214 true)) else (aquiferlaw05_PathParts.j0 k t199 t200 t214 true)))) = some r := H
  have A7 := Aside0.mk A70
  clear A70
  replace H := Option.bind_eq_some_iff.mp H
  obtain ⟨⟨t212, t213⟩, A80, H⟩ := H
  replace H : ((aquiferlaw05_ups.f t199 100).bind fun t214 => (if t212.toList = t199.toList then (if t213 = 0 then ((path_Split.f t199).bind fun t217 => (if (t214.length : Int) = (t217.length : Int) then (if 0 < (t214.length : Int) then (if (rdOf ByteArray.empty t214 0).toList = t201.toList then (if 0 ≤ (wrap64 ((t214.length : Int) - 1)) then (if (wrap64 ((t214.length : Int) - 1)) < (t214.length : Int) then (aquiferlaw05_PathParts.j0 k t199 t200 t214 ((rdOf ByteArray.empty t214 (wrap64 ((t214.length : Int) - 1))).toList != ([] : List UInt8))) else (none)) else (none)) else (aquiferlaw05_PathParts.j0 k t199 t200 t214 true)) else (none)) else (aquiferlaw05_PathParts.j0 k t199 t200 t214 true))) else (aquiferlaw05_PathParts.j0 k t199 t200 t214 true)) else (aquiferlaw05_PathParts.j0 k t199 t200 t214 true))) = some r := H
  have A8 := Aside0.mk A80
  clear A80
  replace H := Option.bind_eq_some_iff.mp H
  obtain ⟨t214, A90, H⟩ := H
  replace H : (if t212.toList = t199.toList then (if t213 = 0 then ((path_Split.f t199).bind fun t217 => (if (t214.length : Int) = (t217.length : Int) then (if 0 < (t214.length : Int) then (if (rdOf ByteArray.empty t214 0).toList = t201.toList then (if 0 ≤ (wrap64 ((t214.length : Int) - 1)) then (if (wrap64 ((t214.length : Int) - 1)) < (t214.length : Int) then (aquiferlaw05_PathParts.j0 k t199 t200 t214 ((rdOf ByteArray.empty t214 (wrap64 ((t214.length : Int) - 1))).toList != ([] : List UInt8))) else (none)) else (none)) else (aquiferlaw05_PathParts.j0 k t199 t200 t214 true)) else (none)) else (aquiferlaw05_PathParts.j0 k t199 t200 t214 true))) else (aquiferlaw05_PathParts.j0 k t199 t200 t214 true)) else (aquiferlaw05_PathParts.j0 k t199 t200 t214 true)) = some r := H
  have A9 := Aside0.mk A90
  clear A90
  have HC10 := Aside0.mk H
  clear H
  go_enter Tryd.func9, Tryd.ntmps9
  go_upto_region 7 with (first | ((with_reducible refine gate_callee (f := 10) rfl ?_); refine goesL_ (some 14) rfl rfl Tryd.func10 (by kernel_rfl) rfl #[.string a0] rfl (by (try simp only [List.map_toArray, List.map_cons, List.map_nil]); first | done | rfl | (simp only [List.length_drop, List.length_take]; rfl)) ?_; (with_reducible refine (aquiferlaw05_few.calls a0 t199 _ A3.out).mono ?_); rintro e w11 ⟨rfl, hb⟩; refine ⟨_, rfl, ?_⟩; have n0_ := Aside0.mk (below_step (by repeat (first | (with_reducible first | exact HB.out | apply below_alloc | apply pw_below_drewN | apply below_drew1) | exact HB.out)) hb); clear HB; have HB := n0_; clear n0_; (try clear hb); (try clear hb2); (try clear hk); (try clear hi)) | ((with_reducible refine gate_callee (f := 10) rfl ?_); refine goesL_ (some 16) rfl rfl Tryd.func10 (by kernel_rfl) rfl #[.string a1] rfl (by (try simp only [List.map_toArray, List.map_cons, List.map_nil]); first | done | rfl | (simp only [List.length_drop, List.length_take]; rfl)) ?_; (with_reducible refine (aquiferlaw05_few.calls a1 t200 _ A4.out).mono ?_); rintro e w12 ⟨rfl, hb⟩; refine ⟨_, rfl, ?_⟩; have n0_ := Aside0.mk (below_step (by repeat (first | (with_reducible first | exact HB.out | apply below_alloc | apply pw_below_drewN | apply below_drew1) | exact HB.out)) hb); clear HB; have HB := n0_; clear n0_; (try clear hb); (try clear hb2); (try clear hk); (try clear hi)) | ((with_reducible refine gate_callee (f := 17) rfl ?_); refine goesL_ (some 19) rfl rfl Tryd.func17 (by kernel_rfl) rfl #[.string t199] rfl (by (try simp only [List.map_toArray, List.map_cons, List.map_nil]); first | done | rfl | (simp only [List.length_drop, List.length_take]; rfl)) ?_; (with_reducible refine (path_Parent.calls t199 t201 true _ A5.out).mono ?_); rintro e w13 ⟨rfl, hb⟩; refine ⟨_, rfl, ?_⟩; have n0_ := Aside0.mk (below_step (by repeat (first | (with_reducible first | exact HB.out | apply below_alloc | apply pw_below_drewN | apply below_drew1) | exact HB.out)) hb); clear HB; have HB := n0_; clear n0_; (try clear hb); (try clear hb2); (try clear hk); (try clear hi)) | ((with_reducible refine gate_callee (f := 26) rfl ?_); refine goesL_ (some 45) rfl rfl Tryd.func26 (by kernel_rfl) rfl #[.string t199] rfl (by (try simp only [List.map_toArray, List.map_cons, List.map_nil]); first | done | rfl | (simp only [List.length_drop, List.length_take]; rfl)) ?_; (with_reducible refine (path_Name.calls t199 t211 _ A7.out).mono ?_); rintro e w14 ⟨rfl, hb⟩; refine ⟨_, rfl, ?_⟩; have n0_ := Aside0.mk (below_step (by repeat (first | (with_reducible first | exact HB.out | apply below_alloc | apply pw_below_drewN | apply below_drew1) | exact HB.out)) hb); clear HB; have HB := n0_; clear n0_; (try clear hb); (try clear hb2); (try clear hk); (try clear hi)) | ((with_reducible refine gate_callee (f := 30) rfl ?_); refine goesL_ (some 46) rfl rfl Tryd.func30 (by kernel_rfl) rfl #[.string t201, .string t211] rfl (by (try simp only [List.map_toArray, List.map_cons, List.map_nil]); first | done | rfl | (simp only [List.length_drop, List.length_take]; rfl)) ?_; (with_reducible refine (path_Join.calls t201 t211 t212 t213 _ A8.out).mono ?_); rintro e w15 ⟨rfl, hb⟩; refine ⟨_, rfl, ?_⟩; have n0_ := Aside0.mk (below_step (by repeat (first | (with_reducible first | exact HB.out | apply below_alloc | apply pw_below_drewN | apply below_drew1) | exact HB.out)) hb); clear HB; have HB := n0_; clear n0_; (try clear hb); (try clear hb2); (try clear hk); (try clear hi)) | ((with_reducible refine gate_callee (f := 28) rfl ?_); refine goesL_ (some 50) rfl rfl Tryd.func28 (by kernel_rfl) rfl #[.string t199, .int .i64 100] rfl (by (try simp only [List.map_toArray, List.map_cons, List.map_nil]); first | done | rfl | (simp only [List.length_drop, List.length_take]; rfl)) ?_; (with_reducible refine (aquiferlaw05_ups.calls t199 100 t214 _ A9.out).mono ?_); rintro e w16 ⟨v215, rfl, ho0, hb⟩; refine ⟨_, rfl, ?_⟩; have n0_ := Aside0.mk (Kd.R_lower ho0 (below_size (by repeat (first | (with_reducible first | exact HB.out | apply below_alloc | apply pw_below_drewN | apply below_drew1) | exact HB.out)))); have n1_ := Aside0.mk (below_step (by repeat (first | (with_reducible first | exact HB.out | apply below_alloc | apply pw_below_drewN | apply below_drew1) | exact HB.out)) hb); clear HB; have HO216 := n0_; have HB := n1_; clear n0_ n1_; (try clear hb); (try clear hb2); (try clear hk); (try clear hi); (try clear ho0)))
  (try simp only [Act.put, List.setIfInBounds_toArray, List.set_cons_zero, List.set_cons_succ])
  go_cut [81] (fun v81 wc => ∃ (kq : Nat) (x81_9 : Bool), v81 = .bool x81_9 ∧ Aside0 (aquiferlaw05_PathParts.j0 kq t199 t200 t214 x81_9 = some r) ∧ Aside0 (kq ≤ k) ∧ Aside0 (Kd.R Kd.string 9 wc w.heap.size (fun _ => True) v215 t214) ∧ Aside0 (Below w.heap.size w wc))
  case first =>
   have H := HC10.out
   clear HC10
   by_cases c17 : t212.toList = t199.toList
   ·rw [if_pos c17] at H
    have c17b0 : (t212.toList == t199.toList) = true := beq_iff_eq.mpr c17
    have c17b1 : (t212.toList != t199.toList) = false := bne_eq_false_iff_eq.mpr c17
    clear c17
    (first | rw [c17b0] | (simp only [i64_w, i32_w]; rw [c17b0]) | rw [c17b1] | rw [c17b2] | skip)
    by_cases c18 : t213 = 0
    ·rw [if_pos c18] at H
     have c18b0 : (t213 == 0) = true := beq_iff_eq.mpr c18
     have c18b1 : (t213 != 0) = false := bne_eq_false_iff_eq.mpr c18
     clear c18
     replace H := Option.bind_eq_some_iff.mp H
     obtain ⟨t217, A190, H⟩ := H
     replace H : (if (t214.length : Int) = (t217.length : Int) then (if 0 < (t214.length : Int) then (if (rdOf ByteArray.empty t214 0).toList = t201.toList then (if 0 ≤ (wrap64 ((t214.length : Int) - 1)) then (if (wrap64 ((t214.length : Int) - 1)) < (t214.length : Int) then (aquiferlaw05_PathParts.j0 k t199 t200 t214 ((rdOf ByteArray.empty t214 (wrap64 ((t214.length : Int) - 1))).toList != ([] : List UInt8))) else (none)) else (none)) else (aquiferlaw05_PathParts.j0 k t199 t200 t214 true)) else (none)) else (aquiferlaw05_PathParts.j0 k t199 t200 t214 true)) = some r := H
     have A19 := Aside0.mk A190
     clear A190
     by_cases c20 : (t214.length : Int) = (t217.length : Int)
     ·rw [if_pos c20] at H
      have c20b0 : ((t214.length : Int) == (t217.length : Int)) = true := beq_iff_eq.mpr c20
      have c20b1 : ((t214.length : Int) != (t217.length : Int)) = false := bne_eq_false_iff_eq.mpr c20
      have c20b2 : (t214.length == t217.length) = true := by first | simpa using c20 | (simp at c20 ⊢; omega)
      clear c20
      by_cases c21 : 0 < (t214.length : Int)
      ·rw [if_pos c21] at H
       have c21b0 : decide (0 < (t214.length : Int)) = true := decide_eq_true c21
       have c21b1 : decide (0 < t214.length) = true := decide_eq_true (by omega)
       clear c21
       by_cases c22 : (rdOf ByteArray.empty t214 0).toList = t201.toList
       ·rw [if_pos c22] at H
        have c22b0 : ((rdOf ByteArray.empty t214 0).toList == t201.toList) = true := beq_iff_eq.mpr c22
        have c22b1 : ((rdOf ByteArray.empty t214 0).toList != t201.toList) = false := bne_eq_false_iff_eq.mpr c22
        clear c22
        obtain ⟨ji23, hji23⟩ : ∃ j_ : Int, (wrap64 ((t214.length : Int) - 1)) = j_ := ⟨_, rfl⟩
        replace H : (if 0 ≤ (ji23) then (if (ji23) < (t214.length : Int) then (aquiferlaw05_PathParts.j0 k t199 t200 t214 ((rdOf ByteArray.empty t214 (ji23)).toList != ([] : List UInt8))) else (none)) else (none)) = some r := by first | (rw [hji23] at H; exact H) | (simp only [hji23] at H ⊢; exact H)
        (try rw [hji23] at A19)
        have hji23w : (IntKind.i64.wrap ((t214.length : Int) - 1)) = ji23 := (i64_w _).trans hji23
        by_cases c24 : 0 ≤ (ji23)
        ·rw [if_pos c24] at H
         have c24b0 : decide (0 ≤ (ji23)) = true := decide_eq_true c24
         clear c24
         by_cases c25 : (ji23) < (t214.length : Int)
         ·rw [if_pos c25] at H
          have c25b0 : decide ((ji23) < (t214.length : Int)) = true := decide_eq_true c25
          clear c25
          have H' := Aside0.mk H
          clear H
          obtain ⟨Ao26, co26, eo26⟩ := Kd.R_slice HO216.out
          subst eo26
          go_wp2_with (first | (go_at_call 24; (with_reducible refine (path_Split.calls t199 t217 _ A19.out).mono ?_); rintro e w27 ⟨v218, rfl, ho0, hb⟩; have n0_ := Aside0.mk (Kd.R_elder' (by (with_reducible repeat (first | apply Kd.R_alloc | apply Kd.R_drewN | apply Kd.R_drew)); exact HO216.out) (Kd.R_base ho0) hb); have n1_ := Aside0.mk (Kd.R_lower (Kd.R_new' ho0 (Kd.R_lt (by (with_reducible repeat (first | apply Kd.R_alloc | apply Kd.R_drewN | apply Kd.R_drew)); exact HO216.out))) (below_size (by repeat (first | (with_reducible first | exact HB.out | apply below_alloc | apply pw_below_drewN | apply below_drew1) | exact HB.out)))); have n2_ := Aside0.mk (below_step (by repeat (first | (with_reducible first | exact HB.out | apply below_alloc | apply pw_below_drewN | apply below_drew1) | exact HB.out)) hb); clear HO216; clear HB; have HO216 := n0_; have HO219 := n1_; have HB := n2_; clear n0_ n1_ n2_; (try clear hb); (try clear hb2); (try clear hk); (try clear hi); (try clear ho0); obtain ⟨Ao28, co28, eo28⟩ := Kd.R_slice HO219.out; subst eo28; have p220 : 0 ≤ (0 : Int) := (by omega); have q220 : 0 < (t214.length : Int) := of_decide_eq_true (by first | (with_reducible assumption) | assumption); obtain ⟨ad220, e220, hx220_0⟩ := Kd.at_string (Kd.R_reads' HO216.out).2.2 0 p220 q220; cases e220; have qi220 : (0 < t214.length) = True := eq_true (by omega); (try rw [show ((0 : Int)).toNat = 0 from rfl] at hx220_0); (try rw [Addr.add_zero'] at hx220_0); replace p220 := eq_true p220; replace q220 := eq_true q220; have p221 : 0 ≤ ((ji23) : Int) := of_decide_eq_true (by first | (with_reducible assumption) | assumption); have q221 : (ji23) < (t214.length : Int) := of_decide_eq_true (by first | (with_reducible assumption) | assumption); obtain ⟨ad221, e221, hx221_0⟩ := Kd.at_string (Kd.R_reads' HO216.out).2.2 (ji23) p221 q221; obtain rfl : ad220 = ad221 := (by injection e221); replace p221 := eq_true p221; replace q221 := eq_true q221))
          go_meet
          case rel => exact ⟨_, (((rdOf ByteArray.empty t214 (ji23)).toList != ([] : List UInt8))), (by first | rfl | (simp; done) | (simp only [← hji23] <;> (first | rfl | (simp [Aid.ne_nil]; done) | simp)) | (simp [*]; done)), H', ⟨by first | omega | exact Nat.le_refl _⟩, ⟨by (with_reducible repeat (first | apply Kd.R_alloc | apply Kd.R_drewN | apply Kd.R_drew)); exact Kd.R_mono HO216.out (fun _ hk => trivial)⟩, ⟨by repeat (first | (with_reducible first | exact HB.out | apply below_alloc | apply pw_below_drewN | apply below_drew1) | exact HB.out)⟩⟩
         ·rw [if_neg c25] at H
          exact absurd H (by simp)
        ·rw [if_neg c24] at H
         exact absurd H (by simp)
       ·rw [if_neg c22] at H
        have c22b0 : ((rdOf ByteArray.empty t214 0).toList == t201.toList) = false := beq_eq_false_iff_ne.mpr c22
        have c22b1 : ((rdOf ByteArray.empty t214 0).toList != t201.toList) = true := bne_iff_ne.mpr c22
        have H' := Aside0.mk H
        clear H
        obtain ⟨Ao29, co29, eo29⟩ := Kd.R_slice HO216.out
        subst eo29
        go_wp2_with (first | (go_at_call 24; (with_reducible refine (path_Split.calls t199 t217 _ A19.out).mono ?_); rintro e w30 ⟨v218, rfl, ho0, hb⟩; have n0_ := Aside0.mk (Kd.R_elder' (by (with_reducible repeat (first | apply Kd.R_alloc | apply Kd.R_drewN | apply Kd.R_drew)); exact HO216.out) (Kd.R_base ho0) hb); have n1_ := Aside0.mk (Kd.R_lower (Kd.R_new' ho0 (Kd.R_lt (by (with_reducible repeat (first | apply Kd.R_alloc | apply Kd.R_drewN | apply Kd.R_drew)); exact HO216.out))) (below_size (by repeat (first | (with_reducible first | exact HB.out | apply below_alloc | apply pw_below_drewN | apply below_drew1) | exact HB.out)))); have n2_ := Aside0.mk (below_step (by repeat (first | (with_reducible first | exact HB.out | apply below_alloc | apply pw_below_drewN | apply below_drew1) | exact HB.out)) hb); clear HO216; clear HB; have HO216 := n0_; have HO219 := n1_; have HB := n2_; clear n0_ n1_ n2_; (try clear hb); (try clear hb2); (try clear hk); (try clear hi); (try clear ho0); obtain ⟨Ao31, co31, eo31⟩ := Kd.R_slice HO219.out; subst eo31; have p220 : 0 ≤ (0 : Int) := (by omega); have q220 : 0 < (t214.length : Int) := of_decide_eq_true (by first | (with_reducible assumption) | assumption); obtain ⟨ad220, e220, hx220_0⟩ := Kd.at_string (Kd.R_reads' HO216.out).2.2 0 p220 q220; cases e220; have qi220 : (0 < t214.length) = True := eq_true (by omega); (try rw [show ((0 : Int)).toNat = 0 from rfl] at hx220_0); (try rw [Addr.add_zero'] at hx220_0); replace p220 := eq_true p220; replace q220 := eq_true q220))
        go_meet
        case rel => exact ⟨_, (true), (by first | rfl | (simp; done) | (simp [Aid.ne_nil]; done) | (simp [*]; done)), H', ⟨by first | omega | exact Nat.le_refl _⟩, ⟨by (with_reducible repeat (first | apply Kd.R_alloc | apply Kd.R_drewN | apply Kd.R_drew)); exact Kd.R_mono HO216.out (fun _ hk => trivial)⟩, ⟨by repeat (first | (with_reducible first | exact HB.out | apply below_alloc | apply pw_below_drewN | apply below_drew1) | exact HB.out)⟩⟩
      ·rw [if_neg c21] at H
       exact absurd H (by simp)
     ·rw [if_neg c20] at H
      have c20b0 : ((t214.length : Int) == (t217.length : Int)) = false := beq_eq_false_iff_ne.mpr c20
      have c20b1 : ((t214.length : Int) != (t217.length : Int)) = true := bne_iff_ne.mpr c20
      have c20b2 : (t214.length == t217.length) = false := by first | simpa using c20 | (simp at c20 ⊢; omega)
      have H' := Aside0.mk H
      clear H
      obtain ⟨Ao32, co32, eo32⟩ := Kd.R_slice HO216.out
      subst eo32
      go_wp2_with (first | (go_at_call 24; (with_reducible refine (path_Split.calls t199 t217 _ A19.out).mono ?_); rintro e w33 ⟨v218, rfl, ho0, hb⟩; have n0_ := Aside0.mk (Kd.R_elder' (by (with_reducible repeat (first | apply Kd.R_alloc | apply Kd.R_drewN | apply Kd.R_drew)); exact HO216.out) (Kd.R_base ho0) hb); have n1_ := Aside0.mk (Kd.R_lower (Kd.R_new' ho0 (Kd.R_lt (by (with_reducible repeat (first | apply Kd.R_alloc | apply Kd.R_drewN | apply Kd.R_drew)); exact HO216.out))) (below_size (by repeat (first | (with_reducible first | exact HB.out | apply below_alloc | apply pw_below_drewN | apply below_drew1) | exact HB.out)))); have n2_ := Aside0.mk (below_step (by repeat (first | (with_reducible first | exact HB.out | apply below_alloc | apply pw_below_drewN | apply below_drew1) | exact HB.out)) hb); clear HO216; clear HB; have HO216 := n0_; have HO219 := n1_; have HB := n2_; clear n0_ n1_ n2_; (try clear hb); (try clear hb2); (try clear hk); (try clear hi); (try clear ho0); obtain ⟨Ao34, co34, eo34⟩ := Kd.R_slice HO219.out; subst eo34))
      go_meet
      case rel => exact ⟨_, (true), (by first | rfl | (simp; done) | (simp [Aid.ne_nil]; done) | (simp [*]; done)), H', ⟨by first | omega | exact Nat.le_refl _⟩, ⟨by (with_reducible repeat (first | apply Kd.R_alloc | apply Kd.R_drewN | apply Kd.R_drew)); exact Kd.R_mono HO216.out (fun _ hk => trivial)⟩, ⟨by repeat (first | (with_reducible first | exact HB.out | apply below_alloc | apply pw_below_drewN | apply below_drew1) | exact HB.out)⟩⟩
    ·rw [if_neg c18] at H
     have c18b0 : (t213 == 0) = false := beq_eq_false_iff_ne.mpr c18
     have c18b1 : (t213 != 0) = true := bne_iff_ne.mpr c18
     have H' := Aside0.mk H
     clear H
     go_wp2
     go_meet
     case rel => exact ⟨_, (true), (by first | rfl | (simp; done) | (simp [Aid.ne_nil]; done) | (simp [*]; done)), H', ⟨by first | omega | exact Nat.le_refl _⟩, ⟨by (with_reducible repeat (first | apply Kd.R_alloc | apply Kd.R_drewN | apply Kd.R_drew)); first | exact HO216.out | exact Kd.R_mono HO216.out (fun k_ hk_ => by first | exact fun h_ => hk_ (h_.trans (Aid.own_len _ _ _ _)) | exact ⟨hk_.1, fun h_ => hk_.2 (h_.trans (Aid.own_len _ _ _ _))⟩ | simpa [Value.ownBlock] using hk_)⟩, ⟨by repeat (first | (with_reducible first | exact HB.out | apply below_alloc | apply pw_below_drewN | apply below_drew1) | exact HB.out)⟩⟩
   ·rw [if_neg c17] at H
    have c17b0 : (t212.toList == t199.toList) = false := beq_eq_false_iff_ne.mpr c17
    have c17b1 : (t212.toList != t199.toList) = true := bne_iff_ne.mpr c17
    (first | rw [c17b0] | (simp only [i64_w, i32_w]; rw [c17b0]) | rw [c17b1] | rw [c17b2] | skip)
    have H' := Aside0.mk H
    clear H
    go_wp2
    go_meet
    case rel => exact ⟨_, (true), (by first | rfl | (simp; done) | (simp [Aid.ne_nil]; done) | (simp [*]; done)), H', ⟨by first | omega | exact Nat.le_refl _⟩, ⟨by (with_reducible repeat (first | apply Kd.R_alloc | apply Kd.R_drewN | apply Kd.R_drew)); first | exact HO216.out | exact Kd.R_mono HO216.out (fun k_ hk_ => by first | exact fun h_ => hk_ (h_.trans (Aid.own_len _ _ _ _)) | exact ⟨hk_.1, fun h_ => hk_.2 (h_.trans (Aid.own_len _ _ _ _))⟩ | simpa [Value.ownBlock] using hk_)⟩, ⟨by repeat (first | (with_reducible first | exact HB.out | apply below_alloc | apply pw_below_drewN | apply below_drew1) | exact HB.out)⟩⟩
  case rest =>
   clear HC10
   try clear c1
   try clear c2
   try clear p2
   try clear q2
   try clear hx2
   try clear qi2
   try clear c3
   try clear c6
   try clear p6
   try clear c9
   try clear c10
   try clear c17
   try clear c17b0
   try clear c17b1
   try clear c17b2
   try clear c18
   try clear c18b0
   try clear c18b1
   try clear c20
   try clear c20b0
   try clear c20b1
   try clear c20b2
   try clear c21
   try clear c21b0
   try clear c21b1
   try clear c22
   try clear c22b0
   try clear c22b1
   try clear p22
   try clear q22
   try clear hx22
   try clear qi22
   try clear c24
   try clear c24b0
   try clear c25
   try clear c25b0
   try clear c26
   try clear c28
   try clear c30
   try clear hx220_0
   try clear hx221_0
   try clear p220
   try clear p221
   try clear q220
   try clear q221
   obtain ⟨kq, x81_9, rfl, HA, HJ9, HO_9, HB⟩ := hcut
   cases kq with
   | zero => exact absurd HA.out (by simp [aquiferlaw05_PathParts.j0])
   | succ kj9 =>
    have H := HA.out
    clear HA
    simp only [aquiferlaw05_PathParts.j0] at H
    by_cases c35 : x81_9 = true
    ·subst c35
     have H1 : (some false) = some r := by rw [if_pos rfl] at H; exact H
     clear H
     have H := H1
     clear H1
     obtain rfl := Option.some.inj H
     go_wp2
     go_ret
     exact ⟨by first | rfl | (simp [errW_none, errW_some] <;> rfl) | (simp [*, errW_none, errW_some] <;> rfl), by repeat (first | (with_reducible first | exact HB.out | apply below_alloc | apply pw_below_drewN | apply below_drew1) | exact HB.out)⟩
    ·replace c35 := Bool.eq_false_iff.mpr c35
     subst c35
     have H1 : (aquiferlaw05_PathParts.l0 kj9 t199 t200 false t214 (t214.length : Int) 0) = some r := by rw [if_neg (show ¬ (false = true) by decide)] at H; exact H
     clear H
     have H := H1
     clear H1
     have H' := Aside0.mk H
     clear H
     obtain ⟨Ao36, co36, eo36⟩ := Kd.R_slice HO_9.out
     subst eo36
     go_wp2
     go_loopg [10, 84] kj9 (fun kq v10 v84 w' => ∃ (x10_2 : Bool) (x84_2 : Int), v10 = .bool x10_2 ∧ v84 = .int .i64 x84_2 ∧ Aside0 (aquiferlaw05_PathParts.l0 kq t199 t200 x10_2 t214 (t214.length : Int) x84_2 = some r) ∧ Aside0 (kq ≤ kj9) ∧ Aside0 (Kd.R Kd.string 9 w' w.heap.size (fun _ => True) (.slice Ao36 t214.length co36) t214) ∧ Aside0 (Below w.heap.size w w'))
     case atStart => exact ⟨(false), (0), (by first | rfl | (simp; done) | (simp [*]; done)), (by first | rfl | (simp; done) | (simp [*]; done)), H', ⟨Nat.le_refl _⟩, ⟨by (with_reducible repeat (first | apply Kd.R_alloc | apply Kd.R_drewN | apply Kd.R_drew)); exact HO_9.out⟩, ⟨by repeat (first | (with_reducible first | exact HB.out | apply below_alloc | apply pw_below_drewN | apply below_drew1) | exact HB.out)⟩⟩
     case round =>
      clear H'
      try clear c1
      try clear c2
      try clear p2
      try clear q2
      try clear hx2
      try clear qi2
      try clear c3
      try clear c6
      try clear p6
      try clear c9
      try clear c10
      try clear c17
      try clear c17b0
      try clear c17b1
      try clear c17b2
      try clear c18
      try clear c18b0
      try clear c18b1
      try clear c20
      try clear c20b0
      try clear c20b1
      try clear c20b2
      try clear c21
      try clear c21b0
      try clear c21b1
      try clear c22
      try clear c22b0
      try clear c22b1
      try clear p22
      try clear q22
      try clear hx22
      try clear qi22
      try clear c24
      try clear c24b0
      try clear c25
      try clear c25b0
      try clear c26
      try clear c28
      try clear c30
      try clear c35
      try clear hx220_0
      try clear hx221_0
      try clear p2
      try clear p22
      try clear p220
      try clear p221
      try clear p6
      try clear q2
      try clear q22
      try clear q220
      try clear q221
      obtain ⟨x10_2, x84_2, rfl, rfl, HA, HK2, HO_82, HB⟩ := hrel
      cases gk with
      | zero => exact absurd HA.out (by simp [aquiferlaw05_PathParts.l0])
      | succ k2 =>
       have H := HA.out
       clear HA
       simp only [aquiferlaw05_PathParts.l0] at H
       by_cases c37 : x84_2 < (t214.length : Int)
       ·rw [if_pos c37] at H
        have c37b0 : decide (x84_2 < (t214.length : Int)) = true := decide_eq_true c37
        clear c37
        by_cases c38 : 0 ≤ x84_2
        ·rw [if_pos c38] at H
         have c38b0 : decide (0 ≤ x84_2) = true := decide_eq_true c38
         clear c38
         by_cases c39 : x84_2 < (t214.length : Int)
         ·rw [if_pos c39] at H
          have c39b0 : decide (x84_2 < (t214.length : Int)) = true := decide_eq_true c39
          clear c39
          by_cases c40 : x10_2 = true
          ·subst c40
           have H1 : ((path_Below.f (rdOf ByteArray.empty t214 x84_2) t199).bind fun t223 => (if t223 = true then (aquiferlaw05_PathParts.l0 k2 t199 t200 true t214 (t214.length : Int) (wrap64 (x84_2 + 1))) else (some false))) = some r := by rw [if_pos rfl] at H; exact H
           clear H
           have H := H1
           clear H1
           replace H := Option.bind_eq_some_iff.mp H
           obtain ⟨t223, A410, H⟩ := H
           replace H : (if t223 = true then (aquiferlaw05_PathParts.l0 k2 t199 t200 true t214 (t214.length : Int) (wrap64 (x84_2 + 1))) else (some false)) = some r := H
           have A41 := Aside0.mk A410
           clear A410
           by_cases c42 : t223 = true
           ·subst c42
            have H1 : (aquiferlaw05_PathParts.l0 k2 t199 t200 true t214 (t214.length : Int) (wrap64 (x84_2 + 1))) = some r := by rw [if_pos rfl] at H; exact H
            clear H
            have H := H1
            clear H1
            have H' := Aside0.mk H
            clear H
            have p222 : 0 ≤ (x84_2 : Int) := of_decide_eq_true (by first | (with_reducible assumption) | assumption)
            have q222 : x84_2 < (t214.length : Int) := of_decide_eq_true (by first | (with_reducible assumption) | assumption)
            obtain ⟨ad222, e222, hx222_0⟩ := Kd.at_string (Kd.R_reads' HO_82.out).2.2 x84_2 p222 q222
            cases e222
            replace p222 := eq_true p222
            replace q222 := eq_true q222
            go_wp2_with (first | ((with_reducible refine gate_callee (f := 19) rfl ?_); refine goesL_ (some 96) rfl rfl Tryd.func19 (by kernel_rfl) rfl #[.string (rdOf ByteArray.empty t214 x84_2), .string t199] rfl (by (try simp only [List.map_toArray, List.map_cons, List.map_nil]); first | done | rfl | (simp only [List.length_drop, List.length_take]; rfl)) ?_; (with_reducible refine (path_Below.calls (rdOf ByteArray.empty t214 x84_2) t199 true _ A41.out).mono ?_); rintro e w43 ⟨rfl, hb⟩; refine ⟨_, rfl, ?_⟩; have n0_ := Aside0.mk (Kd.R_below (by (with_reducible repeat (first | apply Kd.R_alloc | apply Kd.R_drewN | apply Kd.R_drew)); exact HO_82.out) hb); have n1_ := Aside0.mk (below_step (by repeat (first | (with_reducible first | exact HB.out | apply below_alloc | apply pw_below_drewN | apply below_drew1) | exact HB.out)) hb); clear HO_82; clear HB; have HO_82 := n0_; have HB := n1_; clear n0_ n1_; (try clear hb); (try clear hb2); (try clear hk); (try clear hi)))
            go_roundg k2
            case measure => have := HJ9.out; have := HK2.out; omega
            case rel => exact ⟨(true), (wrap64 (x84_2 + 1)), (by first | rfl | (simp; done) | (simp [Aid.ne_nil]; done) | (simp [*]; done)), (by first | rfl | (simp; done) | (simp [Aid.ne_nil]; done) | (simp [*]; done)), H', ⟨by have := HJ9.out; have := HK2.out; omega⟩, ⟨by (with_reducible repeat (first | apply Kd.R_alloc | apply Kd.R_drewN | apply Kd.R_drew)); first | exact HO_82.out | exact Kd.R_mono HO_82.out (fun k_ hk_ => by first | exact fun h_ => hk_ (h_.trans (Aid.own_len _ _ _ _)) | exact ⟨hk_.1, fun h_ => hk_.2 (h_.trans (Aid.own_len _ _ _ _))⟩ | simpa [Value.ownBlock] using hk_)⟩, ⟨by repeat (first | (with_reducible first | exact HB.out | apply below_alloc | apply pw_below_drewN | apply below_drew1) | exact HB.out)⟩⟩
           ·replace c42 := Bool.eq_false_iff.mpr c42
            subst c42
            have H1 : (some false) = some r := by rw [if_neg (show ¬ (false = true) by decide)] at H; exact H
            clear H
            have H := H1
            clear H1
            obtain rfl := Option.some.inj H
            have p222 : 0 ≤ (x84_2 : Int) := of_decide_eq_true (by first | (with_reducible assumption) | assumption)
            have q222 : x84_2 < (t214.length : Int) := of_decide_eq_true (by first | (with_reducible assumption) | assumption)
            obtain ⟨ad222, e222, hx222_0⟩ := Kd.at_string (Kd.R_reads' HO_82.out).2.2 x84_2 p222 q222
            cases e222
            replace p222 := eq_true p222
            replace q222 := eq_true q222
            go_wp2_with (first | ((with_reducible refine gate_callee (f := 19) rfl ?_); refine goesL_ (some 96) rfl rfl Tryd.func19 (by kernel_rfl) rfl #[.string (rdOf ByteArray.empty t214 x84_2), .string t199] rfl (by (try simp only [List.map_toArray, List.map_cons, List.map_nil]); first | done | rfl | (simp only [List.length_drop, List.length_take]; rfl)) ?_; (with_reducible refine (path_Below.calls (rdOf ByteArray.empty t214 x84_2) t199 false _ A41.out).mono ?_); rintro e w44 ⟨rfl, hb⟩; refine ⟨_, rfl, ?_⟩; have n0_ := Aside0.mk (Kd.R_below (by (with_reducible repeat (first | apply Kd.R_alloc | apply Kd.R_drewN | apply Kd.R_drew)); exact HO_82.out) hb); have n1_ := Aside0.mk (below_step (by repeat (first | (with_reducible first | exact HB.out | apply below_alloc | apply pw_below_drewN | apply below_drew1) | exact HB.out)) hb); clear HO_82; clear HB; have HO_82 := n0_; have HB := n1_; clear n0_ n1_; (try clear hb); (try clear hb2); (try clear hk); (try clear hi)))
            go_ret
            exact ⟨by first | rfl | (simp [errW_none, errW_some] <;> rfl) | (simp [*, errW_none, errW_some] <;> rfl), by repeat (first | (with_reducible first | exact HB.out | apply below_alloc | apply pw_below_drewN | apply below_drew1) | exact HB.out)⟩
          ·replace c40 := Bool.eq_false_iff.mpr c40
           subst c40
           have H1 : ((path_Below.f (rdOf ByteArray.empty t214 x84_2) t199).bind fun t224 => (if t224 = true then (aquiferlaw05_PathParts.l0 k2 t199 t200 ((rdOf ByteArray.empty t214 x84_2).toList == t200.toList) t214 (t214.length : Int) (wrap64 (x84_2 + 1))) else (some false))) = some r := by rw [if_neg (show ¬ (false = true) by decide)] at H; exact H
           clear H
           have H := H1
           clear H1
           replace H := Option.bind_eq_some_iff.mp H
           obtain ⟨t224, A450, H⟩ := H
           replace H : (if t224 = true then (aquiferlaw05_PathParts.l0 k2 t199 t200 ((rdOf ByteArray.empty t214 x84_2).toList == t200.toList) t214 (t214.length : Int) (wrap64 (x84_2 + 1))) else (some false)) = some r := H
           have A45 := Aside0.mk A450
           clear A450
           by_cases c46 : t224 = true
           ·subst c46
            have H1 : (aquiferlaw05_PathParts.l0 k2 t199 t200 ((rdOf ByteArray.empty t214 x84_2).toList == t200.toList) t214 (t214.length : Int) (wrap64 (x84_2 + 1))) = some r := by rw [if_pos rfl] at H; exact H
            clear H
            have H := H1
            clear H1
            have H' := Aside0.mk H
            clear H
            have p222 : 0 ≤ (x84_2 : Int) := of_decide_eq_true (by first | (with_reducible assumption) | assumption)
            have q222 : x84_2 < (t214.length : Int) := of_decide_eq_true (by first | (with_reducible assumption) | assumption)
            obtain ⟨ad222, e222, hx222_0⟩ := Kd.at_string (Kd.R_reads' HO_82.out).2.2 x84_2 p222 q222
            cases e222
            replace p222 := eq_true p222
            replace q222 := eq_true q222
            go_wp2_with (first | ((with_reducible refine gate_callee (f := 19) rfl ?_); refine goesL_ (some 96) rfl rfl Tryd.func19 (by kernel_rfl) rfl #[.string (rdOf ByteArray.empty t214 x84_2), .string t199] rfl (by (try simp only [List.map_toArray, List.map_cons, List.map_nil]); first | done | rfl | (simp only [List.length_drop, List.length_take]; rfl)) ?_; (with_reducible refine (path_Below.calls (rdOf ByteArray.empty t214 x84_2) t199 true _ A45.out).mono ?_); rintro e w47 ⟨rfl, hb⟩; refine ⟨_, rfl, ?_⟩; have n0_ := Aside0.mk (Kd.R_below (by (with_reducible repeat (first | apply Kd.R_alloc | apply Kd.R_drewN | apply Kd.R_drew)); exact HO_82.out) hb); have n1_ := Aside0.mk (below_step (by repeat (first | (with_reducible first | exact HB.out | apply below_alloc | apply pw_below_drewN | apply below_drew1) | exact HB.out)) hb); clear HO_82; clear HB; have HO_82 := n0_; have HB := n1_; clear n0_ n1_; (try clear hb); (try clear hb2); (try clear hk); (try clear hi)))
            go_roundg k2
            case measure => have := HJ9.out; have := HK2.out; omega
            case rel => exact ⟨(((rdOf ByteArray.empty t214 x84_2).toList == t200.toList)), (wrap64 (x84_2 + 1)), (by first | rfl | (simp; done) | (simp [Aid.ne_nil]; done) | (simp [*]; done)), (by first | rfl | (simp; done) | (simp [Aid.ne_nil]; done) | (simp [*]; done)), H', ⟨by have := HJ9.out; have := HK2.out; omega⟩, ⟨by (with_reducible repeat (first | apply Kd.R_alloc | apply Kd.R_drewN | apply Kd.R_drew)); first | exact HO_82.out | exact Kd.R_mono HO_82.out (fun k_ hk_ => by first | exact fun h_ => hk_ (h_.trans (Aid.own_len _ _ _ _)) | exact ⟨hk_.1, fun h_ => hk_.2 (h_.trans (Aid.own_len _ _ _ _))⟩ | simpa [Value.ownBlock] using hk_)⟩, ⟨by repeat (first | (with_reducible first | exact HB.out | apply below_alloc | apply pw_below_drewN | apply below_drew1) | exact HB.out)⟩⟩
           ·replace c46 := Bool.eq_false_iff.mpr c46
            subst c46
            have H1 : (some false) = some r := by rw [if_neg (show ¬ (false = true) by decide)] at H; exact H
            clear H
            have H := H1
            clear H1
            obtain rfl := Option.some.inj H
            have p222 : 0 ≤ (x84_2 : Int) := of_decide_eq_true (by first | (with_reducible assumption) | assumption)
            have q222 : x84_2 < (t214.length : Int) := of_decide_eq_true (by first | (with_reducible assumption) | assumption)
            obtain ⟨ad222, e222, hx222_0⟩ := Kd.at_string (Kd.R_reads' HO_82.out).2.2 x84_2 p222 q222
            cases e222
            replace p222 := eq_true p222
            replace q222 := eq_true q222
            go_wp2_with (first | ((with_reducible refine gate_callee (f := 19) rfl ?_); refine goesL_ (some 96) rfl rfl Tryd.func19 (by kernel_rfl) rfl #[.string (rdOf ByteArray.empty t214 x84_2), .string t199] rfl (by (try simp only [List.map_toArray, List.map_cons, List.map_nil]); first | done | rfl | (simp only [List.length_drop, List.length_take]; rfl)) ?_; (with_reducible refine (path_Below.calls (rdOf ByteArray.empty t214 x84_2) t199 false _ A45.out).mono ?_); rintro e w48 ⟨rfl, hb⟩; refine ⟨_, rfl, ?_⟩; have n0_ := Aside0.mk (Kd.R_below (by (with_reducible repeat (first | apply Kd.R_alloc | apply Kd.R_drewN | apply Kd.R_drew)); exact HO_82.out) hb); have n1_ := Aside0.mk (below_step (by repeat (first | (with_reducible first | exact HB.out | apply below_alloc | apply pw_below_drewN | apply below_drew1) | exact HB.out)) hb); clear HO_82; clear HB; have HO_82 := n0_; have HB := n1_; clear n0_ n1_; (try clear hb); (try clear hb2); (try clear hk); (try clear hi)))
            go_ret
            exact ⟨by first | rfl | (simp [errW_none, errW_some] <;> rfl) | (simp [*, errW_none, errW_some] <;> rfl), by repeat (first | (with_reducible first | exact HB.out | apply below_alloc | apply pw_below_drewN | apply below_drew1) | exact HB.out)⟩
         ·rw [if_neg c39] at H
          exact absurd H (by simp)
        ·rw [if_neg c38] at H
         exact absurd H (by simp)
       ·rw [if_neg c37] at H
        have c37b0 : decide (x84_2 < (t214.length : Int)) = false := decide_eq_false c37
        clear c37
        replace H := Option.bind_eq_some_iff.mp H
        obtain ⟨t225, A490, H⟩ := H
        replace H : (if (t225 == x10_2) = true then ((aquiferlaw05_ups.f t199 1).bind fun t226 => (if (t226.length : Int) = 1 then ((aquiferlaw05_works.f).bind fun t229 => (some t229)) else (some false))) else (some false)) = some r := H
        have A49 := Aside0.mk A490
        clear A490
        by_cases c50 : (t225 == x10_2) = true
        ·rw [if_pos c50] at H
         have c50b0 : (t225 == x10_2) = true := c50
         (try (have c50b1 : decide (t225 = x10_2) = true := by simpa using c50))
         (try (have c50b2 : (t225 == x10_2) = true := by simpa using c50))
         clear c50
         replace H := Option.bind_eq_some_iff.mp H
         obtain ⟨t226, A510, H⟩ := H
         replace H : (if (t226.length : Int) = 1 then ((aquiferlaw05_works.f).bind fun t229 => (some t229)) else (some false)) = some r := H
         have A51 := Aside0.mk A510
         clear A510
         by_cases c52 : (t226.length : Int) = 1
         ·rw [if_pos c52] at H
          have c52b0 : ((t226.length : Int) == 1) = true := beq_iff_eq.mpr c52
          have c52b1 : ((t226.length : Int) != 1) = false := bne_eq_false_iff_eq.mpr c52
          clear c52
          replace H := Option.bind_eq_some_iff.mp H
          obtain ⟨t229, A530, H⟩ := H
          replace H : (some t229) = some r := H
          have A53 := Aside0.mk A530
          clear A530
          obtain rfl := Option.some.inj H
          go_wp2_with (first | ((with_reducible refine gate_callee (f := 19) rfl ?_); refine goesL_ (some 101) rfl rfl Tryd.func19 (by kernel_rfl) rfl #[.string t200, .string t199] rfl (by (try simp only [List.map_toArray, List.map_cons, List.map_nil]); first | done | rfl | (simp only [List.length_drop, List.length_take]; rfl)) ?_; (with_reducible refine (path_Below.calls t200 t199 t225 _ A49.out).mono ?_); rintro e w54 ⟨rfl, hb⟩; refine ⟨_, rfl, ?_⟩; have n0_ := Aside0.mk (Kd.R_below (by (with_reducible repeat (first | apply Kd.R_alloc | apply Kd.R_drewN | apply Kd.R_drew)); exact HO_82.out) hb); have n1_ := Aside0.mk (below_step (by repeat (first | (with_reducible first | exact HB.out | apply below_alloc | apply pw_below_drewN | apply below_drew1) | exact HB.out)) hb); clear HO_82; clear HB; have HO_82 := n0_; have HB := n1_; clear n0_ n1_; (try clear hb); (try clear hb2); (try clear hk); (try clear hi)) | (go_at_call 28; (with_reducible refine (aquiferlaw05_ups.calls t199 1 t226 _ A51.out).mono ?_); rintro e w55 ⟨v227, rfl, ho0, hb⟩; have n0_ := Aside0.mk (Kd.R_elder' (by (with_reducible repeat (first | apply Kd.R_alloc | apply Kd.R_drewN | apply Kd.R_drew)); exact HO_82.out) (Kd.R_base ho0) hb); have n1_ := Aside0.mk (Kd.R_lower (Kd.R_new' ho0 (Kd.R_lt (by (with_reducible repeat (first | apply Kd.R_alloc | apply Kd.R_drewN | apply Kd.R_drew)); exact HO_82.out))) (below_size (by repeat (first | (with_reducible first | exact HB.out | apply below_alloc | apply pw_below_drewN | apply below_drew1) | exact HB.out)))); have n2_ := Aside0.mk (below_step (by repeat (first | (with_reducible first | exact HB.out | apply below_alloc | apply pw_below_drewN | apply below_drew1) | exact HB.out)) hb); clear HO_82; clear HB; have HO_82 := n0_; have HO228 := n1_; have HB := n2_; clear n0_ n1_ n2_; (try clear hb); (try clear hb2); (try clear hk); (try clear hi); (try clear ho0); obtain ⟨Ao56, co56, eo56⟩ := Kd.R_slice HO228.out; subst eo56) | (go_at_call 12; (with_reducible refine (aquiferlaw05_works.calls  t229 _ A53.out).mono ?_); rintro e w57 ⟨rfl, hb⟩; have n0_ := Aside0.mk (Kd.R_below (by (with_reducible repeat (first | apply Kd.R_alloc | apply Kd.R_drewN | apply Kd.R_drew)); exact HO_82.out) hb); have n1_ := Aside0.mk (Kd.R_below (by (with_reducible repeat (first | apply Kd.R_alloc | apply Kd.R_drewN | apply Kd.R_drew)); exact HO228.out) hb); have n2_ := Aside0.mk (below_step (by repeat (first | (with_reducible first | exact HB.out | apply below_alloc | apply pw_below_drewN | apply below_drew1) | exact HB.out)) hb); clear HO_82; clear HO228; clear HB; have HO_82 := n0_; have HO228 := n1_; have HB := n2_; clear n0_ n1_ n2_; (try clear hb); (try clear hb2); (try clear hk); (try clear hi)))
          go_ret
          exact ⟨by first | rfl | (simp [errW_none, errW_some] <;> rfl) | (simp [*, errW_none, errW_some] <;> rfl), by repeat (first | (with_reducible first | exact HB.out | apply below_alloc | apply pw_below_drewN | apply below_drew1) | exact HB.out)⟩
         ·rw [if_neg c52] at H
          have c52b0 : ((t226.length : Int) == 1) = false := beq_eq_false_iff_ne.mpr c52
          have c52b1 : ((t226.length : Int) != 1) = true := bne_iff_ne.mpr c52
          obtain rfl := Option.some.inj H
          go_wp2_with (first | ((with_reducible refine gate_callee (f := 19) rfl ?_); refine goesL_ (some 101) rfl rfl Tryd.func19 (by kernel_rfl) rfl #[.string t200, .string t199] rfl (by (try simp only [List.map_toArray, List.map_cons, List.map_nil]); first | done | rfl | (simp only [List.length_drop, List.length_take]; rfl)) ?_; (with_reducible refine (path_Below.calls t200 t199 t225 _ A49.out).mono ?_); rintro e w58 ⟨rfl, hb⟩; refine ⟨_, rfl, ?_⟩; have n0_ := Aside0.mk (Kd.R_below (by (with_reducible repeat (first | apply Kd.R_alloc | apply Kd.R_drewN | apply Kd.R_drew)); exact HO_82.out) hb); have n1_ := Aside0.mk (below_step (by repeat (first | (with_reducible first | exact HB.out | apply below_alloc | apply pw_below_drewN | apply below_drew1) | exact HB.out)) hb); clear HO_82; clear HB; have HO_82 := n0_; have HB := n1_; clear n0_ n1_; (try clear hb); (try clear hb2); (try clear hk); (try clear hi)) | (go_at_call 28; (with_reducible refine (aquiferlaw05_ups.calls t199 1 t226 _ A51.out).mono ?_); rintro e w59 ⟨v227, rfl, ho0, hb⟩; have n0_ := Aside0.mk (Kd.R_elder' (by (with_reducible repeat (first | apply Kd.R_alloc | apply Kd.R_drewN | apply Kd.R_drew)); exact HO_82.out) (Kd.R_base ho0) hb); have n1_ := Aside0.mk (Kd.R_lower (Kd.R_new' ho0 (Kd.R_lt (by (with_reducible repeat (first | apply Kd.R_alloc | apply Kd.R_drewN | apply Kd.R_drew)); exact HO_82.out))) (below_size (by repeat (first | (with_reducible first | exact HB.out | apply below_alloc | apply pw_below_drewN | apply below_drew1) | exact HB.out)))); have n2_ := Aside0.mk (below_step (by repeat (first | (with_reducible first | exact HB.out | apply below_alloc | apply pw_below_drewN | apply below_drew1) | exact HB.out)) hb); clear HO_82; clear HB; have HO_82 := n0_; have HO228 := n1_; have HB := n2_; clear n0_ n1_ n2_; (try clear hb); (try clear hb2); (try clear hk); (try clear hi); (try clear ho0); obtain ⟨Ao60, co60, eo60⟩ := Kd.R_slice HO228.out; subst eo60))
          go_ret
          exact ⟨by first | rfl | (simp [errW_none, errW_some] <;> rfl) | (simp [*, errW_none, errW_some] <;> rfl), by repeat (first | (with_reducible first | exact HB.out | apply below_alloc | apply pw_below_drewN | apply below_drew1) | exact HB.out)⟩
        ·rw [if_neg c50] at H
         have c50b0 : (t225 == x10_2) = false := by simpa using c50
         (try (have c50b1 : decide (t225 = x10_2) = false := by simpa using c50))
         (try (have c50b2 : (t225 == x10_2) = false := by simpa using c50))
         (try (have c50b3 : ¬ (t225 = x10_2) := by simpa using c50))
         clear c50
         obtain rfl := Option.some.inj H
         go_wp2_with (first | ((with_reducible refine gate_callee (f := 19) rfl ?_); refine goesL_ (some 101) rfl rfl Tryd.func19 (by kernel_rfl) rfl #[.string t200, .string t199] rfl (by (try simp only [List.map_toArray, List.map_cons, List.map_nil]); first | done | rfl | (simp only [List.length_drop, List.length_take]; rfl)) ?_; (with_reducible refine (path_Below.calls t200 t199 t225 _ A49.out).mono ?_); rintro e w61 ⟨rfl, hb⟩; refine ⟨_, rfl, ?_⟩; have n0_ := Aside0.mk (Kd.R_below (by (with_reducible repeat (first | apply Kd.R_alloc | apply Kd.R_drewN | apply Kd.R_drew)); exact HO_82.out) hb); have n1_ := Aside0.mk (below_step (by repeat (first | (with_reducible first | exact HB.out | apply below_alloc | apply pw_below_drewN | apply below_drew1) | exact HB.out)) hb); clear HO_82; clear HB; have HO_82 := n0_; have HB := n1_; clear n0_ n1_; (try clear hb); (try clear hb2); (try clear hk); (try clear hi)))
         go_ret
         exact ⟨by first | rfl | (simp [errW_none, errW_some] <;> rfl) | (simp [*, errW_none, errW_some] <;> rfl), by repeat (first | (with_reducible first | exact HB.out | apply below_alloc | apply pw_below_drewN | apply below_drew1) | exact HB.out)⟩
 ·replace c6 := Bool.eq_false_iff.mpr c6
  subst c6
  have H1 : ((aquiferlaw05_ups.f t199 100).bind fun t203 => (if (t203.length : Int) = 0 then ((path_Split.f t199).bind fun t206 => (if (t206.length : Int) = 0 then ((path_Name.f t199).bind fun t209 => (if t209.toList = ([] : List UInt8) then ((aquiferlaw05_works.f).bind fun t210 => (some t210)) else (some false))) else (some false))) else (some false))) = some r := by rw [if_neg (show ¬ (false = true) by decide)] at H; exact H
  clear H
  have H := H1
  clear H1
  replace H := Option.bind_eq_some_iff.mp H
  obtain ⟨t203, A620, H⟩ := H
  replace H : (if (t203.length : Int) = 0 then ((path_Split.f t199).bind fun t206 => (if (t206.length : Int) = 0 then ((path_Name.f t199).bind fun t209 => (if t209.toList = ([] : List UInt8) then ((aquiferlaw05_works.f).bind fun t210 => (some t210)) else (some false))) else (some false))) else (some false)) = some r := H
  have A62 := Aside0.mk A620
  clear A620
  by_cases c63 : (t203.length : Int) = 0
  ·rw [if_pos c63] at H
   have c63b0 : ((t203.length : Int) == 0) = true := beq_iff_eq.mpr c63
   have c63b1 : ((t203.length : Int) != 0) = false := bne_eq_false_iff_eq.mpr c63
   clear c63
   replace H := Option.bind_eq_some_iff.mp H
   obtain ⟨t206, A640, H⟩ := H
   replace H : (if (t206.length : Int) = 0 then ((path_Name.f t199).bind fun t209 => (if t209.toList = ([] : List UInt8) then ((aquiferlaw05_works.f).bind fun t210 => (some t210)) else (some false))) else (some false)) = some r := H
   have A64 := Aside0.mk A640
   clear A640
   by_cases c65 : (t206.length : Int) = 0
   ·rw [if_pos c65] at H
    have c65b0 : ((t206.length : Int) == 0) = true := beq_iff_eq.mpr c65
    have c65b1 : ((t206.length : Int) != 0) = false := bne_eq_false_iff_eq.mpr c65
    clear c65
    replace H := Option.bind_eq_some_iff.mp H
    obtain ⟨t209, A660, H⟩ := H
    replace H : (if t209.toList = ([] : List UInt8) then ((aquiferlaw05_works.f).bind fun t210 => (some t210)) else (some false)) = some r := H
    have A66 := Aside0.mk A660
    clear A660
    by_cases c67 : t209.toList = ([] : List UInt8)
    ·rw [if_pos c67] at H
     have c67b0 : (t209.toList == ([] : List UInt8)) = true := beq_iff_eq.mpr c67
     have c67b1 : (t209.toList != ([] : List UInt8)) = false := bne_eq_false_iff_eq.mpr c67
     clear c67
     replace H := Option.bind_eq_some_iff.mp H
     obtain ⟨t210, A680, H⟩ := H
     replace H : (some t210) = some r := H
     have A68 := Aside0.mk A680
     clear A680
     obtain rfl := Option.some.inj H
     go_enter Tryd.func9, Tryd.ntmps9
     go_wp2_with (first | ((with_reducible refine gate_callee (f := 10) rfl ?_); refine goesL_ (some 14) rfl rfl Tryd.func10 (by kernel_rfl) rfl #[.string a0] rfl (by (try simp only [List.map_toArray, List.map_cons, List.map_nil]); first | done | rfl | (simp only [List.length_drop, List.length_take]; rfl)) ?_; (with_reducible refine (aquiferlaw05_few.calls a0 t199 _ A3.out).mono ?_); rintro e w69 ⟨rfl, hb⟩; refine ⟨_, rfl, ?_⟩; have n0_ := Aside0.mk (below_step (by repeat (first | (with_reducible first | exact HB.out | apply below_alloc | apply pw_below_drewN | apply below_drew1) | exact HB.out)) hb); clear HB; have HB := n0_; clear n0_; (try clear hb); (try clear hb2); (try clear hk); (try clear hi)) | ((with_reducible refine gate_callee (f := 10) rfl ?_); refine goesL_ (some 16) rfl rfl Tryd.func10 (by kernel_rfl) rfl #[.string a1] rfl (by (try simp only [List.map_toArray, List.map_cons, List.map_nil]); first | done | rfl | (simp only [List.length_drop, List.length_take]; rfl)) ?_; (with_reducible refine (aquiferlaw05_few.calls a1 t200 _ A4.out).mono ?_); rintro e w70 ⟨rfl, hb⟩; refine ⟨_, rfl, ?_⟩; have n0_ := Aside0.mk (below_step (by repeat (first | (with_reducible first | exact HB.out | apply below_alloc | apply pw_below_drewN | apply below_drew1) | exact HB.out)) hb); clear HB; have HB := n0_; clear n0_; (try clear hb); (try clear hb2); (try clear hk); (try clear hi)) | ((with_reducible refine gate_callee (f := 17) rfl ?_); refine goesL_ (some 19) rfl rfl Tryd.func17 (by kernel_rfl) rfl #[.string t199] rfl (by (try simp only [List.map_toArray, List.map_cons, List.map_nil]); first | done | rfl | (simp only [List.length_drop, List.length_take]; rfl)) ?_; (with_reducible refine (path_Parent.calls t199 t201 false _ A5.out).mono ?_); rintro e w71 ⟨rfl, hb⟩; refine ⟨_, rfl, ?_⟩; have n0_ := Aside0.mk (below_step (by repeat (first | (with_reducible first | exact HB.out | apply below_alloc | apply pw_below_drewN | apply below_drew1) | exact HB.out)) hb); clear HB; have HB := n0_; clear n0_; (try clear hb); (try clear hb2); (try clear hk); (try clear hi)) | ((with_reducible refine gate_callee (f := 28) rfl ?_); refine goesL_ (some 25) rfl rfl Tryd.func28 (by kernel_rfl) rfl #[.string t199, .int .i64 100] rfl (by (try simp only [List.map_toArray, List.map_cons, List.map_nil]); first | done | rfl | (simp only [List.length_drop, List.length_take]; rfl)) ?_; (with_reducible refine (aquiferlaw05_ups.calls t199 100 t203 _ A62.out).mono ?_); rintro e w72 ⟨v204, rfl, ho0, hb⟩; refine ⟨_, rfl, ?_⟩; have n0_ := Aside0.mk (Kd.R_lower ho0 (below_size (by repeat (first | (with_reducible first | exact HB.out | apply below_alloc | apply pw_below_drewN | apply below_drew1) | exact HB.out)))); have n1_ := Aside0.mk (below_step (by repeat (first | (with_reducible first | exact HB.out | apply below_alloc | apply pw_below_drewN | apply below_drew1) | exact HB.out)) hb); clear HB; have HO205 := n0_; have HB := n1_; clear n0_ n1_; (try clear hb); (try clear hb2); (try clear hk); (try clear hi); (try clear ho0); obtain ⟨Ao73, co73, eo73⟩ := Kd.R_slice HO205.out; subst eo73) | (go_at_call 24; (with_reducible refine (path_Split.calls t199 t206 _ A64.out).mono ?_); rintro e w74 ⟨v207, rfl, ho0, hb⟩; have n0_ := Aside0.mk (Kd.R_elder' (by (with_reducible repeat (first | apply Kd.R_alloc | apply Kd.R_drewN | apply Kd.R_drew)); exact HO205.out) (Kd.R_base ho0) hb); have n1_ := Aside0.mk (Kd.R_lower (Kd.R_new' ho0 (Kd.R_lt (by (with_reducible repeat (first | apply Kd.R_alloc | apply Kd.R_drewN | apply Kd.R_drew)); exact HO205.out))) (below_size (by repeat (first | (with_reducible first | exact HB.out | apply below_alloc | apply pw_below_drewN | apply below_drew1) | exact HB.out)))); have n2_ := Aside0.mk (below_step (by repeat (first | (with_reducible first | exact HB.out | apply below_alloc | apply pw_below_drewN | apply below_drew1) | exact HB.out)) hb); clear HO205; clear HB; have HO205 := n0_; have HO208 := n1_; have HB := n2_; clear n0_ n1_ n2_; (try clear hb); (try clear hb2); (try clear hk); (try clear hi); (try clear ho0); obtain ⟨Ao75, co75, eo75⟩ := Kd.R_slice HO208.out; subst eo75) | (go_at_call 26; (with_reducible refine (path_Name.calls t199 t209 _ A66.out).mono ?_); rintro e w76 ⟨rfl, hb⟩; have n0_ := Aside0.mk (Kd.R_below (by (with_reducible repeat (first | apply Kd.R_alloc | apply Kd.R_drewN | apply Kd.R_drew)); exact HO205.out) hb); have n1_ := Aside0.mk (Kd.R_below (by (with_reducible repeat (first | apply Kd.R_alloc | apply Kd.R_drewN | apply Kd.R_drew)); exact HO208.out) hb); have n2_ := Aside0.mk (below_step (by repeat (first | (with_reducible first | exact HB.out | apply below_alloc | apply pw_below_drewN | apply below_drew1) | exact HB.out)) hb); clear HO205; clear HO208; clear HB; have HO205 := n0_; have HO208 := n1_; have HB := n2_; clear n0_ n1_ n2_; (try clear hb); (try clear hb2); (try clear hk); (try clear hi)) | (go_at_call 12; (with_reducible refine (aquiferlaw05_works.calls  t210 _ A68.out).mono ?_); rintro e w77 ⟨rfl, hb⟩; have n0_ := Aside0.mk (Kd.R_below (by (with_reducible repeat (first | apply Kd.R_alloc | apply Kd.R_drewN | apply Kd.R_drew)); exact HO205.out) hb); have n1_ := Aside0.mk (Kd.R_below (by (with_reducible repeat (first | apply Kd.R_alloc | apply Kd.R_drewN | apply Kd.R_drew)); exact HO208.out) hb); have n2_ := Aside0.mk (below_step (by repeat (first | (with_reducible first | exact HB.out | apply below_alloc | apply pw_below_drewN | apply below_drew1) | exact HB.out)) hb); clear HO205; clear HO208; clear HB; have HO205 := n0_; have HO208 := n1_; have HB := n2_; clear n0_ n1_ n2_; (try clear hb); (try clear hb2); (try clear hk); (try clear hi)))
     go_ret
     exact ⟨by first | rfl | (simp [errW_none, errW_some] <;> rfl) | (simp [*, errW_none, errW_some] <;> rfl), by repeat (first | (with_reducible first | exact HB.out | apply below_alloc | apply pw_below_drewN | apply below_drew1) | exact HB.out)⟩
    ·rw [if_neg c67] at H
     have c67b0 : (t209.toList == ([] : List UInt8)) = false := beq_eq_false_iff_ne.mpr c67
     have c67b1 : (t209.toList != ([] : List UInt8)) = true := bne_iff_ne.mpr c67
     obtain rfl := Option.some.inj H
     go_enter Tryd.func9, Tryd.ntmps9
     go_wp2_with (first | ((with_reducible refine gate_callee (f := 10) rfl ?_); refine goesL_ (some 14) rfl rfl Tryd.func10 (by kernel_rfl) rfl #[.string a0] rfl (by (try simp only [List.map_toArray, List.map_cons, List.map_nil]); first | done | rfl | (simp only [List.length_drop, List.length_take]; rfl)) ?_; (with_reducible refine (aquiferlaw05_few.calls a0 t199 _ A3.out).mono ?_); rintro e w78 ⟨rfl, hb⟩; refine ⟨_, rfl, ?_⟩; have n0_ := Aside0.mk (below_step (by repeat (first | (with_reducible first | exact HB.out | apply below_alloc | apply pw_below_drewN | apply below_drew1) | exact HB.out)) hb); clear HB; have HB := n0_; clear n0_; (try clear hb); (try clear hb2); (try clear hk); (try clear hi)) | ((with_reducible refine gate_callee (f := 10) rfl ?_); refine goesL_ (some 16) rfl rfl Tryd.func10 (by kernel_rfl) rfl #[.string a1] rfl (by (try simp only [List.map_toArray, List.map_cons, List.map_nil]); first | done | rfl | (simp only [List.length_drop, List.length_take]; rfl)) ?_; (with_reducible refine (aquiferlaw05_few.calls a1 t200 _ A4.out).mono ?_); rintro e w79 ⟨rfl, hb⟩; refine ⟨_, rfl, ?_⟩; have n0_ := Aside0.mk (below_step (by repeat (first | (with_reducible first | exact HB.out | apply below_alloc | apply pw_below_drewN | apply below_drew1) | exact HB.out)) hb); clear HB; have HB := n0_; clear n0_; (try clear hb); (try clear hb2); (try clear hk); (try clear hi)) | ((with_reducible refine gate_callee (f := 17) rfl ?_); refine goesL_ (some 19) rfl rfl Tryd.func17 (by kernel_rfl) rfl #[.string t199] rfl (by (try simp only [List.map_toArray, List.map_cons, List.map_nil]); first | done | rfl | (simp only [List.length_drop, List.length_take]; rfl)) ?_; (with_reducible refine (path_Parent.calls t199 t201 false _ A5.out).mono ?_); rintro e w80 ⟨rfl, hb⟩; refine ⟨_, rfl, ?_⟩; have n0_ := Aside0.mk (below_step (by repeat (first | (with_reducible first | exact HB.out | apply below_alloc | apply pw_below_drewN | apply below_drew1) | exact HB.out)) hb); clear HB; have HB := n0_; clear n0_; (try clear hb); (try clear hb2); (try clear hk); (try clear hi)) | ((with_reducible refine gate_callee (f := 28) rfl ?_); refine goesL_ (some 25) rfl rfl Tryd.func28 (by kernel_rfl) rfl #[.string t199, .int .i64 100] rfl (by (try simp only [List.map_toArray, List.map_cons, List.map_nil]); first | done | rfl | (simp only [List.length_drop, List.length_take]; rfl)) ?_; (with_reducible refine (aquiferlaw05_ups.calls t199 100 t203 _ A62.out).mono ?_); rintro e w81 ⟨v204, rfl, ho0, hb⟩; refine ⟨_, rfl, ?_⟩; have n0_ := Aside0.mk (Kd.R_lower ho0 (below_size (by repeat (first | (with_reducible first | exact HB.out | apply below_alloc | apply pw_below_drewN | apply below_drew1) | exact HB.out)))); have n1_ := Aside0.mk (below_step (by repeat (first | (with_reducible first | exact HB.out | apply below_alloc | apply pw_below_drewN | apply below_drew1) | exact HB.out)) hb); clear HB; have HO205 := n0_; have HB := n1_; clear n0_ n1_; (try clear hb); (try clear hb2); (try clear hk); (try clear hi); (try clear ho0); obtain ⟨Ao82, co82, eo82⟩ := Kd.R_slice HO205.out; subst eo82) | (go_at_call 24; (with_reducible refine (path_Split.calls t199 t206 _ A64.out).mono ?_); rintro e w83 ⟨v207, rfl, ho0, hb⟩; have n0_ := Aside0.mk (Kd.R_elder' (by (with_reducible repeat (first | apply Kd.R_alloc | apply Kd.R_drewN | apply Kd.R_drew)); exact HO205.out) (Kd.R_base ho0) hb); have n1_ := Aside0.mk (Kd.R_lower (Kd.R_new' ho0 (Kd.R_lt (by (with_reducible repeat (first | apply Kd.R_alloc | apply Kd.R_drewN | apply Kd.R_drew)); exact HO205.out))) (below_size (by repeat (first | (with_reducible first | exact HB.out | apply below_alloc | apply pw_below_drewN | apply below_drew1) | exact HB.out)))); have n2_ := Aside0.mk (below_step (by repeat (first | (with_reducible first | exact HB.out | apply below_alloc | apply pw_below_drewN | apply below_drew1) | exact HB.out)) hb); clear HO205; clear HB; have HO205 := n0_; have HO208 := n1_; have HB := n2_; clear n0_ n1_ n2_; (try clear hb); (try clear hb2); (try clear hk); (try clear hi); (try clear ho0); obtain ⟨Ao84, co84, eo84⟩ := Kd.R_slice HO208.out; subst eo84) | (go_at_call 26; (with_reducible refine (path_Name.calls t199 t209 _ A66.out).mono ?_); rintro e w85 ⟨rfl, hb⟩; have n0_ := Aside0.mk (Kd.R_below (by (with_reducible repeat (first | apply Kd.R_alloc | apply Kd.R_drewN | apply Kd.R_drew)); exact HO205.out) hb); have n1_ := Aside0.mk (Kd.R_below (by (with_reducible repeat (first | apply Kd.R_alloc | apply Kd.R_drewN | apply Kd.R_drew)); exact HO208.out) hb); have n2_ := Aside0.mk (below_step (by repeat (first | (with_reducible first | exact HB.out | apply below_alloc | apply pw_below_drewN | apply below_drew1) | exact HB.out)) hb); clear HO205; clear HO208; clear HB; have HO205 := n0_; have HO208 := n1_; have HB := n2_; clear n0_ n1_ n2_; (try clear hb); (try clear hb2); (try clear hk); (try clear hi)))
     go_ret
     exact ⟨by first | rfl | (simp [errW_none, errW_some] <;> rfl) | (simp [*, errW_none, errW_some] <;> rfl), by repeat (first | (with_reducible first | exact HB.out | apply below_alloc | apply pw_below_drewN | apply below_drew1) | exact HB.out)⟩
   ·rw [if_neg c65] at H
    have c65b0 : ((t206.length : Int) == 0) = false := beq_eq_false_iff_ne.mpr c65
    have c65b1 : ((t206.length : Int) != 0) = true := bne_iff_ne.mpr c65
    have c65b2 : ¬ (t206 = []) := fun h_ => c65 (by rw [h_]; rfl)
    obtain rfl := Option.some.inj H
    go_enter Tryd.func9, Tryd.ntmps9
    go_wp2_with (first | ((with_reducible refine gate_callee (f := 10) rfl ?_); refine goesL_ (some 14) rfl rfl Tryd.func10 (by kernel_rfl) rfl #[.string a0] rfl (by (try simp only [List.map_toArray, List.map_cons, List.map_nil]); first | done | rfl | (simp only [List.length_drop, List.length_take]; rfl)) ?_; (with_reducible refine (aquiferlaw05_few.calls a0 t199 _ A3.out).mono ?_); rintro e w86 ⟨rfl, hb⟩; refine ⟨_, rfl, ?_⟩; have n0_ := Aside0.mk (below_step (by repeat (first | (with_reducible first | exact HB.out | apply below_alloc | apply pw_below_drewN | apply below_drew1) | exact HB.out)) hb); clear HB; have HB := n0_; clear n0_; (try clear hb); (try clear hb2); (try clear hk); (try clear hi)) | ((with_reducible refine gate_callee (f := 10) rfl ?_); refine goesL_ (some 16) rfl rfl Tryd.func10 (by kernel_rfl) rfl #[.string a1] rfl (by (try simp only [List.map_toArray, List.map_cons, List.map_nil]); first | done | rfl | (simp only [List.length_drop, List.length_take]; rfl)) ?_; (with_reducible refine (aquiferlaw05_few.calls a1 t200 _ A4.out).mono ?_); rintro e w87 ⟨rfl, hb⟩; refine ⟨_, rfl, ?_⟩; have n0_ := Aside0.mk (below_step (by repeat (first | (with_reducible first | exact HB.out | apply below_alloc | apply pw_below_drewN | apply below_drew1) | exact HB.out)) hb); clear HB; have HB := n0_; clear n0_; (try clear hb); (try clear hb2); (try clear hk); (try clear hi)) | ((with_reducible refine gate_callee (f := 17) rfl ?_); refine goesL_ (some 19) rfl rfl Tryd.func17 (by kernel_rfl) rfl #[.string t199] rfl (by (try simp only [List.map_toArray, List.map_cons, List.map_nil]); first | done | rfl | (simp only [List.length_drop, List.length_take]; rfl)) ?_; (with_reducible refine (path_Parent.calls t199 t201 false _ A5.out).mono ?_); rintro e w88 ⟨rfl, hb⟩; refine ⟨_, rfl, ?_⟩; have n0_ := Aside0.mk (below_step (by repeat (first | (with_reducible first | exact HB.out | apply below_alloc | apply pw_below_drewN | apply below_drew1) | exact HB.out)) hb); clear HB; have HB := n0_; clear n0_; (try clear hb); (try clear hb2); (try clear hk); (try clear hi)) | ((with_reducible refine gate_callee (f := 28) rfl ?_); refine goesL_ (some 25) rfl rfl Tryd.func28 (by kernel_rfl) rfl #[.string t199, .int .i64 100] rfl (by (try simp only [List.map_toArray, List.map_cons, List.map_nil]); first | done | rfl | (simp only [List.length_drop, List.length_take]; rfl)) ?_; (with_reducible refine (aquiferlaw05_ups.calls t199 100 t203 _ A62.out).mono ?_); rintro e w89 ⟨v204, rfl, ho0, hb⟩; refine ⟨_, rfl, ?_⟩; have n0_ := Aside0.mk (Kd.R_lower ho0 (below_size (by repeat (first | (with_reducible first | exact HB.out | apply below_alloc | apply pw_below_drewN | apply below_drew1) | exact HB.out)))); have n1_ := Aside0.mk (below_step (by repeat (first | (with_reducible first | exact HB.out | apply below_alloc | apply pw_below_drewN | apply below_drew1) | exact HB.out)) hb); clear HB; have HO205 := n0_; have HB := n1_; clear n0_ n1_; (try clear hb); (try clear hb2); (try clear hk); (try clear hi); (try clear ho0); obtain ⟨Ao90, co90, eo90⟩ := Kd.R_slice HO205.out; subst eo90) | (go_at_call 24; (with_reducible refine (path_Split.calls t199 t206 _ A64.out).mono ?_); rintro e w91 ⟨v207, rfl, ho0, hb⟩; have n0_ := Aside0.mk (Kd.R_elder' (by (with_reducible repeat (first | apply Kd.R_alloc | apply Kd.R_drewN | apply Kd.R_drew)); exact HO205.out) (Kd.R_base ho0) hb); have n1_ := Aside0.mk (Kd.R_lower (Kd.R_new' ho0 (Kd.R_lt (by (with_reducible repeat (first | apply Kd.R_alloc | apply Kd.R_drewN | apply Kd.R_drew)); exact HO205.out))) (below_size (by repeat (first | (with_reducible first | exact HB.out | apply below_alloc | apply pw_below_drewN | apply below_drew1) | exact HB.out)))); have n2_ := Aside0.mk (below_step (by repeat (first | (with_reducible first | exact HB.out | apply below_alloc | apply pw_below_drewN | apply below_drew1) | exact HB.out)) hb); clear HO205; clear HB; have HO205 := n0_; have HO208 := n1_; have HB := n2_; clear n0_ n1_ n2_; (try clear hb); (try clear hb2); (try clear hk); (try clear hi); (try clear ho0); obtain ⟨Ao92, co92, eo92⟩ := Kd.R_slice HO208.out; subst eo92))
    go_ret
    exact ⟨by first | rfl | (simp [errW_none, errW_some] <;> rfl) | (simp [*, errW_none, errW_some] <;> rfl), by repeat (first | (with_reducible first | exact HB.out | apply below_alloc | apply pw_below_drewN | apply below_drew1) | exact HB.out)⟩
  ·rw [if_neg c63] at H
   have c63b0 : ((t203.length : Int) == 0) = false := beq_eq_false_iff_ne.mpr c63
   have c63b1 : ((t203.length : Int) != 0) = true := bne_iff_ne.mpr c63
   have c63b2 : ¬ (t203 = []) := fun h_ => c63 (by rw [h_]; rfl)
   obtain rfl := Option.some.inj H
   go_enter Tryd.func9, Tryd.ntmps9
   go_wp2_with (first | ((with_reducible refine gate_callee (f := 10) rfl ?_); refine goesL_ (some 14) rfl rfl Tryd.func10 (by kernel_rfl) rfl #[.string a0] rfl (by (try simp only [List.map_toArray, List.map_cons, List.map_nil]); first | done | rfl | (simp only [List.length_drop, List.length_take]; rfl)) ?_; (with_reducible refine (aquiferlaw05_few.calls a0 t199 _ A3.out).mono ?_); rintro e w93 ⟨rfl, hb⟩; refine ⟨_, rfl, ?_⟩; have n0_ := Aside0.mk (below_step (by repeat (first | (with_reducible first | exact HB.out | apply below_alloc | apply pw_below_drewN | apply below_drew1) | exact HB.out)) hb); clear HB; have HB := n0_; clear n0_; (try clear hb); (try clear hb2); (try clear hk); (try clear hi)) | ((with_reducible refine gate_callee (f := 10) rfl ?_); refine goesL_ (some 16) rfl rfl Tryd.func10 (by kernel_rfl) rfl #[.string a1] rfl (by (try simp only [List.map_toArray, List.map_cons, List.map_nil]); first | done | rfl | (simp only [List.length_drop, List.length_take]; rfl)) ?_; (with_reducible refine (aquiferlaw05_few.calls a1 t200 _ A4.out).mono ?_); rintro e w94 ⟨rfl, hb⟩; refine ⟨_, rfl, ?_⟩; have n0_ := Aside0.mk (below_step (by repeat (first | (with_reducible first | exact HB.out | apply below_alloc | apply pw_below_drewN | apply below_drew1) | exact HB.out)) hb); clear HB; have HB := n0_; clear n0_; (try clear hb); (try clear hb2); (try clear hk); (try clear hi)) | ((with_reducible refine gate_callee (f := 17) rfl ?_); refine goesL_ (some 19) rfl rfl Tryd.func17 (by kernel_rfl) rfl #[.string t199] rfl (by (try simp only [List.map_toArray, List.map_cons, List.map_nil]); first | done | rfl | (simp only [List.length_drop, List.length_take]; rfl)) ?_; (with_reducible refine (path_Parent.calls t199 t201 false _ A5.out).mono ?_); rintro e w95 ⟨rfl, hb⟩; refine ⟨_, rfl, ?_⟩; have n0_ := Aside0.mk (below_step (by repeat (first | (with_reducible first | exact HB.out | apply below_alloc | apply pw_below_drewN | apply below_drew1) | exact HB.out)) hb); clear HB; have HB := n0_; clear n0_; (try clear hb); (try clear hb2); (try clear hk); (try clear hi)) | ((with_reducible refine gate_callee (f := 28) rfl ?_); refine goesL_ (some 25) rfl rfl Tryd.func28 (by kernel_rfl) rfl #[.string t199, .int .i64 100] rfl (by (try simp only [List.map_toArray, List.map_cons, List.map_nil]); first | done | rfl | (simp only [List.length_drop, List.length_take]; rfl)) ?_; (with_reducible refine (aquiferlaw05_ups.calls t199 100 t203 _ A62.out).mono ?_); rintro e w96 ⟨v204, rfl, ho0, hb⟩; refine ⟨_, rfl, ?_⟩; have n0_ := Aside0.mk (Kd.R_lower ho0 (below_size (by repeat (first | (with_reducible first | exact HB.out | apply below_alloc | apply pw_below_drewN | apply below_drew1) | exact HB.out)))); have n1_ := Aside0.mk (below_step (by repeat (first | (with_reducible first | exact HB.out | apply below_alloc | apply pw_below_drewN | apply below_drew1) | exact HB.out)) hb); clear HB; have HO205 := n0_; have HB := n1_; clear n0_ n1_; (try clear hb); (try clear hb2); (try clear hk); (try clear hi); (try clear ho0); obtain ⟨Ao97, co97, eo97⟩ := Kd.R_slice HO205.out; subst eo97))
   go_ret
   exact ⟨by first | rfl | (simp [errW_none, errW_some] <;> rfl) | (simp [*, errW_none, errW_some] <;> rfl), by repeat (first | (with_reducible first | exact HB.out | apply below_alloc | apply pw_below_drewN | apply below_drew1) | exact HB.out)⟩

/-- THE ONE PURE STATEMENT of aquiferlaw05_PathParts: yours. -/
def aquiferlaw05_PathParts.Pure : Prop := ∀ (a0 : ByteArray) (a1 : ByteArray), a0.size ≤ 140737488351232 → a1.size ≤ 140737488351232 → ∃ k, aquiferlaw05_PathParts.f k a0 a1 = some true
theorem aquiferlaw05_PathParts.walk (P : aquiferlaw05_PathParts.Pure) (a0 : ByteArray) (a1 : ByteArray) (w : World) (w0 : a0.size ≤ 140737488351232) (w1 : a1.size ≤ 140737488351232) :
  Calls Tryd.prog 9 #[.string a0, .string a1] w fun e w' => e = .returned (.bool true) ∧ Below w.heap.size w w' := by
 obtain ⟨k, h⟩ := P a0 a1 w0 w1
 refine (aquiferlaw05_PathParts.calls k a0 a1 true w h).mono ?_
 rintro e w' ⟨rfl, hd⟩
 exact ⟨rfl, hd⟩

end Go.Proofs.YtfnbadfehelleaaDoor.MPb
