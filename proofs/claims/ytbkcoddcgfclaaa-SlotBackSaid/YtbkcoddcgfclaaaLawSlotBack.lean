/- The row of the law aquiferlaw11_SlotBack, out of its plain statement and the walk of its code. -/
import Derived.Test.YtbkcoddcgfclaaaRows
import Derived.Test.YtbkcoddcgfclaaaMSBackx1
import Derived.Test.YtbkcoddcgfclaaaPureSlotBack
import Derived.Test.YtbkcoddcgfclaaaOpens
import Derived.WalkKit
import Derived.ProofKit
import Derived.OpenShut
import Derived.ShutString
import Derived.ChangeOld
import Derived.Below
import Derived.SizedLaws
namespace Go.Proofs.Ytbkcoddcgfclaaa.slotBack
open Go.ChangeShapes Go.WideShapes Go.ChangeAt Go.RowKit Go.Proofs.Ytbkcoddcgfclaaa.Opens Go.Proofs.Ytbkcoddcgfclaaa.MSlot Go.Proofs.Ytbkcoddcgfclaaa.MSBack Go.Proofs.YtbkcoddcgfclaaaW.PrintWords
open Go.ChangeMaps (open_string shut_string)
set_option linter.unusedVariables false
theorem own : ownKnob Try.prog.godebug = none := by kernel_rfl
theorem laidOut : laidOutB Try.prog = true := by kernel_rfl
theorem wf_i64 (n : Int) : (Lit.int .i64 n).wf = true ↔ (-9223372036854775808 ≤ n ∧ n ≤ 9223372036854775807) := by simp [Lit.wf, IntKind.min, IntKind.max, IntKind.signed, IntKind.bits]
theorem wf_u8 (n : Int) : (Lit.int .u8 n).wf = true ↔ (0 ≤ n ∧ n ≤ 255) := by simp [Lit.wf, IntKind.min, IntKind.max, IntKind.signed, IntKind.bits]
theorem wf_u32 (n : Int) : (Lit.int .u32 n).wf = true ↔ (0 ≤ n ∧ n ≤ 4294967295) := by simp [Lit.wf, IntKind.min, IntKind.max, IntKind.signed, IntKind.bits]
theorem wf_u64 (n : Int) : (Lit.int .u64 n).wf = true ↔ (0 ≤ n ∧ n ≤ 18446744073709551615) := by simp [Lit.wf, IntKind.min, IntKind.max, IntKind.signed, IntKind.bits]
theorem wf_i32 (n : Int) : (Lit.int .i32 n).wf = true ↔ (-2147483648 ≤ n ∧ n ≤ 2147483647) := by simp [Lit.wf, IntKind.min, IntKind.max, IntKind.signed, IntKind.bits]
theorem opens_43 : Opens Try.prog 43 k43 (fun x : S43 => (x.f0.size ≤ 140737488351232 ∧ x.f1.size ≤ 140737488351232 ∧ (-9223372036854775808 ≤ x.f2 ∧ x.f2 ≤ 9223372036854775807) ∧ (-9223372036854775808 ≤ x.f3 ∧ x.f3 ≤ 9223372036854775807))) :=
  opens_imp (opens_iso (fun x : S43 => (x.f0, x.f1, x.f2, x.f3)) (fun a => (⟨a.1, a.2.1, a.2.2.1, a.2.2.2⟩ : S43)) (fun _ => rfl) (opens_struct Try.underlying43 (by kernel_rfl) (opensF_cons rfl (by kernel_rfl) (opens_string Try.underlying9) (opensF_cons rfl (by kernel_rfl) (opens_string Try.underlying9) (opensF_cons rfl (by kernel_rfl) (opens_imp (opens_int Try.underlying3) (fun n h => (wf_i64 n).1 h)) (opensF_one rfl (by kernel_rfl) (opens_imp (opens_int Try.underlying3) (fun n h => (wf_i64 n).1 h)))))))) (fun _ h => h)
theorem opens_26 : Opens Try.prog 26 k26 (fun x : S26 => (True ∧ (x.f1.length ≤ 140737488351232 ∧ ∀ e0 ∈ x.f1, (e0.f0.size ≤ 140737488351232 ∧ e0.f1.size ≤ 140737488351232 ∧ (-9223372036854775808 ≤ e0.f2 ∧ e0.f2 ≤ 9223372036854775807) ∧ (-9223372036854775808 ≤ e0.f3 ∧ e0.f3 ≤ 9223372036854775807))) ∧ (x.f2.length ≤ 140737488351232 ∧ ∀ e0 ∈ x.f2, e0.size ≤ 140737488351232) ∧ (x.f3.length ≤ 140737488351232 ∧ ∀ e0 ∈ x.f3, (-9223372036854775808 ≤ e0 ∧ e0 ≤ 9223372036854775807)))) :=
  opens_imp (opens_iso (fun x : S26 => (x.f0, x.f1, x.f2, x.f3)) (fun a => (⟨a.1, a.2.1, a.2.2.1, a.2.2.2⟩ : S26)) (fun _ => rfl) (opens_struct Try.underlying26 (by kernel_rfl) (opensF_cons rfl (by kernel_rfl) (opens_bool Try.underlying4) (opensF_cons rfl (by kernel_rfl) (opens_slice Try.underlying22 (by kernel_rfl) (of_decide_eq_true (by kernel_rfl)) opens_43) (opensF_cons rfl (by kernel_rfl) (opens_slice Try.underlying23 (by kernel_rfl) (of_decide_eq_true (by kernel_rfl)) (opens_string Try.underlying9)) (opensF_one rfl (by kernel_rfl) (opens_slice Try.underlying24 (by kernel_rfl) (of_decide_eq_true (by kernel_rfl)) (opens_imp (opens_int Try.underlying3) (fun n h => (wf_i64 n).1 h))))))))) (fun _ h => h)
set_option maxRecDepth 100000 in
theorem lifted (os : Os) (started : os.Started) (H : Type) (enc : TypeId × Value → H) :
    ReturnsInHanded {} Try.checked os 7 .any (Rows.slotBackSpec.pre6 enc Try.prog Try.f7 Rows.slotBackRow.domain false) (Rows.slotBackSpec.post enc Try.prog Try.f7 false true false false) := by
  refine returnsInHanded_of_change_sized (C := Try.checked) own started (by kernel_rfl) Try.func7
    (ChangeSpec.witness6 (enc := enc) (C := Try.checked) false ⟨#[], #[.agg #[.bool false, .slice none 0 0, .slice none 0 0, .slice none 0 0], .int .i64 0], []⟩ 8 (by kernel_rfl) (by kernel_rfl) (by kernel_rfl) (by kernel_rfl)) ?_
  intro W base args ds gs before hval0 hW hcnd hsz0 _
  have hsz : (DataW.weightsEach Try.prog (Try.f7.params.toList ++ Rows.slotBackSpec.plain.varTypes Try.prog) (ds ++ gs)).all (· ≤ reachBytes) = true := hsz0
  have hval : ∀ (j : Nat) t v, Try.f7.params[j]? = some t → args[j]? = some v → Value.okWide Try.prog W .any base t v := hval0
  have hW' := hW
  obtain ⟨p, q, hA0, hV, rfl, hfz, hnd⟩ := hW
  have hA : DataW.TrodAll enc Try.prog W 0 (fun _ => true) true Try.f7.params.toList args.toList ds p := hA0
  rw [Try.params7] at hA hval hsz
  obtain ⟨v0, vs0, d0, ds0, p0, q0, hargs, rfl, rfl, h0, r0⟩ := trodAll_cons hA
  obtain ⟨v1, vs1, d1, ds1, p1, q1, rfl, rfl, rfl, h1, r1⟩ := trodAll_cons r0
  obtain ⟨rfl, rfl, rfl⟩ := trodAll_nil r1
  obtain rfl : args = #[v0, v1] := by cases args; simp_all
  obtain ⟨rfl, rfl⟩ := trodVars_none hV
  have hwt := fun {j : Nat} {t : TypeId} {d : DataW H} (ht : _ = some t) (hd : _ = some d) (n : Nat) (hn : n ∈ d.weights Try.prog t) => of_decide_eq_true (List.all_eq_true.1 hsz n (DataW.weights_mem_each (j := j) ht hd n hn))
  obtain ⟨z0, rfl, _⟩ := okWide_struct Try.underlying26 (hval 0 26 v0 rfl rfl)
  have k0 := h0
  have lt0 : ∀ x ∈ p0, x.block < W.heap.size := by obtain ⟨m, hm⟩ := k0; exact DataW.trod_lt m _ _ _ hm
  obtain ⟨fuel0, hf0⟩ := h0
  obtain ⟨x0, hK0, hG0⟩ := opens_26 hf0 (hwt (j := 0) (t := 26) rfl rfl)
  obtain ⟨cs0, hcs0⟩ : ∃ c, c = z0.toList := ⟨_, rfl⟩
  replace hK0 : k26.K W x0 cs0 := by rw [hcs0]; exact hK0
  obtain ⟨_, _, rfl, rfl, ⟨_, _, rfl, ⟨A0_1, c0_1, rfl, hc0_1, hr0_1⟩, ⟨_, _, rfl, ⟨A0_2, c0_2, rfl, hc0_2, hr0_2⟩, ⟨A0_3, c0_3, rfl, hc0_3, hr0_3⟩⟩⟩⟩ := hK0
  obtain rfl : z0 = #[.bool x0.f0, .slice A0_1 x0.f1.length c0_1, .slice A0_2 x0.f2.length c0_2, .slice A0_3 x0.f3.length c0_3] := by apply Array.toList_inj.1; rw [← hcs0]; rfl
  clear hcs0
  obtain ⟨a1, rfl, rfl, rfl, w1⟩ := open_int Try.underlying3 (hval 1 3 v1 rfl rfl) h1
  clear hA0 hval0 hsz0 hsz hwt
  obtain ⟨k_, hk_⟩ := Pure.SlotBack x0 a1 hG0 ((wf_i64 _).1 w1)
  refine (aquiferlaw11_SlotBack.calls  (a0_0 := x0.f0) (l0_1 := x0.f1) (l0_2 := x0.f2) (l0_3 := x0.f3) (a1 := a1) (r := true) (w := W) (hr0_1 := hr0_1) (hc0_1 := hc0_1) (hr0_2 := hr0_2) (hc0_2 := hc0_2) (hr0_3 := hr0_3) (hc0_3 := hc0_3) (h := hk_)).mono fun e W' ⟨he, bel⟩ => ?_
  subst he
  exact ⟨_, rfl, _, _, _, [], _, [], hW', trodAll_mk1 (shut_bool Try.underlying4 _), (trodAll_cons_mk (Below.trod laidOut (by kernel_rfl) (of_decide_eq_true (by kernel_rfl)) k0 bel lt0) (trodAll_cons_mk (shut_int Try.underlying3 w1) trodAll_mk0)), rfl, bel.frame _, fun h => by cases h⟩
theorem over : Rows.slotBackRow.holds Try.pinned (OpenSpec.ofChange Rows.slotBackSpec) :=
  OpenClaim.holds_of_wide 7 Try.f7 rfl rfl rfl rfl rfl rfl rfl ⟨rfl, rfl, rfl, rfl, rfl⟩ rfl rfl rfl rfl rfl (by kernel_rfl) Try.func7 (by kernel_rfl)
    (of_decide_eq_true (by kernel_rfl)) (by unfold Func.isWrapper; first | (rw [if_pos (by decide +kernel)]; kernel_rfl) | (rw [if_neg (by decide +kernel)]; exact ⟨rfl, rfl⟩))
    (fun os started H enc _ => lifted os started H enc)
theorem proved : Rows.SlotBackSaid := over
#print axioms proved
end Go.Proofs.Ytbkcoddcgfclaaa.slotBack
namespace Go.Proofs.Ytbkcoddcgfclaaa
/-- The row, under a short name, for the claim. -/
theorem slotBack_holds : Rows.SlotBackSaid := slotBack.proved
end Go.Proofs.Ytbkcoddcgfclaaa
