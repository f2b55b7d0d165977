/- slot.Put and slot.Cut over a leaf. -/
import Derived.Test.YtbkcoddcgfclaaaNV
set_option linter.unusedSimpArgs false
set_option linter.unusedVariables false
namespace Go.Proofs.Ytbkcoddcgfclaaa.SP
open Go.RowKit Go.Proofs.Ytbkcoddcgfclaaa.MSlot Go.Proofs.Ytbkcoddcgfclaaa.Ext Go.Proofs.YtbkcoddcgfclaaaW.PrintWords Go.Proofs.YtbkcoddcgfclaaaW.PrintLast Go.Proofs.YtbkcoddcgfclaaaW.PrintMore

/-- One cell alone, as a row. -/
theorem C_one {W : World} {m : Nat} (c : S43) (hm : W.heap[m]? = some (.cells #[.string c.f0, .string c.f1, .int .i64 c.f2, .int .i64 c.f3] 43 (0, 0))) : Kd.C k43 W (some ⟨m, 0, none⟩) 1 [c] := by
  refine ⟨rfl, by simp [k43, Kd.iso, Kd.pair, Kd.string, Kd.int], fun _ => ⟨⟨m, 0, none⟩, rfl, fun j p hj => ?_⟩⟩
  have hj0 : j = 0 := by
    rcases Nat.eq_zero_or_pos j with h0 | h0
    · exact h0
    · rw [List.getElem?_eq_none (by simp; omega)] at hj; cases hj
  subst hj0
  have hp : c = p := by simpa using hj
  subst hp
  refine ⟨[.string c.f0, .string c.f1, .int .i64 c.f2, .int .i64 c.f3], rfl, ⟨_, _, rfl, rfl, ⟨_, _, rfl, rfl, ⟨_, _, rfl, rfl, rfl⟩⟩⟩, fun q u hq => ?_⟩
  rw [add_plain]
  match q, hq with
  | 0, hq => simp at hq; simp [World.cell?, hm, hq]
  | 1, hq => simp at hq; simp [World.cell?, hm, hq]
  | 2, hq => simp at hq; simp [World.cell?, hm, hq]
  | 3, hq => simp at hq; simp [World.cell?, hm, hq]
theorem concat3 {W : World} {g m p r : Nat} (A1 : Option Addr) (c1 : Nat) (x1 : List S43) (c : S43) (A2 : Option Addr) (c2 : Nat) (x2 : List S43) (e1 : x1.length = p) (e2 : x2.length = r) (hg : W.heap[g]? = some (.cells #[.slice A1 p c1, .slice (some ⟨m, 0, none⟩) 1 1, .slice A2 r c2] 22 (0, 0))) (hm : W.heap[m]? = some (.cells #[.string c.f0, .string c.f1, .int .i64 c.f2, .int .i64 c.f3] 43 (0, 0)))
    (h1 : Kd.C k43 W A1 x1.length x1) (l1 : p ≤ c1) (h2 : Kd.C k43 W A2 x2.length x2) (l2 : r ≤ c2) (n1 : p ≤ 1000000) (n2 : r ≤ 1000000) :
    Calls Try.prog 28 #[.slice (some ⟨g, 0, none⟩) 3 3] W fun e w' => ∃ (Ao : Option Addr) (co : Nat), e = .returned (.slice Ao (x1 ++ c :: x2).length co) ∧ Kd.R k43 43 w' W.heap.size (fun _ => True) (.slice Ao (x1 ++ c :: x2).length co) (x1 ++ c :: x2) ∧ Below W.heap.size W w' := by
  subst e1 e2
  have hC := C_lit (e := 43) [(A1, c1, x1), (some ⟨m, 0, none⟩, 1, [c]), (A2, c2, x2)] hg (by intro x hx; simp at hx; rcases hx with rfl | rfl | rfl; exact ⟨h1, l1⟩; exact ⟨C_one c hm, by simp⟩; exact ⟨h2, l2⟩) (by simp)
  refine (slices_Concat_aquifer_api_Cell_aquifer_api_Cell.calls (some ⟨g, 0, none⟩) 3 [x1, [c], x2] (x1 ++ c :: x2) W hC (by simp) ?_).mono ?_
  · unfold slices_Concat_aquifer_api_Cell_aquifer_api_Cell.f
    rw [if_pos ⟨by simp, by intro l hl; simp at hl; rcases hl with rfl | rfl | rfl; exact n1; simp; exact n2⟩]
    simp
  · rintro e w' ⟨v, rfl, hr, hb⟩
    obtain ⟨Ao, co, rfl⟩ := Kd.R_slice hr
    exact ⟨Ao, co, rfl, hr, hb⟩
/-- A row that a call has made stays, whatever is written below. -/
theorem R_keeps {α : Type} {d : Kd α} {e : Nat} {w W : World} {base n0 : Nat} {v : Value} {xs : List α} (h : d.R e w n0 (fun _ => True) v xs) (hb : base ≤ n0) (hk : ∀ k, n0 ≤ k → W.heap[k]? = w.heap[k]?) : d.R e W base (fun _ => True) v xs :=
  Kd.R_lower (Kd.R_mono (Kd.R_step (Kd.R_bound h) (fun k h1 _ => hk k h1.2.1)) (fun _ _ => trivial)) hb
theorem cut_hm (A : Option Addr) (n c p : Nat) (hp : p ≤ n) (hc : n ≤ c) : ∀ W : World, (Instr.slice 22 (.slice A n c) none (some (.int .i64 (p : Int))) (some (.int .i64 (p : Int)))).run Try.prog W = .ok (.slice A p p) W := by
  intro W
  obtain ⟨i0, hi0, _, hsz, _⟩ := info_parts info43
  have hel : Try.prog.elem 22 = 43 := by simp [Program.elem, Try.underlying22]
  have hu : Try.prog.underlying 22 = some (.slice (Try.prog.elem 22)) := by rw [hel]; exact Try.underlying22
  have ha : (A.map fun x => x.add 0) = A := by cases A <;> simp [Addr.add]
  rw [run_slice_hm W 22 A n c hu .i64 .i64 (p : Int) (p : Int) (by omega) (Int.le_refl _) (by omega), hel]
  simp [sizeOf, typeInfo, hi0, sliced, Result.andThen, ha]
set_option maxHeartbeats 4000000 in
set_option maxRecDepth 100000 in
theorem put_walk (there : Bool) (p q : Nat) (hpq : q = if there = true then p + 1 else p) (A1 : Option Addr) (c1 : Nat) (xs : List S43) (A2 : Option Addr) (c2 : Nat) (ks : List ByteArray) (A3 : Option Addr) (c3 : Nat) (ds : List Int) (c : S43) (w : World)
    (hv : Ext.Node w A1 c1 xs A2 c2 ks A3 c3 ds) (hql : q ≤ xs.length) (hn : xs.length ≤ 100000)
    (hfind : ∀ W : World, Ext.Node W A1 c1 xs A2 c2 ks A3 c3 ds → Calls Try.prog 19 #[.agg #[.bool true, .slice A1 xs.length c1, .slice A2 ks.length c2, .slice A3 ds.length c3], .string c.f0] W fun e w' => e = .returned (.tuple #[.int .i64 (p : Int), .bool there]) ∧ Below W.heap.size W w') :
    Calls Try.prog 18 #[.agg #[.bool true, .slice A1 xs.length c1, .slice A2 ks.length c2, .slice A3 ds.length c3], .agg #[.string c.f0, .string c.f1, .int .i64 c.f2, .int .i64 c.f3]] w fun e w' =>
      ∃ v1 : Value, e = .returned (.agg #[.bool true, v1, .slice A2 ks.length c2, .slice A3 ds.length c3]) ∧ Kd.R k43 43 w' w.heap.size (fun _ => True) v1 (xs.take p ++ c :: xs.drop q) ∧ Below w.heap.size w w' := by
  have hp : p ≤ xs.length := by split at hpq <;> omega
  have HJ0 := Lib.hid (Jst.mk0 w (.cells #[.bool true, .slice A1 xs.length c1, .slice A2 ks.length c2, .slice A3 ds.length c3] 26) (.cells #[.string c.f0, .string c.f1, .int .i64 c.f2, .int .i64 c.f3] 43) (.cells #[.bool false, .slice none 0 0, .slice none 0 0, .slice none 0 0] 26))
  have HV := Lib.hid (hv.below HJ0.out.2.2.2.1)
  have HF := Lib.hid hfind
  obtain ⟨i0, hi0, _, hsz, _⟩ := info_parts info43
  have cutA := cut_hm A1 xs.length c1 p hp hv.l1
  have cutB := cut_from (P := Try.prog) 22 43 .i64 Try.underlying22 hi0 4 hsz A1 xs.length c1 (q : Int) (by omega) (by omega)
  rw [Int.toNat_natCast] at cutB
  have HD := Lib.hid (Kd.C_drop HV.out.r1 hql hv.l1)
  have HT := Lib.hid (Kd.C_take HV.out.r1 hp)
  rw [show (q * k43.sz) = q * 4 from rfl] at HD
  have HL1 := Lib.hid hv.l1
  have HP := Lib.hid hp
  have HQ := Lib.hid hql
  have HN := Lib.hid hn
  obtain ⟨B, hB⟩ : ∃ B, B = (if c1 = q then A1 else A1.map (·.add (q * 4))) := ⟨_, rfl⟩
  rw [← hB] at cutB HD
  clear hB hi0 hsz hv hfind hp hn
  have hw : there = true → wrap64 ((p : Int) + 1) = (q : Int) := by
    intro h
    rw [if_pos h] at hpq
    subst hpq
    have := HN.out
    unfold wrap64
    omega
  have hz : there = false → p = q := by
    intro h
    rw [h] at hpq
    exact hpq.symm
  have HW := Lib.hid hw
  have HZ := Lib.hid hz
  clear hw hz hpq hql
  cases there
  · obtain rfl := HZ.out rfl
    clear HW HZ
    go_enter Try.func18, Try.ntmps18
    go_upto_region 7 with (first
      | (go_at_call 19
         (with_reducible refine (HF.out _ HV.out).mono ?_)
         rintro e w1 ⟨rfl, hb1⟩
         have HJ1 := Lib.hid (HJ0.out.below hb1)
         have HV1 := Lib.hid (HV.out.below hb1)
         have HD1 := Lib.hid (Kd.C_below HD.out hb1)
         have HT1 := Lib.hid (Kd.C_below HT.out hb1)
         clear hb1
         have k0 := (blk_cell HJ1.out.1 0).trans rfl
         have k1 := (blk_cell HJ1.out.1 1).trans rfl
         have k2 := (blk_cell HJ1.out.1 2).trans rfl
         have k3 := (blk_cell HJ1.out.1 3).trans rfl))
    have HJ2 := Lib.hid (HJ1.out.below (below_drew1 (Below.refl _ _)))
    have HD2 := Lib.hid (Kd.C_below HD1.out (below_drew1 (Below.refl _ _)))
    have HT2 := Lib.hid (Kd.C_below HT1.out (below_drew1 (Below.refl _ _)))
    clear k0 k1 k2 k3 HJ1 HD1 HT1 HV1 HJ0 HV HD HT HF
    refine start_ (n := 15) (S := fun w' => w'.cell? ⟨w.heap.size, 1, none⟩ = some (.slice A1 xs.length c1) ∧ w'.cell? ⟨w.heap.size + 1, 0, none⟩ = some (.string c.f0) ∧ w'.cell? ⟨w.heap.size + 1, 1, none⟩ = some (.string c.f1) ∧ w'.cell? ⟨w.heap.size + 1, 2, none⟩ = some (.int .i64 c.f2) ∧ w'.cell? ⟨w.heap.size + 1, 3, none⟩ = some (.int .i64 c.f3)) (ds := [14]) #[false, false, false, false, false, false, false, false, false, false, false, false, false, false, false] (by kernel_rfl) rfl rfl ⟨(blk_cell HJ2.out.1 1).trans rfl, (blk_cell HJ2.out.2.1 0).trans rfl, (blk_cell HJ2.out.2.1 1).trans rfl, (blk_cell HJ2.out.2.1 2).trans rfl, (blk_cell HJ2.out.2.1 3).trans rfl⟩ (fun hHeld => ?_)
    generalize w1.drew = w2 at HJ2 HD2 HT2 hHeld ⊢
    refine pure_ (i := 0) (N := some 23) (v := ?_) (a' := ?_) #[true, false, false, false, false, false, false, false, false, false, false, false, false, false, false] rfl rfl (by kernel_rfl) (fun _ _ _ h => h) (Or.inl ⟨by rfl, ?_⟩) ?_ ?_
    rotate_left
    · intro w'
      go_simp
      with_reducible rfl
    rotate_left
    · simp only [Act.put, List.setIfInBounds_toArray, List.set_cons_zero, List.set_cons_succ, i64_w, i32_w]
      rfl
    refine pure_ (i := 2) (N := some 25) (v := ?_) (a' := ?_) #[true, false, true, false, false, false, false, false, false, false, false, false, false, false, false] rfl rfl (by kernel_rfl) (fun _ _ _ h => h) (Or.inl ⟨by rfl, ?_⟩) ?_ ?_
    rotate_left
    · intro w'
      go_simp
      with_reducible rfl
    rotate_left
    · simp only [Act.put, List.setIfInBounds_toArray, List.set_cons_zero, List.set_cons_succ, i64_w, i32_w]
      rfl
    refine pure_ (i := 3) (N := some 26) (v := ?_) (a' := ?_) #[true, false, true, true, false, false, false, false, false, false, false, false, false, false, false] rfl rfl (by kernel_rfl) (fun _ _ _ h => h) (Or.inl ⟨by rfl, ?_⟩) ?_ ?_
    rotate_left
    · intro w'
      go_simp
      with_reducible rfl
    rotate_left
    · simp only [Act.put, List.setIfInBounds_toArray, List.set_cons_zero, List.set_cons_succ, i64_w, i32_w]
      rfl
    refine pure_ (i := 7) (N := some 30) (v := ?_) (a' := ?_) #[true, false, true, true, false, false, false, true, false, false, false, false, false, false, false] rfl rfl (by kernel_rfl) (fun _ _ _ h => h) (Or.inl ⟨by rfl, ?_⟩) ?_ ?_
    rotate_left
    · intro w'
      go_simp
      with_reducible rfl
    rotate_left
    · simp only [Act.put, List.setIfInBounds_toArray, List.set_cons_zero, List.set_cons_succ, i64_w, i32_w]
      rfl
    refine pure_ (i := 9) (N := some 32) (v := ?_) (a' := ?_) #[true, false, true, true, false, false, false, true, false, true, false, false, false, false, false] rfl rfl (by kernel_rfl) (fun _ _ _ h => h) (Or.inl ⟨by rfl, ?_⟩) ?_ ?_
    rotate_left
    · intro w'
      go_simp
      with_reducible rfl
    rotate_left
    · simp only [Act.put, List.setIfInBounds_toArray, List.set_cons_zero, List.set_cons_succ, i64_w, i32_w]
      rfl
    refine take_ (i := 1) (N := some 24) (v := ?_) (a' := ?_) #[true, true, true, true, false, false, false, true, false, true, false, false, false, false, false] rfl rfl (by kernel_rfl) (fun _ _ _ h => h) (Or.inl ⟨by rfl, ?_⟩) hHeld ?_ ?_
    rotate_left
    · rintro w' ⟨s0, s1, s2, s3, s4⟩
      go_simp
      with_reducible rfl
    rotate_left
    · simp only [Act.put, List.setIfInBounds_toArray, List.set_cons_zero, List.set_cons_succ, i64_w, i32_w]
      rfl
    refine take_ (i := 5) (N := some 28) (v := ?_) (a' := ?_) #[true, true, true, true, false, true, false, true, false, true, false, false, false, false, false] rfl rfl (by kernel_rfl) (fun _ _ _ h => h) (Or.inl ⟨by rfl, ?_⟩) hHeld ?_ ?_
    rotate_left
    · rintro w' ⟨s0, s1, s2, s3, s4⟩
      go_simp
      with_reducible rfl
    rotate_left
    · simp only [Act.put, List.setIfInBounds_toArray, List.set_cons_zero, List.set_cons_succ, i64_w, i32_w]
      rfl
    refine take_ (i := 8) (N := some 31) (v := ?_) (a' := ?_) #[true, true, true, true, false, true, false, true, true, true, false, false, false, false, false] rfl rfl (by kernel_rfl) (fun _ _ _ h => h) (Or.inl ⟨by rfl, ?_⟩) hHeld ?_ ?_
    rotate_left
    · rintro w' ⟨s0, s1, s2, s3, s4⟩
      go_simp
      with_reducible rfl
    rotate_left
    · simp only [Act.put, List.setIfInBounds_toArray, List.set_cons_zero, List.set_cons_succ, i64_w, i32_w]
      rfl
    refine pure_ (i := 4) (N := some 27) (v := ?_) (a' := ?_) #[true, true, true, true, true, true, false, true, true, true, false, false, false, false, false] rfl rfl (by kernel_rfl) (fun _ _ _ h => h) (Or.inl ⟨by rfl, ?_⟩) ?_ ?_
    rotate_left
    · intro w'
      go_simp
      with_reducible rfl
    rotate_left
    · simp only [Act.put, List.setIfInBounds_toArray, List.set_cons_zero, List.set_cons_succ, i64_w, i32_w]
      rfl
    refine pure_ (i := 10) (N := some 33) (v := ?_) (a' := ?_) #[true, true, true, true, true, true, false, true, true, true, true, false, false, false, false] rfl rfl (by kernel_rfl) (fun _ _ _ h => h) (Or.inl ⟨by rfl, ?_⟩) ?_ ?_
    rotate_left
    · intro w'
      go_simp
      with_reducible rfl
    rotate_left
    · simp only [Act.put, List.setIfInBounds_toArray, List.set_cons_zero, List.set_cons_succ, i64_w, i32_w]
      rfl
    refine one_ (i := 6) (N := some 29) #[true, true, true, true, true, true, true, true, true, true, true, false, false, false, false] rfl rfl (by kernel_rfl) (by decide) (fun K hK => ?_)
    refine value_ (v := ?_) (w1 := ?_) (by rfl) rfl ?_ ?_
    rotate_left
    rotate_left
    · go_simp
      first | (apply And.intro <;> rfl) | rfl
    have hbb := Lib.hid (below_alloc (Below.refl w2.heap.size w2) (.cells #[.string c.f0, .string c.f1, .int .i64 c.f2, .int .i64 c.f3] 43))
    refine hK.out _ _ ⟨pw_cell_below hbb.out hHeld.1, pw_cell_below hbb.out hHeld.2.1, pw_cell_below hbb.out hHeld.2.2.1, pw_cell_below hbb.out hHeld.2.2.2.1, pw_cell_below hbb.out hHeld.2.2.2.2⟩ (fun hHeld => ?_)
    clear hK K
    refine norm_ (a' := ?_) ?_ ?_
    rotate_left
    · show Act.put _ (some 29) _ = _
      simp only [Act.put, List.setIfInBounds_toArray, List.set_cons_zero, List.set_cons_succ, i64_w, i32_w]
      rfl
    clear hbb
    have HM3 : Hid ((w2.alloc (.cells #[.string c.f0, .string c.f1, .int .i64 c.f2, .int .i64 c.f3] 43)).heap[w2.heap.size]? = some (.cells #[.string c.f0, .string c.f1, .int .i64 c.f2, .int .i64 c.f3] 43 (0, 0))) := Lib.hid (heap_alloc_new _ _)
    have HJ3 := Lib.hid (HJ2.out.below (below_alloc (Below.refl w2.heap.size w2) (.cells #[.string c.f0, .string c.f1, .int .i64 c.f2, .int .i64 c.f3] 43)))
    have HD3 := Lib.hid (Kd.C_below HD2.out (below_alloc (Below.refl w2.heap.size w2) (.cells #[.string c.f0, .string c.f1, .int .i64 c.f2, .int .i64 c.f3] 43)))
    have HT3 := Lib.hid (Kd.C_below HT2.out (below_alloc (Below.refl w2.heap.size w2) (.cells #[.string c.f0, .string c.f1, .int .i64 c.f2, .int .i64 c.f3] 43)))
    clear HJ2 HD2 HT2
    generalize w2.alloc (.cells #[.string c.f0, .string c.f1, .int .i64 c.f2, .int .i64 c.f3] 43) = w3 at HM3 HJ3 HD3 HT3 hHeld ⊢
    generalize w2.heap.size = m at HM3 ⊢
    refine one_ (i := 11) (N := some 34) #[true, true, true, true, true, true, true, true, true, true, true, true, false, false, false] rfl rfl (by kernel_rfl) (by decide) (fun K hK => ?_)
    refine value_ (v := ?_) (w1 := ?_) (by rfl) rfl ?_ ?_
    rotate_left
    rotate_left
    · go_simp
      first | (apply And.intro <;> rfl) | rfl
    have hbb := Lib.hid (below_alloc (Below.refl w3.heap.size w3) (.cells #[.slice A1 p p, .slice (some ⟨m, 0, none⟩) 1 1, .slice B (xs.length - p) (c1 - p)] 22))
    refine hK.out _ _ ⟨pw_cell_below hbb.out hHeld.1, pw_cell_below hbb.out hHeld.2.1, pw_cell_below hbb.out hHeld.2.2.1, pw_cell_below hbb.out hHeld.2.2.2.1, pw_cell_below hbb.out hHeld.2.2.2.2⟩ (fun hHeld => ?_)
    clear hK K
    refine norm_ (a' := ?_) ?_ ?_
    rotate_left
    · show Act.put _ (some 34) _ = _
      simp only [Act.put, List.setIfInBounds_toArray, List.set_cons_zero, List.set_cons_succ, i64_w, i32_w]
      rfl
    have HG4 : Hid ((w3.alloc (.cells #[.slice A1 p p, .slice (some ⟨m, 0, none⟩) 1 1, .slice B (xs.length - p) (c1 - p)] 22)).heap[w3.heap.size]? = some (.cells #[.slice A1 p p, .slice (some ⟨m, 0, none⟩) 1 1, .slice B (xs.length - p) (c1 - p)] 22 (0, 0))) := Lib.hid (heap_alloc_new _ _)
    have HM4 := Lib.hid (blk_below HM3.out hbb.out)
    have HJ4 := Lib.hid (HJ3.out.below hbb.out)
    have HD4 := Lib.hid (Kd.C_below HD3.out hbb.out)
    have HT4 := Lib.hid (Kd.C_below HT3.out hbb.out)
    clear hbb HJ3 HD3 HT3 HM3
    generalize w3.alloc (.cells #[.slice A1 p p, .slice (some ⟨m, 0, none⟩) 1 1, .slice B (xs.length - p) (c1 - p)] 22) = w4 at HG4 HM4 HJ4 HD4 HT4 hHeld ⊢
    generalize w3.heap.size = g at HG4 ⊢
    refine one_ (i := 12) (N := some 35) #[true, true, true, true, true, true, true, true, true, true, true, true, true, false, false] rfl rfl (by kernel_rfl) (by decide) (fun K hK => ?_)
    refine goes_ Try.func28 (by kernel_rfl) rfl #[.slice (some ⟨g, 0, none⟩) 3 3] (by rfl) rfl rfl (by first | rfl | (simp only [List.map_toArray, List.map_cons, List.map_nil]; rfl)) ?_
    with_reducible refine (concat3 A1 p (xs.take p) c B (c1 - p) (xs.drop p) ?e1 ?e2 HG4.out HM4.out HT4.out ?l1 HD4.out ?l2 ?n1 ?n2).mono ?_
    case e1 => have := HP.out; simp; omega
    case e2 => simp
    case l1 => exact Nat.le_refl _
    case l2 => have := HL1.out; omega
    case n1 => have := HP.out; have := HN.out; omega
    case n2 => have := HN.out; omega
    rintro e w5 ⟨Ao, co, rfl, hr5, hb5⟩
    refine ⟨_, rfl, ?_⟩
    have HR5 := Lib.hid hr5
    have hbb := Lib.hid hb5
    clear hr5 hb5
    refine hK.out _ _ ⟨pw_cell_below hbb.out hHeld.1, pw_cell_below hbb.out hHeld.2.1, pw_cell_below hbb.out hHeld.2.2.1, pw_cell_below hbb.out hHeld.2.2.2.1, pw_cell_below hbb.out hHeld.2.2.2.2⟩ (fun hHeld => ?_)
    clear hK K
    refine norm_ (a' := ?_) ?_ ?_
    rotate_left
    · show Act.put _ (some 35) _ = _
      simp only [Act.put, List.setIfInBounds_toArray, List.set_cons_zero, List.set_cons_succ, i64_w, i32_w]
      rfl
    have HJ5 := Lib.hid (HJ4.out.below hbb.out)
    have hz4 := HJ4.out.2.2.2.2
    have hz5 := hbb.out.size
    clear hbb HJ4 HD4 HT4 HM4 HG4
    obtain ⟨nn, hnn⟩ : ∃ nn, nn = (xs.take p ++ c :: xs.drop p).length := ⟨_, rfl⟩
    rw [← hnn] at HR5 ⊢
    clear hnn
    refine pure_ (i := 13) (N := some 36) (v := ?_) (a' := ?_) #[true, true, true, true, true, true, true, true, true, true, true, true, true, true, false] rfl rfl (by kernel_rfl) (fun _ _ _ h => h) (Or.inl ⟨by rfl, ?_⟩) ?_ ?_
    rotate_left
    · intro w'
      go_simp
      with_reducible rfl
    rotate_left
    · simp only [Act.put, List.setIfInBounds_toArray, List.set_cons_zero, List.set_cons_succ, i64_w, i32_w]
      rfl
    refine last_ (i := 14) (N := none) #[true, true, true, true, true, true, true, true, true, true, true, true, true, true, true] rfl rfl (by kernel_rfl) (by decide) (fun K hK => ?_)
    have x0 := (blk_cell HJ5.out.1 1).trans rfl
    have f0 := blk_frozen HJ5.out.1 1
    refine skip_ (w1 := ?_) (by rfl) rfl ?_ ?_
    rotate_left
    · go_simp
      rfl
    refine hK.out _ _ ?_
    clear hK K x0 f0 hHeld
    refine done_ (by kernel_rfl) ?_
    have HX6 : Hid ((w5.setCell ⟨w.heap.size, 1, none⟩ (.slice Ao nn co)).heap[w.heap.size]? = some (.cells #[.bool true, .slice Ao nn co, .slice A2 ks.length c2, .slice A3 ds.length c3] 26 (0, 0))) := Lib.hid (blk_put HJ5.out.1 1 (.slice Ao nn co) rfl)
    have HY6 : Hid ((w5.setCell ⟨w.heap.size, 1, none⟩ (.slice Ao nn co)).heap[w.heap.size + 1 + 1]? = some (.cells #[.bool false, .slice none 0 0, .slice none 0 0, .slice none 0 0] 26 (0, 0))) := Lib.hid ((Below.heap_setCell _ _ _ _ (by show _ ≠ w.heap.size; omega)).trans HJ5.out.2.2.1)
    have HB6 := Lib.hid (HJ5.out.2.2.2.1.setCell (p := ⟨w.heap.size, 1, none⟩) (Nat.le_refl _) (.slice Ao nn co))
    have HR6 : Hid (Kd.R k43 43 (w5.setCell ⟨w.heap.size, 1, none⟩ (.slice Ao nn co)) w4.heap.size (fun _ => True) (.slice Ao nn co) (xs.take p ++ c :: xs.drop p)) := Lib.hid (R_keeps HR5.out (Nat.le_refl _) (fun k hk => Below.heap_setCell _ _ _ _ (by show k ≠ w.heap.size; omega)))
    clear HJ5 HR5 hz5
    generalize w5.setCell ⟨w.heap.size, 1, none⟩ (.slice Ao nn co) = w6 at HX6 HY6 HB6 HR6 ⊢
    have b0 := (blk_cell HX6.out 0).trans rfl
    have b1 := (blk_cell HX6.out 1).trans rfl
    have b2 := (blk_cell HX6.out 2).trans rfl
    have b3 := (blk_cell HX6.out 3).trans rfl
    have y0 := (blk_cell HY6.out 0).trans rfl
    have y1 := (blk_cell HY6.out 1).trans rfl
    have y2 := (blk_cell HY6.out 2).trans rfl
    have y3 := (blk_cell HY6.out 3).trans rfl
    have f0 := blk_frozen HY6.out 0
    have f1 := blk_frozen HY6.out 1
    have f2 := blk_frozen HY6.out 2
    have f3 := blk_frozen HY6.out 3
    go_wp2
    have z0 := blk_put HY6.out 0 (.bool true) rfl
    have z1 := blk_put z0 1 (.slice Ao nn co) rfl
    have z2 := blk_put z1 2 (.slice A2 ks.length c2) rfl
    have z3 := blk_put z2 3 (.slice A3 ds.length c3) rfl
    refine bodyPost_ret (results_cell_row rfl _ _ (w.heap.size + 1 + 1) 26 #[.bool true, .slice Ao nn co, .slice A2 ks.length c2, .slice A3 ds.length c3] (0, 0) _ rfl z3 Try.underlying26 rfl (by kernel_rfl)) rfl ?_
    refine ⟨_, rfl, R_keeps HR6.out (by omega) (fun k hk => ?_), (((HB6.out.setCell (by show _ ≤ w.heap.size + 1 + 1; omega) _).setCell (by show _ ≤ w.heap.size + 1 + 1; omega) _).setCell (by show _ ≤ w.heap.size + 1 + 1; omega) _).setCell (by show _ ≤ w.heap.size + 1 + 1; omega) _⟩
    have hk2 : k ≠ w.heap.size + 1 + 1 := by omega
    rw [Below.heap_setCell _ _ _ _ hk2, Below.heap_setCell _ _ _ _ hk2, Below.heap_setCell _ _ _ _ hk2, Below.heap_setCell _ _ _ _ hk2]
  · have hw := HW.out rfl
    have hw2 : IntKind.i64.wrap ((p : Int) + 1) = (q : Int) := (i64_w _).trans hw
    clear HW HZ
    go_enter Try.func18, Try.ntmps18
    go_upto_region 7 with (first
      | (go_at_call 19
         (with_reducible refine (HF.out _ HV.out).mono ?_)
         rintro e w1 ⟨rfl, hb1⟩
         have HJ1 := Lib.hid (HJ0.out.below hb1)
         have HV1 := Lib.hid (HV.out.below hb1)
         have HD1 := Lib.hid (Kd.C_below HD.out hb1)
         have HT1 := Lib.hid (Kd.C_below HT.out hb1)
         clear hb1
         have k0 := (blk_cell HJ1.out.1 0).trans rfl
         have k1 := (blk_cell HJ1.out.1 1).trans rfl
         have k2 := (blk_cell HJ1.out.1 2).trans rfl
         have k3 := (blk_cell HJ1.out.1 3).trans rfl))
    have HJ2 := Lib.hid (HJ1.out.below (below_drew1 (Below.refl _ _)))
    have HD2 := Lib.hid (Kd.C_below HD1.out (below_drew1 (Below.refl _ _)))
    have HT2 := Lib.hid (Kd.C_below HT1.out (below_drew1 (Below.refl _ _)))
    clear k0 k1 k2 k3 HJ1 HD1 HT1 HV1 HJ0 HV HD HT HF
    refine start_ (n := 15) (S := fun w' => w'.cell? ⟨w.heap.size, 1, none⟩ = some (.slice A1 xs.length c1) ∧ w'.cell? ⟨w.heap.size + 1, 0, none⟩ = some (.string c.f0) ∧ w'.cell? ⟨w.heap.size + 1, 1, none⟩ = some (.string c.f1) ∧ w'.cell? ⟨w.heap.size + 1, 2, none⟩ = some (.int .i64 c.f2) ∧ w'.cell? ⟨w.heap.size + 1, 3, none⟩ = some (.int .i64 c.f3)) (ds := [14]) #[false, false, false, false, false, false, false, false, false, false, false, false, false, false, false] (by kernel_rfl) rfl rfl ⟨(blk_cell HJ2.out.1 1).trans rfl, (blk_cell HJ2.out.2.1 0).trans rfl, (blk_cell HJ2.out.2.1 1).trans rfl, (blk_cell HJ2.out.2.1 2).trans rfl, (blk_cell HJ2.out.2.1 3).trans rfl⟩ (fun hHeld => ?_)
    generalize w1.drew = w2 at HJ2 HD2 HT2 hHeld ⊢
    refine pure_ (i := 0) (N := some 23) (v := ?_) (a' := ?_) #[true, false, false, false, false, false, false, false, false, false, false, false, false, false, false] rfl rfl (by kernel_rfl) (fun _ _ _ h => h) (Or.inl ⟨by rfl, ?_⟩) ?_ ?_
    rotate_left
    · intro w'
      go_simp
      with_reducible rfl
    rotate_left
    · simp only [Act.put, List.setIfInBounds_toArray, List.set_cons_zero, List.set_cons_succ, i64_w, i32_w]
      rfl
    refine pure_ (i := 2) (N := some 25) (v := ?_) (a' := ?_) #[true, false, true, false, false, false, false, false, false, false, false, false, false, false, false] rfl rfl (by kernel_rfl) (fun _ _ _ h => h) (Or.inl ⟨by rfl, ?_⟩) ?_ ?_
    rotate_left
    · intro w'
      go_simp
      with_reducible rfl
    rotate_left
    · simp only [Act.put, List.setIfInBounds_toArray, List.set_cons_zero, List.set_cons_succ, i64_w, i32_w]
      rfl
    refine pure_ (i := 3) (N := some 26) (v := ?_) (a' := ?_) #[true, false, true, true, false, false, false, false, false, false, false, false, false, false, false] rfl rfl (by kernel_rfl) (fun _ _ _ h => h) (Or.inl ⟨by rfl, ?_⟩) ?_ ?_
    rotate_left
    · intro w'
      go_simp
      with_reducible rfl
    rotate_left
    · simp only [Act.put, List.setIfInBounds_toArray, List.set_cons_zero, List.set_cons_succ, i64_w, i32_w]
      rfl
    refine pure_ (i := 7) (N := some 30) (v := ?_) (a' := ?_) #[true, false, true, true, false, false, false, true, false, false, false, false, false, false, false] rfl rfl (by kernel_rfl) (fun _ _ _ h => h) (Or.inl ⟨by rfl, ?_⟩) ?_ ?_
    rotate_left
    · intro w'
      go_simp
      with_reducible rfl
    rotate_left
    · simp only [Act.put, List.setIfInBounds_toArray, List.set_cons_zero, List.set_cons_succ, i64_w, i32_w]
      rfl
    refine pure_ (i := 9) (N := some 32) (v := ?_) (a' := ?_) #[true, false, true, true, false, false, false, true, false, true, false, false, false, false, false] rfl rfl (by kernel_rfl) (fun _ _ _ h => h) (Or.inl ⟨by rfl, ?_⟩) ?_ ?_
    rotate_left
    · intro w'
      go_simp
      with_reducible rfl
    rotate_left
    · simp only [Act.put, List.setIfInBounds_toArray, List.set_cons_zero, List.set_cons_succ, i64_w, i32_w]
      rfl
    refine take_ (i := 1) (N := some 24) (v := ?_) (a' := ?_) #[true, true, true, true, false, false, false, true, false, true, false, false, false, false, false] rfl rfl (by kernel_rfl) (fun _ _ _ h => h) (Or.inl ⟨by rfl, ?_⟩) hHeld ?_ ?_
    rotate_left
    · rintro w' ⟨s0, s1, s2, s3, s4⟩
      go_simp
      with_reducible rfl
    rotate_left
    · simp only [Act.put, List.setIfInBounds_toArray, List.set_cons_zero, List.set_cons_succ, i64_w, i32_w]
      rfl
    refine take_ (i := 5) (N := some 28) (v := ?_) (a' := ?_) #[true, true, true, true, false, true, false, true, false, true, false, false, false, false, false] rfl rfl (by kernel_rfl) (fun _ _ _ h => h) (Or.inl ⟨by rfl, ?_⟩) hHeld ?_ ?_
    rotate_left
    · rintro w' ⟨s0, s1, s2, s3, s4⟩
      go_simp
      with_reducible rfl
    rotate_left
    · simp only [Act.put, List.setIfInBounds_toArray, List.set_cons_zero, List.set_cons_succ, i64_w, i32_w]
      rfl
    refine take_ (i := 8) (N := some 31) (v := ?_) (a' := ?_) #[true, true, true, true, false, true, false, true, true, true, false, false, false, false, false] rfl rfl (by kernel_rfl) (fun _ _ _ h => h) (Or.inl ⟨by rfl, ?_⟩) hHeld ?_ ?_
    rotate_left
    · rintro w' ⟨s0, s1, s2, s3, s4⟩
      go_simp
      with_reducible rfl
    rotate_left
    · simp only [Act.put, List.setIfInBounds_toArray, List.set_cons_zero, List.set_cons_succ, i64_w, i32_w]
      rfl
    refine pure_ (i := 4) (N := some 27) (v := ?_) (a' := ?_) #[true, true, true, true, true, true, false, true, true, true, false, false, false, false, false] rfl rfl (by kernel_rfl) (fun _ _ _ h => h) (Or.inl ⟨by rfl, ?_⟩) ?_ ?_
    rotate_left
    · intro w'
      go_simp
      with_reducible rfl
    rotate_left
    · simp only [Act.put, List.setIfInBounds_toArray, List.set_cons_zero, List.set_cons_succ, i64_w, i32_w]
      rfl
    refine pure_ (i := 10) (N := some 33) (v := ?_) (a' := ?_) #[true, true, true, true, true, true, false, true, true, true, true, false, false, false, false] rfl rfl (by kernel_rfl) (fun _ _ _ h => h) (Or.inl ⟨by rfl, ?_⟩) ?_ ?_
    rotate_left
    · intro w'
      go_simp
      with_reducible rfl
    rotate_left
    · simp only [Act.put, List.setIfInBounds_toArray, List.set_cons_zero, List.set_cons_succ, i64_w, i32_w]
      rfl
    refine one_ (i := 6) (N := some 29) #[true, true, true, true, true, true, true, true, true, true, true, false, false, false, false] rfl rfl (by kernel_rfl) (by decide) (fun K hK => ?_)
    refine value_ (v := ?_) (w1 := ?_) (by rfl) rfl ?_ ?_
    rotate_left
    rotate_left
    · go_simp
      first | (apply And.intro <;> rfl) | rfl
    have hbb := Lib.hid (below_alloc (Below.refl w2.heap.size w2) (.cells #[.string c.f0, .string c.f1, .int .i64 c.f2, .int .i64 c.f3] 43))
    refine hK.out _ _ ⟨pw_cell_below hbb.out hHeld.1, pw_cell_below hbb.out hHeld.2.1, pw_cell_below hbb.out hHeld.2.2.1, pw_cell_below hbb.out hHeld.2.2.2.1, pw_cell_below hbb.out hHeld.2.2.2.2⟩ (fun hHeld => ?_)
    clear hK K
    refine norm_ (a' := ?_) ?_ ?_
    rotate_left
    · show Act.put _ (some 29) _ = _
      simp only [Act.put, List.setIfInBounds_toArray, List.set_cons_zero, List.set_cons_succ, i64_w, i32_w]
      rfl
    clear hbb
    have HM3 : Hid ((w2.alloc (.cells #[.string c.f0, .string c.f1, .int .i64 c.f2, .int .i64 c.f3] 43)).heap[w2.heap.size]? = some (.cells #[.string c.f0, .string c.f1, .int .i64 c.f2, .int .i64 c.f3] 43 (0, 0))) := Lib.hid (heap_alloc_new _ _)
    have HJ3 := Lib.hid (HJ2.out.below (below_alloc (Below.refl w2.heap.size w2) (.cells #[.string c.f0, .string c.f1, .int .i64 c.f2, .int .i64 c.f3] 43)))
    have HD3 := Lib.hid (Kd.C_below HD2.out (below_alloc (Below.refl w2.heap.size w2) (.cells #[.string c.f0, .string c.f1, .int .i64 c.f2, .int .i64 c.f3] 43)))
    have HT3 := Lib.hid (Kd.C_below HT2.out (below_alloc (Below.refl w2.heap.size w2) (.cells #[.string c.f0, .string c.f1, .int .i64 c.f2, .int .i64 c.f3] 43)))
    clear HJ2 HD2 HT2
    generalize w2.alloc (.cells #[.string c.f0, .string c.f1, .int .i64 c.f2, .int .i64 c.f3] 43) = w3 at HM3 HJ3 HD3 HT3 hHeld ⊢
    generalize w2.heap.size = m at HM3 ⊢
    refine one_ (i := 11) (N := some 34) #[true, true, true, true, true, true, true, true, true, true, true, true, false, false, false] rfl rfl (by kernel_rfl) (by decide) (fun K hK => ?_)
    refine value_ (v := ?_) (w1 := ?_) (by rfl) rfl ?_ ?_
    rotate_left
    rotate_left
    · go_simp
      first | (apply And.intro <;> rfl) | rfl
    have hbb := Lib.hid (below_alloc (Below.refl w3.heap.size w3) (.cells #[.slice A1 p p, .slice (some ⟨m, 0, none⟩) 1 1, .slice B (xs.length - q) (c1 - q)] 22))
    refine hK.out _ _ ⟨pw_cell_below hbb.out hHeld.1, pw_cell_below hbb.out hHeld.2.1, pw_cell_below hbb.out hHeld.2.2.1, pw_cell_below hbb.out hHeld.2.2.2.1, pw_cell_below hbb.out hHeld.2.2.2.2⟩ (fun hHeld => ?_)
    clear hK K
    refine norm_ (a' := ?_) ?_ ?_
    rotate_left
    · show Act.put _ (some 34) _ = _
      simp only [Act.put, List.setIfInBounds_toArray, List.set_cons_zero, List.set_cons_succ, i64_w, i32_w]
      rfl
    have HG4 : Hid ((w3.alloc (.cells #[.slice A1 p p, .slice (some ⟨m, 0, none⟩) 1 1, .slice B (xs.length - q) (c1 - q)] 22)).heap[w3.heap.size]? = some (.cells #[.slice A1 p p, .slice (some ⟨m, 0, none⟩) 1 1, .slice B (xs.length - q) (c1 - q)] 22 (0, 0))) := Lib.hid (heap_alloc_new _ _)
    have HM4 := Lib.hid (blk_below HM3.out hbb.out)
    have HJ4 := Lib.hid (HJ3.out.below hbb.out)
    have HD4 := Lib.hid (Kd.C_below HD3.out hbb.out)
    have HT4 := Lib.hid (Kd.C_below HT3.out hbb.out)
    clear hbb HJ3 HD3 HT3 HM3
    generalize w3.alloc (.cells #[.slice A1 p p, .slice (some ⟨m, 0, none⟩) 1 1, .slice B (xs.length - q) (c1 - q)] 22) = w4 at HG4 HM4 HJ4 HD4 HT4 hHeld ⊢
    generalize w3.heap.size = g at HG4 ⊢
    refine one_ (i := 12) (N := some 35) #[true, true, true, true, true, true, true, true, true, true, true, true, true, false, false] rfl rfl (by kernel_rfl) (by decide) (fun K hK => ?_)
    refine goes_ Try.func28 (by kernel_rfl) rfl #[.slice (some ⟨g, 0, none⟩) 3 3] (by rfl) rfl rfl (by first | rfl | (simp only [List.map_toArray, List.map_cons, List.map_nil]; rfl)) ?_
    with_reducible refine (concat3 A1 p (xs.take p) c B (c1 - q) (xs.drop q) ?e1 ?e2 HG4.out HM4.out HT4.out ?l1 HD4.out ?l2 ?n1 ?n2).mono ?_
    case e1 => have := HP.out; simp; omega
    case e2 => simp
    case l1 => exact Nat.le_refl _
    case l2 => have := HL1.out; omega
    case n1 => have := HP.out; have := HN.out; omega
    case n2 => have := HN.out; omega
    rintro e w5 ⟨Ao, co, rfl, hr5, hb5⟩
    refine ⟨_, rfl, ?_⟩
    have HR5 := Lib.hid hr5
    have hbb := Lib.hid hb5
    clear hr5 hb5
    refine hK.out _ _ ⟨pw_cell_below hbb.out hHeld.1, pw_cell_below hbb.out hHeld.2.1, pw_cell_below hbb.out hHeld.2.2.1, pw_cell_below hbb.out hHeld.2.2.2.1, pw_cell_below hbb.out hHeld.2.2.2.2⟩ (fun hHeld => ?_)
    clear hK K
    refine norm_ (a' := ?_) ?_ ?_
    rotate_left
    · show Act.put _ (some 35) _ = _
      simp only [Act.put, List.setIfInBounds_toArray, List.set_cons_zero, List.set_cons_succ, i64_w, i32_w]
      rfl
    have HJ5 := Lib.hid (HJ4.out.below hbb.out)
    have hz4 := HJ4.out.2.2.2.2
    have hz5 := hbb.out.size
    clear hbb HJ4 HD4 HT4 HM4 HG4
    obtain ⟨nn, hnn⟩ : ∃ nn, nn = (xs.take p ++ c :: xs.drop q).length := ⟨_, rfl⟩
    rw [← hnn] at HR5 ⊢
    clear hnn
    refine pure_ (i := 13) (N := some 36) (v := ?_) (a' := ?_) #[true, true, true, true, true, true, true, true, true, true, true, true, true, true, false] rfl rfl (by kernel_rfl) (fun _ _ _ h => h) (Or.inl ⟨by rfl, ?_⟩) ?_ ?_
    rotate_left
    · intro w'
      go_simp
      with_reducible rfl
    rotate_left
    · simp only [Act.put, List.setIfInBounds_toArray, List.set_cons_zero, List.set_cons_succ, i64_w, i32_w]
      rfl
    refine last_ (i := 14) (N := none) #[true, true, true, true, true, true, true, true, true, true, true, true, true, true, true] rfl rfl (by kernel_rfl) (by decide) (fun K hK => ?_)
    have x0 := (blk_cell HJ5.out.1 1).trans rfl
    have f0 := blk_frozen HJ5.out.1 1
    refine skip_ (w1 := ?_) (by rfl) rfl ?_ ?_
    rotate_left
    · go_simp
      rfl
    refine hK.out _ _ ?_
    clear hK K x0 f0 hHeld
    refine done_ (by kernel_rfl) ?_
    have HX6 : Hid ((w5.setCell ⟨w.heap.size, 1, none⟩ (.slice Ao nn co)).heap[w.heap.size]? = some (.cells #[.bool true, .slice Ao nn co, .slice A2 ks.length c2, .slice A3 ds.length c3] 26 (0, 0))) := Lib.hid (blk_put HJ5.out.1 1 (.slice Ao nn co) rfl)
    have HY6 : Hid ((w5.setCell ⟨w.heap.size, 1, none⟩ (.slice Ao nn co)).heap[w.heap.size + 1 + 1]? = some (.cells #[.bool false, .slice none 0 0, .slice none 0 0, .slice none 0 0] 26 (0, 0))) := Lib.hid ((Below.heap_setCell _ _ _ _ (by show _ ≠ w.heap.size; omega)).trans HJ5.out.2.2.1)
    have HB6 := Lib.hid (HJ5.out.2.2.2.1.setCell (p := ⟨w.heap.size, 1, none⟩) (Nat.le_refl _) (.slice Ao nn co))
    have HR6 : Hid (Kd.R k43 43 (w5.setCell ⟨w.heap.size, 1, none⟩ (.slice Ao nn co)) w4.heap.size (fun _ => True) (.slice Ao nn co) (xs.take p ++ c :: xs.drop q)) := Lib.hid (R_keeps HR5.out (Nat.le_refl _) (fun k hk => Below.heap_setCell _ _ _ _ (by show k ≠ w.heap.size; omega)))
    clear HJ5 HR5 hz5
    generalize w5.setCell ⟨w.heap.size, 1, none⟩ (.slice Ao nn co) = w6 at HX6 HY6 HB6 HR6 ⊢
    have b0 := (blk_cell HX6.out 0).trans rfl
    have b1 := (blk_cell HX6.out 1).trans rfl
    have b2 := (blk_cell HX6.out 2).trans rfl
    have b3 := (blk_cell HX6.out 3).trans rfl
    have y0 := (blk_cell HY6.out 0).trans rfl
    have y1 := (blk_cell HY6.out 1).trans rfl
    have y2 := (blk_cell HY6.out 2).trans rfl
    have y3 := (blk_cell HY6.out 3).trans rfl
    have f0 := blk_frozen HY6.out 0
    have f1 := blk_frozen HY6.out 1
    have f2 := blk_frozen HY6.out 2
    have f3 := blk_frozen HY6.out 3
    go_wp2
    have z0 := blk_put HY6.out 0 (.bool true) rfl
    have z1 := blk_put z0 1 (.slice Ao nn co) rfl
    have z2 := blk_put z1 2 (.slice A2 ks.length c2) rfl
    have z3 := blk_put z2 3 (.slice A3 ds.length c3) rfl
    refine bodyPost_ret (results_cell_row rfl _ _ (w.heap.size + 1 + 1) 26 #[.bool true, .slice Ao nn co, .slice A2 ks.length c2, .slice A3 ds.length c3] (0, 0) _ rfl z3 Try.underlying26 rfl (by kernel_rfl)) rfl ?_
    refine ⟨_, rfl, R_keeps HR6.out (by omega) (fun k hk => ?_), (((HB6.out.setCell (by show _ ≤ w.heap.size + 1 + 1; omega) _).setCell (by show _ ≤ w.heap.size + 1 + 1; omega) _).setCell (by show _ ≤ w.heap.size + 1 + 1; omega) _).setCell (by show _ ≤ w.heap.size + 1 + 1; omega) _⟩
    have hk2 : k ≠ w.heap.size + 1 + 1 := by omega
    rw [Below.heap_setCell _ _ _ _ hk2, Below.heap_setCell _ _ _ _ hk2, Below.heap_setCell _ _ _ _ hk2, Below.heap_setCell _ _ _ _ hk2]
theorem concat2 {W : World} {g p r : Nat} (A1 : Option Addr) (c1 : Nat) (x1 : List S43) (A2 : Option Addr) (c2 : Nat) (x2 : List S43) (e1 : x1.length = p) (e2 : x2.length = r) (hg : W.heap[g]? = some (.cells #[.slice A1 p c1, .slice A2 r c2] 22 (0, 0)))
    (h1 : Kd.C k43 W A1 x1.length x1) (l1 : p ≤ c1) (h2 : Kd.C k43 W A2 x2.length x2) (l2 : r ≤ c2) (n1 : p ≤ 1000000) (n2 : r ≤ 1000000) :
    Calls Try.prog 28 #[.slice (some ⟨g, 0, none⟩) 2 2] W fun e w' => ∃ (Ao : Option Addr) (co : Nat), e = .returned (.slice Ao (x1 ++ x2).length co) ∧ Kd.R k43 43 w' W.heap.size (fun _ => True) (.slice Ao (x1 ++ x2).length co) (x1 ++ x2) ∧ Below W.heap.size W w' := by
  subst e1 e2
  refine (concat_cells A1 c1 x1 A2 c2 x2 hg h1 l1 h2 l2 n1 n2).mono ?_
  rintro e w' ⟨v, rfl, hr, hb⟩
  obtain ⟨Ao, co, rfl⟩ := Kd.R_slice hr
  exact ⟨Ao, co, rfl, hr, hb⟩
/-- Two boxes of a walk, and that nothing else was touched. -/
def J2 (w : World) (o3 o6 : Obj) (W : World) : Prop := W.heap[w.heap.size]? = some o3 ∧ W.heap[w.heap.size + 1]? = some o6 ∧ Below w.heap.size w W ∧ w.heap.size + 2 ≤ W.heap.size
theorem J2.below {w W W' : World} {o3 o6 : Obj} (h : J2 w o3 o6 W) (hb : Below W.heap.size W W') : J2 w o3 o6 W' := by
  obtain ⟨h1, h3, h4, h5⟩ := h
  exact ⟨(hb.block _ (by omega)).trans h1, (hb.block _ (by omega)).trans h3, below_then h4 (by omega) hb, Nat.le_trans h5 hb.size⟩
theorem J2.mk0 (w : World) (o3 o6 : Obj) : J2 w o3 o6 ((w.alloc o3).alloc o6) := by
  refine ⟨?_, ?_, ((Below.refl _ w).alloc (Nat.le_refl _) _).alloc (by simp) _, by simp⟩
  · have h1 := heap_alloc_new w o3
    have b1 : Below (w.alloc o3).heap.size (w.alloc o3) ((w.alloc o3).alloc o6) := (Below.refl _ _).alloc (Nat.le_refl _) _
    exact (b1.block _ (by simp)).trans h1
  · have h1 := heap_alloc_new (w.alloc o3) o6
    simpa only [World.size_alloc] using h1
set_option maxHeartbeats 4000000 in
set_option maxRecDepth 100000 in
theorem cut_walk (p q : Nat) (hpq : q = p + 1) (A1 : Option Addr) (c1 : Nat) (xs : List S43) (A2 : Option Addr) (c2 : Nat) (ks : List ByteArray) (A3 : Option Addr) (c3 : Nat) (ds : List Int) (w : World)
    (hv : Ext.Node w A1 c1 xs A2 c2 ks A3 c3 ds) (hql : p < xs.length) (hn : xs.length ≤ 100000) :
    Calls Try.prog 20 #[.agg #[.bool true, .slice A1 xs.length c1, .slice A2 ks.length c2, .slice A3 ds.length c3], .int .i64 (p : Int)] w fun e w' =>
      ∃ v1 : Value, e = .returned (.agg #[.bool true, v1, .slice A2 ks.length c2, .slice A3 ds.length c3]) ∧ Kd.R k43 43 w' w.heap.size (fun _ => True) v1 (xs.take p ++ xs.drop q) ∧ Below w.heap.size w w' := by
  have HJ0 := Lib.hid (J2.mk0 w (.cells #[.bool true, .slice A1 xs.length c1, .slice A2 ks.length c2, .slice A3 ds.length c3] 26) (.cells #[.bool false, .slice none 0 0, .slice none 0 0, .slice none 0 0] 26))
  have HV := Lib.hid (hv.below HJ0.out.2.2.1)
  obtain ⟨i0, hi0, _, hsz, _⟩ := info_parts info43
  have cutA := cut_hm A1 xs.length c1 p (by omega) hv.l1
  have cutB := cut_from (P := Try.prog) 22 43 .i64 Try.underlying22 hi0 4 hsz A1 xs.length c1 (q : Int) (by omega) (by omega)
  rw [Int.toNat_natCast] at cutB
  have HD := Lib.hid (Kd.C_drop (m := q) HV.out.r1 (by omega) hv.l1)
  have HT := Lib.hid (Kd.C_take (m := p) HV.out.r1 (by omega))
  rw [show (q * k43.sz) = q * 4 from rfl] at HD
  have HL1 := Lib.hid hv.l1
  have HP := Lib.hid hql
  have HN := Lib.hid hn
  obtain ⟨B, hB⟩ : ∃ B, B = (if c1 = q then A1 else A1.map (·.add (q * 4))) := ⟨_, rfl⟩
  rw [← hB] at cutB HD
  have hw : wrap64 ((p : Int) + 1) = (q : Int) := by
    subst hpq
    unfold wrap64
    omega
  have HQ := Lib.hid hpq
  have h0 : (0 : Int) ≤ (p : Int) := by omega
  have h1 : (p : Int) < (xs.length : Int) := by omega
  have hw2 : IntKind.i64.wrap ((p : Int) + 1) = (q : Int) := (i64_w _).trans hw
  have k0 := (blk_cell HJ0.out.1 0).trans rfl
  have k1 := (blk_cell HJ0.out.1 1).trans rfl
  clear hB hi0 hsz hv hn hpq hql
  go_enter Try.func20, Try.ntmps20
  go_upto_region 2 with fail
  have HJ2 := Lib.hid (HJ0.out.below (below_drew1 (Below.refl _ _)))
  have HD2 := Lib.hid (Kd.C_below HD.out (below_drew1 (Below.refl _ _)))
  have HT2 := Lib.hid (Kd.C_below HT.out (below_drew1 (Below.refl _ _)))
  clear k0 k1 HJ0 HV HD HT
  refine start_ (n := 14) (S := fun w' => w'.cell? ⟨w.heap.size, 1, none⟩ = some (.slice A1 xs.length c1)) (ds := [13]) #[false, false, false, false, false, false, false, false, false, false, false, false, false, false] (by kernel_rfl) rfl rfl ((blk_cell HJ2.out.1 1).trans rfl) (fun hHeld => ?_)
  generalize ((w.alloc (.cells #[.bool true, .slice A1 xs.length c1, .slice A2 ks.length c2, .slice A3 ds.length c3] 26)).alloc (.cells #[.bool false, .slice none 0 0, .slice none 0 0, .slice none 0 0] 26)).drew = w2 at HJ2 HD2 HT2 hHeld ⊢
  refine pure_ (i := 0) (N := some 18) (v := ?_) (a' := ?_) #[true, false, false, false, false, false, false, false, false, false, false, false, false, false] rfl rfl (by kernel_rfl) (fun _ _ _ h => h) (Or.inl ⟨by rfl, ?_⟩) ?_ ?_
  rotate_left
  · intro w'
    go_simp
    with_reducible rfl
  rotate_left
  · simp only [Act.put, List.setIfInBounds_toArray, List.set_cons_zero, List.set_cons_succ, i64_w, i32_w]
    rfl
  refine pure_ (i := 2) (N := some 20) (v := ?_) (a' := ?_) #[true, false, true, false, false, false, false, false, false, false, false, false, false, false] rfl rfl (by kernel_rfl) (fun _ _ _ h => h) (Or.inl ⟨by rfl, ?_⟩) ?_ ?_
  rotate_left
  · intro w'
    go_simp
    with_reducible rfl
  rotate_left
  · simp only [Act.put, List.setIfInBounds_toArray, List.set_cons_zero, List.set_cons_succ, i64_w, i32_w]
    rfl
  refine pure_ (i := 3) (N := some 21) (v := ?_) (a' := ?_) #[true, false, true, true, false, false, false, false, false, false, false, false, false, false] rfl rfl (by kernel_rfl) (fun _ _ _ h => h) (Or.inl ⟨by rfl, ?_⟩) ?_ ?_
  rotate_left
  · intro w'
    go_simp
    with_reducible rfl
  rotate_left
  · simp only [Act.put, List.setIfInBounds_toArray, List.set_cons_zero, List.set_cons_succ, i64_w, i32_w]
    rfl
  refine pure_ (i := 5) (N := some 23) (v := ?_) (a' := ?_) #[true, false, true, true, false, true, false, false, false, false, false, false, false, false] rfl rfl (by kernel_rfl) (fun _ _ _ h => h) (Or.inl ⟨by rfl, ?_⟩) ?_ ?_
  rotate_left
  · intro w'
    go_simp
    with_reducible rfl
  rotate_left
  · simp only [Act.put, List.setIfInBounds_toArray, List.set_cons_zero, List.set_cons_succ, i64_w, i32_w]
    rfl
  refine pure_ (i := 7) (N := some 25) (v := ?_) (a' := ?_) #[true, false, true, true, false, true, false, true, false, false, false, false, false, false] rfl rfl (by kernel_rfl) (fun _ _ _ h => h) (Or.inl ⟨by rfl, ?_⟩) ?_ ?_
  rotate_left
  · intro w'
    go_simp
    with_reducible rfl
  rotate_left
  · simp only [Act.put, List.setIfInBounds_toArray, List.set_cons_zero, List.set_cons_succ, i64_w, i32_w]
    rfl
  refine pure_ (i := 8) (N := some 26) (v := ?_) (a' := ?_) #[true, false, true, true, false, true, false, true, true, false, false, false, false, false] rfl rfl (by kernel_rfl) (fun _ _ _ h => h) (Or.inl ⟨by rfl, ?_⟩) ?_ ?_
  rotate_left
  · intro w'
    go_simp
    with_reducible rfl
  rotate_left
  · simp only [Act.put, List.setIfInBounds_toArray, List.set_cons_zero, List.set_cons_succ, i64_w, i32_w]
    rfl
  refine take_ (i := 1) (N := some 19) (v := ?_) (a' := ?_) #[true, true, true, true, false, true, false, true, true, false, false, false, false, false] rfl rfl (by kernel_rfl) (fun _ _ _ h => h) (Or.inl ⟨by rfl, ?_⟩) hHeld ?_ ?_
  rotate_left
  · rintro w' s0
    go_simp
    with_reducible rfl
  rotate_left
  · simp only [Act.put, List.setIfInBounds_toArray, List.set_cons_zero, List.set_cons_succ, i64_w, i32_w]
    rfl
  refine take_ (i := 6) (N := some 24) (v := ?_) (a' := ?_) #[true, true, true, true, false, true, true, true, true, false, false, false, false, false] rfl rfl (by kernel_rfl) (fun _ _ _ h => h) (Or.inl ⟨by rfl, ?_⟩) hHeld ?_ ?_
  rotate_left
  · rintro w' s0
    go_simp
    with_reducible rfl
  rotate_left
  · simp only [Act.put, List.setIfInBounds_toArray, List.set_cons_zero, List.set_cons_succ, i64_w, i32_w]
    rfl
  refine pure_ (i := 4) (N := some 22) (v := ?_) (a' := ?_) #[true, true, true, true, true, true, true, true, true, false, false, false, false, false] rfl rfl (by kernel_rfl) (fun _ _ _ h => h) (Or.inl ⟨by rfl, ?_⟩) ?_ ?_
  rotate_left
  · intro w'
    go_simp
    with_reducible rfl
  rotate_left
  · simp only [Act.put, List.setIfInBounds_toArray, List.set_cons_zero, List.set_cons_succ, i64_w, i32_w]
    rfl
  refine pure_ (i := 9) (N := some 27) (v := ?_) (a' := ?_) #[true, true, true, true, true, true, true, true, true, true, false, false, false, false] rfl rfl (by kernel_rfl) (fun _ _ _ h => h) (Or.inl ⟨by rfl, ?_⟩) ?_ ?_
  rotate_left
  · intro w'
    go_simp
    with_reducible rfl
  rotate_left
  · simp only [Act.put, List.setIfInBounds_toArray, List.set_cons_zero, List.set_cons_succ, i64_w, i32_w]
    rfl
  refine one_ (i := 10) (N := some 28) #[true, true, true, true, true, true, true, true, true, true, true, false, false, false] rfl rfl (by kernel_rfl) (by decide) (fun K hK => ?_)
  refine value_ (v := ?_) (w1 := ?_) (by rfl) rfl ?_ ?_
  rotate_left
  rotate_left
  · go_simp
    first | (apply And.intro <;> rfl) | rfl
  have hbb := Lib.hid (below_alloc (Below.refl w2.heap.size w2) (.cells #[.slice A1 p p, .slice B (xs.length - q) (c1 - q)] 22))
  refine hK.out _ _ (pw_cell_below hbb.out hHeld) (fun hHeld => ?_)
  clear hK K
  refine norm_ (a' := ?_) ?_ ?_
  rotate_left
  · show Act.put _ (some 28) _ = _
    simp only [Act.put, List.setIfInBounds_toArray, List.set_cons_zero, List.set_cons_succ, i64_w, i32_w]
    rfl
  have HG4 : Hid ((w2.alloc (.cells #[.slice A1 p p, .slice B (xs.length - q) (c1 - q)] 22)).heap[w2.heap.size]? = some (.cells #[.slice A1 p p, .slice B (xs.length - q) (c1 - q)] 22 (0, 0))) := Lib.hid (heap_alloc_new _ _)
  have HJ4 := Lib.hid (HJ2.out.below hbb.out)
  have HD4 := Lib.hid (Kd.C_below HD2.out hbb.out)
  have HT4 := Lib.hid (Kd.C_below HT2.out hbb.out)
  clear hbb HJ2 HD2 HT2
  generalize w2.alloc (.cells #[.slice A1 p p, .slice B (xs.length - q) (c1 - q)] 22) = w4 at HG4 HJ4 HD4 HT4 hHeld ⊢
  generalize w2.heap.size = g at HG4 ⊢
  refine one_ (i := 11) (N := some 29) #[true, true, true, true, true, true, true, true, true, true, true, true, false, false] rfl rfl (by kernel_rfl) (by decide) (fun K hK => ?_)
  refine goes_ Try.func28 (by kernel_rfl) rfl #[.slice (some ⟨g, 0, none⟩) 2 2] (by rfl) rfl rfl (by first | rfl | (simp only [List.map_toArray, List.map_cons, List.map_nil]; rfl)) ?_
  with_reducible refine (concat2 A1 p (xs.take p) B (c1 - q) (xs.drop q) ?e1 ?e2 HG4.out HT4.out ?l1 HD4.out ?l2 ?n1 ?n2).mono ?_
  case e1 => have := HP.out; simp; omega
  case e2 => simp
  case l1 => exact Nat.le_refl _
  case l2 => have := HL1.out; omega
  case n1 => have := HP.out; have := HN.out; omega
  case n2 => have := HN.out; omega
  rintro e w5 ⟨Ao, co, rfl, hr5, hb5⟩
  refine ⟨_, rfl, ?_⟩
  have HR5 := Lib.hid hr5
  have hbb := Lib.hid hb5
  clear hr5 hb5
  refine hK.out _ _ (pw_cell_below hbb.out hHeld) (fun hHeld => ?_)
  clear hK K
  refine norm_ (a' := ?_) ?_ ?_
  rotate_left
  · show Act.put _ (some 29) _ = _
    simp only [Act.put, List.setIfInBounds_toArray, List.set_cons_zero, List.set_cons_succ, i64_w, i32_w]
    rfl
  have HJ5 := Lib.hid (HJ4.out.below hbb.out)
  have hz4 := HJ4.out.2.2.2
  have hz5 := hbb.out.size
  clear hbb HJ4 HD4 HT4 HG4
  obtain ⟨nn, hnn⟩ : ∃ nn, nn = (xs.take p ++ xs.drop q).length := ⟨_, rfl⟩
  rw [← hnn] at HR5 ⊢
  clear hnn
  refine pure_ (i := 12) (N := some 30) (v := ?_) (a' := ?_) #[true, true, true, true, true, true, true, true, true, true, true, true, true, false] rfl rfl (by kernel_rfl) (fun _ _ _ h => h) (Or.inl ⟨by rfl, ?_⟩) ?_ ?_
  rotate_left
  · intro w'
    go_simp
    with_reducible rfl
  rotate_left
  · simp only [Act.put, List.setIfInBounds_toArray, List.set_cons_zero, List.set_cons_succ, i64_w, i32_w]
    rfl
  refine last_ (i := 13) (N := none) #[true, true, true, true, true, true, true, true, true, true, true, true, true, true] rfl rfl (by kernel_rfl) (by decide) (fun K hK => ?_)
  have x0 := (blk_cell HJ5.out.1 1).trans rfl
  have f0 := blk_frozen HJ5.out.1 1
  refine skip_ (w1 := ?_) (by rfl) rfl ?_ ?_
  rotate_left
  · go_simp
    rfl
  refine hK.out _ _ ?_
  clear hK K x0 f0 hHeld
  refine done_ (by kernel_rfl) ?_
  have HX6 : Hid ((w5.setCell ⟨w.heap.size, 1, none⟩ (.slice Ao nn co)).heap[w.heap.size]? = some (.cells #[.bool true, .slice Ao nn co, .slice A2 ks.length c2, .slice A3 ds.length c3] 26 (0, 0))) := Lib.hid (blk_put HJ5.out.1 1 (.slice Ao nn co) rfl)
  have HY6 : Hid ((w5.setCell ⟨w.heap.size, 1, none⟩ (.slice Ao nn co)).heap[w.heap.size + 1]? = some (.cells #[.bool false, .slice none 0 0, .slice none 0 0, .slice none 0 0] 26 (0, 0))) := Lib.hid ((Below.heap_setCell _ _ _ _ (by show _ ≠ w.heap.size; omega)).trans HJ5.out.2.1)
  have HB6 := Lib.hid (HJ5.out.2.2.1.setCell (p := ⟨w.heap.size, 1, none⟩) (Nat.le_refl _) (.slice Ao nn co))
  have HR6 : Hid (Kd.R k43 43 (w5.setCell ⟨w.heap.size, 1, none⟩ (.slice Ao nn co)) w4.heap.size (fun _ => True) (.slice Ao nn co) (xs.take p ++ xs.drop q)) := Lib.hid (R_keeps HR5.out (Nat.le_refl _) (fun k hk => Below.heap_setCell _ _ _ _ (by show k ≠ w.heap.size; omega)))
  clear HJ5 HR5 hz5
  generalize w5.setCell ⟨w.heap.size, 1, none⟩ (.slice Ao nn co) = w6 at HX6 HY6 HB6 HR6 ⊢
  have b0 := (blk_cell HX6.out 0).trans rfl
  have b1 := (blk_cell HX6.out 1).trans rfl
  have b2 := (blk_cell HX6.out 2).trans rfl
  have b3 := (blk_cell HX6.out 3).trans rfl
  have y0 := (blk_cell HY6.out 0).trans rfl
  have y1 := (blk_cell HY6.out 1).trans rfl
  have y2 := (blk_cell HY6.out 2).trans rfl
  have y3 := (blk_cell HY6.out 3).trans rfl
  have f0 := blk_frozen HY6.out 0
  have f1 := blk_frozen HY6.out 1
  have f2 := blk_frozen HY6.out 2
  have f3 := blk_frozen HY6.out 3
  go_wp2
  have z0 := blk_put HY6.out 0 (.bool true) rfl
  have z1 := blk_put z0 1 (.slice Ao nn co) rfl
  have z2 := blk_put z1 2 (.slice A2 ks.length c2) rfl
  have z3 := blk_put z2 3 (.slice A3 ds.length c3) rfl
  refine bodyPost_ret (results_cell_row rfl _ _ (w.heap.size + 1) 26 #[.bool true, .slice Ao nn co, .slice A2 ks.length c2, .slice A3 ds.length c3] (0, 0) _ rfl z3 Try.underlying26 rfl (by kernel_rfl)) rfl ?_
  refine ⟨_, rfl, R_keeps HR6.out (by omega) (fun k hk => ?_), (((HB6.out.setCell (by show _ ≤ w.heap.size + 1; omega) _).setCell (by show _ ≤ w.heap.size + 1; omega) _).setCell (by show _ ≤ w.heap.size + 1; omega) _).setCell (by show _ ≤ w.heap.size + 1; omega) _⟩
  have hk2 : k ≠ w.heap.size + 1 := by omega
  rw [Below.heap_setCell _ _ _ _ hk2, Below.heap_setCell _ _ _ _ hk2, Below.heap_setCell _ _ _ _ hk2, Below.heap_setCell _ _ _ _ hk2]
end Go.Proofs.Ytbkcoddcgfclaaa.SP
