-- PRINTED for YtfnbadfehelleaaDoor by this session's own driver; checked by Lean alone
import Derived.Test.YtfnbadfehelleaaDoorMPathx0
import Derived.Test.YtfnbadfehelleaaDoorMPathx8
import Derived.Test.YtfnbadfehelleaaDoorMPathx10
namespace Go.Proofs.YtfnbadfehelleaaDoor.MPath
open Go.RowKit Go.Proofs.YtfnbadfehelleaaDoorW.PrintWords Go.Proofs.YtfnbadfehelleaaDoorW.PrintLast Go.Proofs.YtfnbadfehelleaaDoorW.PrintMore
attribute [local go_sem] Go.Proofs.YtfnbadfehelleaaDoor.Aid.cell_isSome Go.Proofs.YtfnbadfehelleaaDoor.Aid.string_gtr Go.Proofs.YtfnbadfehelleaaDoor.Aid.string_leq Go.Proofs.YtfnbadfehelleaaDoor.Aid.string_geq
attribute [local go_sem] max2_int min2_int max_two min_two max_three min_three max_four min_four   -- for this text's walks alone
set_option linter.unusedVariables false
set_option linter.unusedSimpArgs false

/-! ### aquiferref05_Clean: function 21 -/
mutual
def aquiferref05_Clean.l0 : Nat → List ByteArray → List ByteArray → Int → Option (ByteArray × Int)
  | 0, _, _, _ => none
  | k + 1, x4, x5, x6 => if x6 < (x4.length : Int) then (if 0 ≤ x6 then (if (rdOf ByteArray.empty x4 x6).toList = ([46, 46] : List UInt8) then (aquiferref05_Clean.j1 k x4 x5 x6 ((x5.length : Int) == 0)) else (aquiferref05_Clean.j1 k x4 x5 x6 false)) else (none)) else ((aquiferref05_join.f k x5).bind fun t238 => ((aquiferref05_sure.f k t238).bind fun bt239 => (some (bt239.1, bt239.2))))
def aquiferref05_Clean.j1 : Nat → List ByteArray → List ByteArray → Int → Bool → Option (ByteArray × Int)
  | 0, _, _, _, _ => none
  | k + 1, x4, x5, x6, x27 => if x27 = true then (some ((⟨#[]⟩ : ByteArray), 18)) else (if 0 ≤ x6 then (if x6 < (x4.length : Int) then (if (rdOf ByteArray.empty x4 x6).toList = ([46, 46] : List UInt8) then (if 0 ≤ (wrap64 ((x5.length : Int) - 1)) then (if (wrap64 ((x5.length : Int) - 1)) ≤ (x5.length : Int) then (aquiferref05_Clean.l0 k x4 (x5.take ((wrap64 ((x5.length : Int) - 1)) : Int).toNat) (wrap64 (x6 + 1))) else (none)) else (none)) else (if (rdOf ByteArray.empty x4 x6).toList = ([] : List UInt8) then (aquiferref05_Clean.l0 k x4 x5 (wrap64 (x6 + 1))) else (if (rdOf ByteArray.empty x4 x6).toList = ([46] : List UInt8) then (aquiferref05_Clean.l0 k x4 x5 (wrap64 (x6 + 1))) else (if x5.length < 8796093022208 then (aquiferref05_Clean.l0 k x4 (x5 ++ [rdOf ByteArray.empty x4 x6]) (wrap64 (x6 + 1))) else (none))))) else (none)) else (none))
end
def aquiferref05_Clean.f (k : Nat) (a0 : ByteArray) : Option (ByteArray × Int) := if (a0.size : Int) > 4096 then (some ((⟨#[]⟩ : ByteArray), 3)) else ((aquiferref05_Names.f k a0).bind fun t235 => (aquiferref05_Clean.l0 k t235 ([] : List ByteArray) 0))
theorem aquiferref05_Clean.mono_l : ∀ k, (∀ y0 y1 y2, LeO (aquiferref05_Clean.l0 k y0 y1 y2) (aquiferref05_Clean.l0 (k + 1) y0 y1 y2)) ∧ (∀ y0 y1 y2 y3, LeO (aquiferref05_Clean.j1 k y0 y1 y2 y3) (aquiferref05_Clean.j1 (k + 1) y0 y1 y2 y3))
  | 0 => ⟨fun _ _ _ r h => by simp [aquiferref05_Clean.l0] at h, fun _ _ _ _ r h => by simp [aquiferref05_Clean.j1] at h⟩
  | k + 1 => by
    obtain ⟨ih0, ih1⟩ := aquiferref05_Clean.mono_l k
    refine ⟨?_, ?_⟩
    · intro y0 y1 y2
      unfold aquiferref05_Clean.l0
      repeat' first
      | (with_reducible exact ih0 _ _ _)
      | (with_reducible exact ih1 _ _ _ _)
      | (with_reducible exact aquiferref05_Names.mono _ _)
      | (with_reducible exact aquiferref05_join.mono _ _)
      | (with_reducible exact aquiferref05_sure.mono _ _)
      | (with_reducible exact LeO.refl _)
      | (with_reducible exact LeO.none _)
      | (with_reducible refine LeO.ite ?_ ?_)
      | (with_reducible refine LeO.bind ?_ (fun _ => ?_))
      | exact ih0 _ _ _
      | exact ih1 _ _ _ _
      | exact aquiferref05_Names.mono _ _
      | exact aquiferref05_join.mono _ _
      | exact aquiferref05_sure.mono _ _
      | exact LeO.none _
      | refine LeO.ite ?_ ?_
      | refine LeO.bind ?_ (fun _ => ?_)
    · intro y0 y1 y2 y3
      unfold aquiferref05_Clean.j1
      repeat' first
      | (with_reducible exact ih0 _ _ _)
      | (with_reducible exact ih1 _ _ _ _)
      | (with_reducible exact aquiferref05_Names.mono _ _)
      | (with_reducible exact aquiferref05_join.mono _ _)
      | (with_reducible exact aquiferref05_sure.mono _ _)
      | (with_reducible exact LeO.refl _)
      | (with_reducible exact LeO.none _)
      | (with_reducible refine LeO.ite ?_ ?_)
      | (with_reducible refine LeO.bind ?_ (fun _ => ?_))
      | exact ih0 _ _ _
      | exact ih1 _ _ _ _
      | exact aquiferref05_Names.mono _ _
      | exact aquiferref05_join.mono _ _
      | exact aquiferref05_sure.mono _ _
      | exact LeO.none _
      | refine LeO.ite ?_ ?_
      | refine LeO.bind ?_ (fun _ => ?_)
theorem aquiferref05_Clean.mono : ∀ a0 k, LeO (aquiferref05_Clean.f k a0) (aquiferref05_Clean.f (k + 1) a0) := by
  intro a0 k
  obtain ⟨ih0, ih1⟩ := aquiferref05_Clean.mono_l k
  unfold aquiferref05_Clean.f
  repeat' first
      | (with_reducible exact ih0 _ _ _)
      | (with_reducible exact ih1 _ _ _ _)
      | (with_reducible exact aquiferref05_Names.mono _ _)
      | (with_reducible exact aquiferref05_join.mono _ _)
      | (with_reducible exact aquiferref05_sure.mono _ _)
      | (with_reducible exact LeO.refl _)
      | (with_reducible exact LeO.none _)
      | (with_reducible refine LeO.ite ?_ ?_)
      | (with_reducible refine LeO.bind ?_ (fun _ => ?_))
      | exact ih0 _ _ _
      | exact ih1 _ _ _ _
      | exact aquiferref05_Names.mono _ _
      | exact aquiferref05_join.mono _ _
      | exact aquiferref05_sure.mono _ _
      | exact LeO.none _
      | refine LeO.ite ?_ ?_
      | refine LeO.bind ?_ (fun _ => ?_)
set_option maxHeartbeats 8000000 in
set_option maxRecDepth 100000 in
theorem aquiferref05_Clean.calls (k : Nat) (a0 : ByteArray) (r1 : ByteArray) (r2 : Int) (w : World) (h : aquiferref05_Clean.f k a0 = some (r1, r2)) :
    Calls Tryd.prog 21 #[.string a0] w fun e w' => e = .returned (.tuple #[.string r1, .int .i64 r2]) ∧ Below w.heap.size w w' := by
  have HB := Aside0.mk (Below.refl w.heap.size w)
  have H : (if (a0.size : Int) > 4096 then (some ((⟨#[]⟩ : ByteArray), 3)) else ((aquiferref05_Names.f k a0).bind fun t235 => (aquiferref05_Clean.l0 k t235 ([] : List ByteArray) 0))) = some (r1, r2) := h
  clear h
  by_cases c2 : (a0.size : Int) > 4096
  · rw [if_pos c2] at H
    have c2b0 : decide (4096 < (a0.size : Int)) = true := decide_eq_true c2
    have c2b1 : decide (4096 < a0.size) = true := decide_eq_true (by omega)
    clear c2
    simp only [Option.some.injEq, Prod.mk.injEq] at H
    obtain ⟨rfl, rfl⟩ := H
    go_enter Tryd.func21, Tryd.ntmps21
    go_wp2
    go_ret2
    exact ⟨by first | rfl | (simp [errW_none, errW_some] <;> rfl) | (simp [*, errW_none, errW_some] <;> rfl), by repeat (first | (with_reducible first | exact HB.out | apply below_alloc | apply pw_below_drewN | apply below_drew1) | exact HB.out)⟩
  · rw [if_neg c2] at H
    have c2b0 : decide (4096 < (a0.size : Int)) = false := decide_eq_false c2
    have c2b1 : decide (4096 < a0.size) = false := decide_eq_false (by omega)
    clear c2
    replace H := Option.bind_eq_some_iff.mp H
    obtain ⟨t235, A30, H⟩ := H
    replace H : (aquiferref05_Clean.l0 k t235 ([] : List ByteArray) 0) = some (r1, r2) := H
    have A3 := Aside0.mk A30
    clear A30
    have H' := Aside0.mk H
    clear H
    go_enter Tryd.func21, Tryd.ntmps21
    go_wp2_with (first | ((with_reducible refine gate_callee (f := 47) rfl ?_); refine goesL_ (some 11) rfl rfl Tryd.func47 (by kernel_rfl) rfl #[.string a0] rfl (by (try simp only [List.map_toArray, List.map_cons, List.map_nil]); first | done | rfl | (simp only [List.length_drop, List.length_take]; rfl)) ?_; (with_reducible refine (aquiferref05_Names.calls k a0 t235 _ A3.out).mono ?_); rintro e w4 ⟨v236, rfl, ho0, hb⟩; refine ⟨_, rfl, ?_⟩; have n0_ := Aside0.mk (Kd.R_lower ho0 (below_size (by repeat (first | (with_reducible first | exact HB.out | apply below_alloc | apply pw_below_drewN | apply below_drew1) | exact HB.out)))); have n1_ := Aside0.mk (below_step (by repeat (first | (with_reducible first | exact HB.out | apply below_alloc | apply pw_below_drewN | apply below_drew1) | exact HB.out)) hb); clear HB; have HO237 := n0_; have HB := n1_; clear n0_ n1_; (try clear hb); (try clear hb2); (try clear hk); (try clear hi); (try clear ho0)))
    go_loopg [5, 6] k (fun kq v5 v6 w' => ∃ (x5_1 : List ByteArray) (x6_1 : Int), v6 = .int .i64 x6_1 ∧ Aside0 (aquiferref05_Clean.l0 kq t235 x5_1 x6_1 = some (r1, r2)) ∧ Aside0 (kq ≤ k) ∧ Aside0 (Kd.R Kd.string 9 w' w.heap.size (fun k_ => some k_ ≠ (v5 : Value).ownBlock) v236 t235) ∧ Aside0 (Kd.R Kd.string 9 w' w.heap.size (fun k_ => some k_ ≠ (v236 : Value).ownBlock) v5 x5_1) ∧ Aside0 (Below w.heap.size w w'))
    case atStart => exact ⟨(([] : List ByteArray)), (0), (by first | rfl | (simp; done) | (simp [*]; done)), H', ⟨Nat.le_refl _⟩, ⟨by (with_reducible repeat (first | apply Kd.R_alloc | apply Kd.R_drewN | apply Kd.R_drew)); exact Kd.R_mono HO237.out (fun _ hk => (by simp [Value.ownBlock]))⟩, ⟨by first | exact Kd.R_nil _ _ _ _ _ | exact Kd.N_nil _ _ _ _ _ | exact Kd.V_nil _ _ _ _ _ | exact Kd.Q_nil _ _ _ _ _ | exact Kd.S_nil _ _ _ _ _⟩, ⟨by repeat (first | (with_reducible first | exact HB.out | apply below_alloc | apply pw_below_drewN | apply below_drew1) | exact HB.out)⟩⟩
    case round =>
      clear H'
      try clear c2
      try clear c2b0
      try clear c2b1
      try clear p2
      try clear c4
      obtain ⟨x5_1, x6_1, rfl, HA, HK1, HO_4, HO_5, HB⟩ := hrel
      cases gk with
      | zero => exact absurd HA.out (by simp [aquiferref05_Clean.l0])
      | succ k1 =>
        have H := HA.out
        clear HA
        simp only [aquiferref05_Clean.l0] at H
        by_cases c5 : x6_1 < (t235.length : Int)
        · rw [if_pos c5] at H
          have c5b0 : decide (x6_1 < (t235.length : Int)) = true := decide_eq_true c5
          clear c5
          have HC6 := Aside0.mk H
          clear H
          obtain ⟨Ao7, co7, eo7⟩ := Kd.R_slice HO_4.out
          subst eo7
          go_upto_region 8 with (fail)
          go_cut [27] (fun v27 wc => ∃ (kq : Nat) (x27_5 : Bool), v27 = .bool x27_5 ∧ Aside0 (aquiferref05_Clean.j1 kq t235 x5_1 x6_1 x27_5 = some (r1, r2)) ∧ Aside0 (kq ≤ k1) ∧ Aside0 (Kd.R Kd.string 9 wc w.heap.size (fun k_ => some k_ ≠ (u5 : Value).ownBlock) (.slice Ao7 t235.length co7) t235) ∧ Aside0 (Kd.R Kd.string 9 wc w.heap.size (fun k_ => some k_ ≠ ((.slice Ao7 t235.length co7) : Value).ownBlock) u5 x5_1) ∧ Aside0 (Below w.heap.size w wc))
          case first =>
            have H := HC6.out
            clear HC6
            by_cases c8 : 0 ≤ x6_1
            · rw [if_pos c8] at H
              have c8b0 : decide (0 ≤ x6_1) = true := decide_eq_true c8
              clear c8
              (first | rw [c8b0] | (simp only [i64_w, i32_w]; rw [c8b0]) | rw [c8b1] | rw [c8b2] | skip)
              by_cases c9 : (rdOf ByteArray.empty t235 x6_1).toList = ([46, 46] : List UInt8)
              · rw [if_pos c9] at H
                have c9b0 : ((rdOf ByteArray.empty t235 x6_1).toList == ([46, 46] : List UInt8)) = true := beq_iff_eq.mpr c9
                have c9b1 : ((rdOf ByteArray.empty t235 x6_1).toList != ([46, 46] : List UInt8)) = false := bne_eq_false_iff_eq.mpr c9
                clear c9
                have H' := Aside0.mk H
                clear H
                have p241 : 0 ≤ (x6_1 : Int) := of_decide_eq_true (by first | (with_reducible assumption) | assumption)
                have q241 : x6_1 < (t235.length : Int) := of_decide_eq_true (by first | (with_reducible assumption) | assumption)
                obtain ⟨ad241, e241, hx241_0⟩ := Kd.at_string (Kd.R_reads' HO_4.out).2.2 x6_1 p241 q241
                cases e241
                replace p241 := eq_true p241
                replace q241 := eq_true q241
                obtain ⟨Ao10, co10, eo10⟩ := Kd.R_slice HO_5.out
                subst eo10
                go_wp2
                go_meet
                case rel => exact ⟨_, (((x5_1.length : Int) == 0)), (by first | rfl | (simp; done) | (simp [*]; done)), H', ⟨by have := HK1.out; first | omega | exact Nat.le_refl _⟩, ⟨by (with_reducible repeat (first | apply Kd.R_alloc | apply Kd.R_drewN | apply Kd.R_drew)); first | exact HO_4.out | exact Kd.R_mono HO_4.out (fun k_ hk_ => by first | exact fun h_ => hk_ (h_.trans (Go.Proofs.YtfnbadfehelleaaDoor.Aid.own_len _ _ _ _)) | exact ⟨hk_.1, fun h_ => hk_.2 (h_.trans (Go.Proofs.YtfnbadfehelleaaDoor.Aid.own_len _ _ _ _))⟩ | simpa [Value.ownBlock] using hk_)⟩, ⟨by (with_reducible repeat (first | apply Kd.R_alloc | apply Kd.R_drewN | apply Kd.R_drew)); first | exact HO_5.out | exact Kd.R_mono HO_5.out (fun k_ hk_ => by first | exact fun h_ => hk_ (h_.trans (Go.Proofs.YtfnbadfehelleaaDoor.Aid.own_len _ _ _ _)) | exact ⟨hk_.1, fun h_ => hk_.2 (h_.trans (Go.Proofs.YtfnbadfehelleaaDoor.Aid.own_len _ _ _ _))⟩ | simpa [Value.ownBlock] using hk_)⟩, ⟨by repeat (first | (with_reducible first | exact HB.out | apply below_alloc | apply pw_below_drewN | apply below_drew1) | exact HB.out)⟩⟩
              · rw [if_neg c9] at H
                have c9b0 : ((rdOf ByteArray.empty t235 x6_1).toList == ([46, 46] : List UInt8)) = false := beq_eq_false_iff_ne.mpr c9
                have c9b1 : ((rdOf ByteArray.empty t235 x6_1).toList != ([46, 46] : List UInt8)) = true := bne_iff_ne.mpr c9
                have H' := Aside0.mk H
                clear H
                have p241 : 0 ≤ (x6_1 : Int) := of_decide_eq_true (by first | (with_reducible assumption) | assumption)
                have q241 : x6_1 < (t235.length : Int) := of_decide_eq_true (by first | (with_reducible assumption) | assumption)
                obtain ⟨ad241, e241, hx241_0⟩ := Kd.at_string (Kd.R_reads' HO_4.out).2.2 x6_1 p241 q241
                cases e241
                replace p241 := eq_true p241
                replace q241 := eq_true q241
                go_wp2
                go_meet
                case rel => exact ⟨_, (false), (by first | rfl | (simp; done) | (simp [*]; done)), H', ⟨by have := HK1.out; first | omega | exact Nat.le_refl _⟩, ⟨by (with_reducible repeat (first | apply Kd.R_alloc | apply Kd.R_drewN | apply Kd.R_drew)); first | exact HO_4.out | exact Kd.R_mono HO_4.out (fun k_ hk_ => by first | exact fun h_ => hk_ (h_.trans (Go.Proofs.YtfnbadfehelleaaDoor.Aid.own_len _ _ _ _)) | exact ⟨hk_.1, fun h_ => hk_.2 (h_.trans (Go.Proofs.YtfnbadfehelleaaDoor.Aid.own_len _ _ _ _))⟩ | simpa [Value.ownBlock] using hk_)⟩, ⟨by (with_reducible repeat (first | apply Kd.R_alloc | apply Kd.R_drewN | apply Kd.R_drew)); first | exact HO_5.out | exact Kd.R_mono HO_5.out (fun k_ hk_ => by first | exact fun h_ => hk_ (h_.trans (Go.Proofs.YtfnbadfehelleaaDoor.Aid.own_len _ _ _ _)) | exact ⟨hk_.1, fun h_ => hk_.2 (h_.trans (Go.Proofs.YtfnbadfehelleaaDoor.Aid.own_len _ _ _ _))⟩ | simpa [Value.ownBlock] using hk_)⟩, ⟨by repeat (first | (with_reducible first | exact HB.out | apply below_alloc | apply pw_below_drewN | apply below_drew1) | exact HB.out)⟩⟩
            · rw [if_neg c8] at H
              exact absurd H (by simp)
          case rest =>
            clear HC6
            try clear c2
            try clear c2b0
            try clear c2b1
            try clear p2
            try clear q2
            try clear hx2
            try clear c4
            try clear c5
            try clear c5b0
            try clear c8
            try clear c8b0
            try clear c8b1
            try clear c8b2
            try clear c9
            try clear c9b0
            try clear c9b1
            try clear hx241_0
            try clear p2
            try clear p241
            try clear q241
            obtain ⟨kq, x27_5, rfl, HA, HJ5, HO_4, HO_5, HB⟩ := hcut
            cases kq with
            | zero => exact absurd HA.out (by simp [aquiferref05_Clean.j1])
            | succ kj5 =>
              have H := HA.out
              clear HA
              simp only [aquiferref05_Clean.j1] at H
              by_cases c11 : x27_5 = true
              · subst c11
                have H1 : (some ((⟨#[]⟩ : ByteArray), 18)) = some (r1, r2) := by rw [if_pos rfl] at H; exact H
                clear H
                have H := H1
                clear H1
                simp only [Option.some.injEq, Prod.mk.injEq] at H
                obtain ⟨rfl, rfl⟩ := H
                go_wp2
                go_ret2
                exact ⟨by first | rfl | (simp [errW_none, errW_some] <;> rfl) | (simp [*, errW_none, errW_some] <;> rfl), by repeat (first | (with_reducible first | exact HB.out | apply below_alloc | apply pw_below_drewN | apply below_drew1) | exact HB.out)⟩
              · replace c11 := Bool.eq_false_iff.mpr c11
                subst c11
                have H1 : (if 0 ≤ x6_1 then (if x6_1 < (t235.length : Int) then (if (rdOf ByteArray.empty t235 x6_1).toList = ([46, 46] : List UInt8) then (if 0 ≤ (wrap64 ((x5_1.length : Int) - 1)) then (if (wrap64 ((x5_1.length : Int) - 1)) ≤ (x5_1.length : Int) then (aquiferref05_Clean.l0 kj5 t235 (x5_1.take ((wrap64 ((x5_1.length : Int) - 1)) : Int).toNat) (wrap64 (x6_1 + 1))) else (none)) else (none)) else (if (rdOf ByteArray.empty t235 x6_1).toList = ([] : List UInt8) then (aquiferref05_Clean.l0 kj5 t235 x5_1 (wrap64 (x6_1 + 1))) else (if (rdOf ByteArray.empty t235 x6_1).toList = ([46] : List UInt8) then (aquiferref05_Clean.l0 kj5 t235 x5_1 (wrap64 (x6_1 + 1))) else (if x5_1.length < 8796093022208 then (aquiferref05_Clean.l0 kj5 t235 (x5_1 ++ [rdOf ByteArray.empty t235 x6_1]) (wrap64 (x6_1 + 1))) else (none))))) else (none)) else (none)) = some (r1, r2) := by rw [if_neg (show ¬ (false = true) by decide)] at H; exact H
                clear H
                have H := H1
                clear H1
                by_cases c12 : 0 ≤ x6_1
                · rw [if_pos c12] at H
                  have c12b0 : decide (0 ≤ x6_1) = true := decide_eq_true c12
                  clear c12
                  by_cases c13 : x6_1 < (t235.length : Int)
                  · rw [if_pos c13] at H
                    have c13b0 : decide (x6_1 < (t235.length : Int)) = true := decide_eq_true c13
                    clear c13
                    by_cases c14 : (rdOf ByteArray.empty t235 x6_1).toList = ([46, 46] : List UInt8)
                    · rw [if_pos c14] at H
                      have c14b0 : ((rdOf ByteArray.empty t235 x6_1).toList == ([46, 46] : List UInt8)) = true := beq_iff_eq.mpr c14
                      have c14b1 : ((rdOf ByteArray.empty t235 x6_1).toList != ([46, 46] : List UInt8)) = false := bne_eq_false_iff_eq.mpr c14
                      clear c14
                      obtain ⟨ji15, hji15⟩ : ∃ j_ : Int, (wrap64 ((x5_1.length : Int) - 1)) = j_ := ⟨_, rfl⟩
                      replace H : (if 0 ≤ (ji15) then (if (ji15) ≤ (x5_1.length : Int) then (aquiferref05_Clean.l0 kj5 t235 (x5_1.take ((ji15) : Int).toNat) (wrap64 (x6_1 + 1))) else (none)) else (none)) = some (r1, r2) := by first | (rw [hji15] at H; exact H) | (simp only [hji15] at H ⊢; exact H)
                      have hji15w : (IntKind.i64.wrap ((x5_1.length : Int) - 1)) = ji15 := (i64_w _).trans hji15
                      by_cases c16 : 0 ≤ (ji15)
                      · rw [if_pos c16] at H
                        have c16b0 := eq_true c16
                        have c16b1 : decide (0 ≤ (ji15)) = true := decide_eq_true c16
                        clear c16
                        by_cases c17 : (ji15) ≤ (x5_1.length : Int)
                        · rw [if_pos c17] at H
                          have c17b0 := eq_true c17
                          have c17b1 : decide ((ji15) ≤ (x5_1.length : Int)) = true := decide_eq_true c17
                          clear c17
                          obtain ⟨y243, hy243⟩ : ∃ y_ : List ByteArray, y_ = (x5_1.take ((ji15) : Int).toNat) := ⟨_, rfl⟩
                          replace H : (aquiferref05_Clean.l0 kj5 t235 y243 (wrap64 (x6_1 + 1))) = some (r1, r2) := by first | (rw [hy243]; with_reducible exact H) | (have H2_ := (Option.bind_some _ _).symm.trans H; rw [hy243]; with_reducible exact H2_) | (have H2_ := (Option.bind_some _ _).symm.trans H; with_reducible exact H2_) | with_reducible exact H | (rw [hy243]; exact H) | exact H
                          have Ny243 := Aside0.mk hy243
                          clear hy243
                          have H' := Aside0.mk H
                          clear H
                          have p242 : 0 ≤ (x6_1 : Int) := of_decide_eq_true (by first | (with_reducible assumption) | assumption)
                          have q242 : x6_1 < (t235.length : Int) := of_decide_eq_true (by first | (with_reducible assumption) | assumption)
                          obtain ⟨ad242, e242, hx242_0⟩ := Kd.at_string (Kd.R_reads' HO_4.out).2.2 x6_1 p242 q242
                          cases e242
                          replace p242 := eq_true p242
                          replace q242 := eq_true q242
                          obtain ⟨Ao18, co18, eo18⟩ := Kd.R_slice HO_5.out
                          subst eo18
                          have q19 : ((ji15) : Int) ≤ ((x5_1.length : Int) : Int) := of_decide_eq_true (by first | (with_reducible assumption) | assumption)
                          obtain ⟨i019, hi019, _, hsz19, _⟩ := info_parts info9
                          have hcut19 := cut_to (P := Tryd.prog) 29 9 .i64 Tryd.underlying29 hi019 Ao18 x5_1.length co18 (ji15) (of_decide_eq_true (by first | (with_reducible assumption) | assumption)) q19 (Kd.R_reads' HO_5.out).2.1
                          have hlen19 := (Kd.R_reads' HO_5.out).1
                          have hr19 := Kd.R_take (m := ((ji15) : Int).toNat) HO_5.out (by omega)
                          have hy19 : y243.length = ((ji15) : Int).toNat := (by rw [Ny243.out, List.length_take]; omega)
                          rw [← Ny243.out] at hr19
                          rw [← hy19] at hr19 hcut19
                          clear hy19 hi019 hsz19 hlen19 HO_5
                          have HO245 := Aside0.mk hr19
                          clear hr19
                          replace q19 := eq_true q19
                          go_wp2
                          go_roundg kj5
                          case measure => have := HK1.out; have := HJ5.out; omega
                          case rel => exact ⟨(y243), (wrap64 (x6_1 + 1)), (by first | rfl | (simp; done) | (simp [*]; done)), H', ⟨by have := HK1.out; have := HJ5.out; omega⟩, ⟨by (with_reducible repeat (first | apply Kd.R_alloc | apply Kd.R_drewN | apply Kd.R_drew)); first | exact HO_4.out | exact Kd.R_mono HO_4.out (fun k_ hk_ => by first | exact fun h_ => hk_ (h_.trans (Go.Proofs.YtfnbadfehelleaaDoor.Aid.own_len _ _ _ _)) | exact ⟨hk_.1, fun h_ => hk_.2 (h_.trans (Go.Proofs.YtfnbadfehelleaaDoor.Aid.own_len _ _ _ _))⟩ | simpa [Value.ownBlock] using hk_)⟩, ⟨by (with_reducible repeat (first | apply Kd.R_alloc | apply Kd.R_drewN | apply Kd.R_drew)); first | exact HO245.out | exact Kd.R_mono HO245.out (fun k_ hk_ => by first | exact fun h_ => hk_ (h_.trans (Go.Proofs.YtfnbadfehelleaaDoor.Aid.own_len _ _ _ _)) | exact ⟨hk_.1, fun h_ => hk_.2 (h_.trans (Go.Proofs.YtfnbadfehelleaaDoor.Aid.own_len _ _ _ _))⟩ | simpa [Value.ownBlock] using hk_)⟩, ⟨by repeat (first | (with_reducible first | exact HB.out | apply below_alloc | apply pw_below_drewN | apply below_drew1) | exact HB.out)⟩⟩
                        · rw [if_neg c17] at H
                          exact absurd H (by simp)
                      · rw [if_neg c16] at H
                        exact absurd H (by simp)
                    · rw [if_neg c14] at H
                      have c14b0 : ((rdOf ByteArray.empty t235 x6_1).toList == ([46, 46] : List UInt8)) = false := beq_eq_false_iff_ne.mpr c14
                      have c14b1 : ((rdOf ByteArray.empty t235 x6_1).toList != ([46, 46] : List UInt8)) = true := bne_iff_ne.mpr c14
                      by_cases c20 : (rdOf ByteArray.empty t235 x6_1).toList = ([] : List UInt8)
                      · rw [if_pos c20] at H
                        have c20b0 : ((rdOf ByteArray.empty t235 x6_1).toList == ([] : List UInt8)) = true := beq_iff_eq.mpr c20
                        have c20b1 : ((rdOf ByteArray.empty t235 x6_1).toList != ([] : List UInt8)) = false := bne_eq_false_iff_eq.mpr c20
                        clear c20
                        have H' := Aside0.mk H
                        clear H
                        have p242 : 0 ≤ (x6_1 : Int) := of_decide_eq_true (by first | (with_reducible assumption) | assumption)
                        have q242 : x6_1 < (t235.length : Int) := of_decide_eq_true (by first | (with_reducible assumption) | assumption)
                        obtain ⟨ad242, e242, hx242_0⟩ := Kd.at_string (Kd.R_reads' HO_4.out).2.2 x6_1 p242 q242
                        cases e242
                        replace p242 := eq_true p242
                        replace q242 := eq_true q242
                        have p246 : 0 ≤ (x6_1 : Int) := of_decide_eq_true (by first | (with_reducible assumption) | assumption)
                        have q246 : x6_1 < (t235.length : Int) := of_decide_eq_true (by first | (with_reducible assumption) | assumption)
                        obtain ⟨ad246, e246, hx246_0⟩ := Kd.at_string (Kd.R_reads' HO_4.out).2.2 x6_1 p246 q246
                        obtain rfl : ad242 = ad246 := (by injection e246)
                        replace p246 := eq_true p246
                        replace q246 := eq_true q246
                        go_wp2
                        go_roundg kj5
                        case measure => have := HK1.out; have := HJ5.out; omega
                        case rel => exact ⟨(x5_1), (wrap64 (x6_1 + 1)), (by first | rfl | (simp; done) | (simp [*]; done)), H', ⟨by have := HK1.out; have := HJ5.out; omega⟩, ⟨by (with_reducible repeat (first | apply Kd.R_alloc | apply Kd.R_drewN | apply Kd.R_drew)); first | exact HO_4.out | exact Kd.R_mono HO_4.out (fun k_ hk_ => by first | exact fun h_ => hk_ (h_.trans (Go.Proofs.YtfnbadfehelleaaDoor.Aid.own_len _ _ _ _)) | exact ⟨hk_.1, fun h_ => hk_.2 (h_.trans (Go.Proofs.YtfnbadfehelleaaDoor.Aid.own_len _ _ _ _))⟩ | simpa [Value.ownBlock] using hk_)⟩, ⟨by (with_reducible repeat (first | apply Kd.R_alloc | apply Kd.R_drewN | apply Kd.R_drew)); first | exact HO_5.out | exact Kd.R_mono HO_5.out (fun k_ hk_ => by first | exact fun h_ => hk_ (h_.trans (Go.Proofs.YtfnbadfehelleaaDoor.Aid.own_len _ _ _ _)) | exact ⟨hk_.1, fun h_ => hk_.2 (h_.trans (Go.Proofs.YtfnbadfehelleaaDoor.Aid.own_len _ _ _ _))⟩ | simpa [Value.ownBlock] using hk_)⟩, ⟨by repeat (first | (with_reducible first | exact HB.out | apply below_alloc | apply pw_below_drewN | apply below_drew1) | exact HB.out)⟩⟩
                      · rw [if_neg c20] at H
                        have c20b0 : ((rdOf ByteArray.empty t235 x6_1).toList == ([] : List UInt8)) = false := beq_eq_false_iff_ne.mpr c20
                        have c20b1 : ((rdOf ByteArray.empty t235 x6_1).toList != ([] : List UInt8)) = true := bne_iff_ne.mpr c20
                        by_cases c21 : (rdOf ByteArray.empty t235 x6_1).toList = ([46] : List UInt8)
                        · rw [if_pos c21] at H
                          have c21b0 : ((rdOf ByteArray.empty t235 x6_1).toList == ([46] : List UInt8)) = true := beq_iff_eq.mpr c21
                          have c21b1 : ((rdOf ByteArray.empty t235 x6_1).toList != ([46] : List UInt8)) = false := bne_eq_false_iff_eq.mpr c21
                          clear c21
                          have H' := Aside0.mk H
                          clear H
                          have p242 : 0 ≤ (x6_1 : Int) := of_decide_eq_true (by first | (with_reducible assumption) | assumption)
                          have q242 : x6_1 < (t235.length : Int) := of_decide_eq_true (by first | (with_reducible assumption) | assumption)
                          obtain ⟨ad242, e242, hx242_0⟩ := Kd.at_string (Kd.R_reads' HO_4.out).2.2 x6_1 p242 q242
                          cases e242
                          replace p242 := eq_true p242
                          replace q242 := eq_true q242
                          have p246 : 0 ≤ (x6_1 : Int) := of_decide_eq_true (by first | (with_reducible assumption) | assumption)
                          have q246 : x6_1 < (t235.length : Int) := of_decide_eq_true (by first | (with_reducible assumption) | assumption)
                          obtain ⟨ad246, e246, hx246_0⟩ := Kd.at_string (Kd.R_reads' HO_4.out).2.2 x6_1 p246 q246
                          obtain rfl : ad242 = ad246 := (by injection e246)
                          replace p246 := eq_true p246
                          replace q246 := eq_true q246
                          have p247 : 0 ≤ (x6_1 : Int) := of_decide_eq_true (by first | (with_reducible assumption) | assumption)
                          have q247 : x6_1 < (t235.length : Int) := of_decide_eq_true (by first | (with_reducible assumption) | assumption)
                          obtain ⟨ad247, e247, hx247_0⟩ := Kd.at_string (Kd.R_reads' HO_4.out).2.2 x6_1 p247 q247
                          obtain rfl : ad242 = ad247 := (by injection e247)
                          replace p247 := eq_true p247
                          replace q247 := eq_true q247
                          go_wp2
                          go_roundg kj5
                          case measure => have := HK1.out; have := HJ5.out; omega
                          case rel => exact ⟨(x5_1), (wrap64 (x6_1 + 1)), (by first | rfl | (simp; done) | (simp [*]; done)), H', ⟨by have := HK1.out; have := HJ5.out; omega⟩, ⟨by (with_reducible repeat (first | apply Kd.R_alloc | apply Kd.R_drewN | apply Kd.R_drew)); first | exact HO_4.out | exact Kd.R_mono HO_4.out (fun k_ hk_ => by first | exact fun h_ => hk_ (h_.trans (Go.Proofs.YtfnbadfehelleaaDoor.Aid.own_len _ _ _ _)) | exact ⟨hk_.1, fun h_ => hk_.2 (h_.trans (Go.Proofs.YtfnbadfehelleaaDoor.Aid.own_len _ _ _ _))⟩ | simpa [Value.ownBlock] using hk_)⟩, ⟨by (with_reducible repeat (first | apply Kd.R_alloc | apply Kd.R_drewN | apply Kd.R_drew)); first | exact HO_5.out | exact Kd.R_mono HO_5.out (fun k_ hk_ => by first | exact fun h_ => hk_ (h_.trans (Go.Proofs.YtfnbadfehelleaaDoor.Aid.own_len _ _ _ _)) | exact ⟨hk_.1, fun h_ => hk_.2 (h_.trans (Go.Proofs.YtfnbadfehelleaaDoor.Aid.own_len _ _ _ _))⟩ | simpa [Value.ownBlock] using hk_)⟩, ⟨by repeat (first | (with_reducible first | exact HB.out | apply below_alloc | apply pw_below_drewN | apply below_drew1) | exact HB.out)⟩⟩
                        · rw [if_neg c21] at H
                          have c21b0 : ((rdOf ByteArray.empty t235 x6_1).toList == ([46] : List UInt8)) = false := beq_eq_false_iff_ne.mpr c21
                          have c21b1 : ((rdOf ByteArray.empty t235 x6_1).toList != ([46] : List UInt8)) = true := bne_iff_ne.mpr c21
                          by_cases c22 : x5_1.length < 8796093022208
                          · rw [if_pos c22] at H
                            have LMc22 := Aside0.mk c22
                            clear c22
                            obtain ⟨y249, hy249⟩ : ∃ y_ : List ByteArray, y_ = (x5_1 ++ [rdOf ByteArray.empty t235 x6_1]) := ⟨_, rfl⟩
                            replace H : (aquiferref05_Clean.l0 kj5 t235 y249 (wrap64 (x6_1 + 1))) = some (r1, r2) := by first | (rw [hy249]; with_reducible exact H) | (have H2_ := (Option.bind_some _ _).symm.trans H; rw [hy249]; with_reducible exact H2_) | (have H2_ := (Option.bind_some _ _).symm.trans H; with_reducible exact H2_) | with_reducible exact H | (rw [hy249]; exact H) | exact H
                            have Ny249 := Aside0.mk hy249
                            clear hy249
                            have H' := Aside0.mk H
                            clear H
                            have p242 : 0 ≤ (x6_1 : Int) := of_decide_eq_true (by first | (with_reducible assumption) | assumption)
                            have q242 : x6_1 < (t235.length : Int) := of_decide_eq_true (by first | (with_reducible assumption) | assumption)
                            obtain ⟨ad242, e242, hx242_0⟩ := Kd.at_string (Kd.R_reads' HO_4.out).2.2 x6_1 p242 q242
                            cases e242
                            replace p242 := eq_true p242
                            replace q242 := eq_true q242
                            have p246 : 0 ≤ (x6_1 : Int) := of_decide_eq_true (by first | (with_reducible assumption) | assumption)
                            have q246 : x6_1 < (t235.length : Int) := of_decide_eq_true (by first | (with_reducible assumption) | assumption)
                            obtain ⟨ad246, e246, hx246_0⟩ := Kd.at_string (Kd.R_reads' HO_4.out).2.2 x6_1 p246 q246
                            obtain rfl : ad242 = ad246 := (by injection e246)
                            replace p246 := eq_true p246
                            replace q246 := eq_true q246
                            have p247 : 0 ≤ (x6_1 : Int) := of_decide_eq_true (by first | (with_reducible assumption) | assumption)
                            have q247 : x6_1 < (t235.length : Int) := of_decide_eq_true (by first | (with_reducible assumption) | assumption)
                            obtain ⟨ad247, e247, hx247_0⟩ := Kd.at_string (Kd.R_reads' HO_4.out).2.2 x6_1 p247 q247
                            obtain rfl : ad242 = ad247 := (by injection e247)
                            replace p247 := eq_true p247
                            replace q247 := eq_true q247
                            have p248 : 0 ≤ (x6_1 : Int) := of_decide_eq_true (by first | (with_reducible assumption) | assumption)
                            have q248 : x6_1 < (t235.length : Int) := of_decide_eq_true (by first | (with_reducible assumption) | assumption)
                            obtain ⟨ad248, e248, hx248_0⟩ := Kd.at_string (Kd.R_reads' HO_4.out).2.2 x6_1 p248 q248
                            obtain rfl : ad242 = ad248 := (by injection e248)
                            replace p248 := eq_true p248
                            replace q248 := eq_true q248
                            go_wp2_with (first | ((with_reducible refine gate_builtin (b := .append) (xs := #[.tmp 50, .tmp 55]) rfl ?_); (try (refine gate_guard (by rfl) ?_; dsimp only)); at_builtin; refine Kd.R_append Kd.string (w0 := w) w.heap.size rfl (.tmp 50) (.tmp 55) 29 9 (.string ⟨#[]⟩) 16 rfl Tryd.underlying29 info9 rfl (by decide) (by omega) u5 x5_1 (rdOf ByteArray.empty t235 x6_1) [.string (rdOf ByteArray.empty t235 x6_1)] (fun k_ => some k_ ≠ (.slice (some ad242) t235.length co7 : Value).ownBlock) (fun _ => False) rfl rfl ?aP (fun _ hk => hk.elim) ?aF ?aO ?aB ?aS ?aL ?_; (case aP => exact rfl); (case aB => exact (by repeat (first | (with_reducible first | exact HB.out | apply below_alloc | apply pw_below_drewN | apply below_drew1) | exact HB.out))); (case aF => exact (fun k_ hk => Kd.fresh' (Kd.R_lt (by (with_reducible repeat (first | apply Kd.R_alloc | apply Kd.R_drewN | apply Kd.R_drew)); exact HO_4.out)) k_ hk)); (case aO => exact (by (with_reducible repeat (first | apply Kd.R_alloc | apply Kd.R_drewN | apply Kd.R_drew)); exact HO_5.out)); (case aS => exact (below_size (by repeat (first | (with_reducible first | exact HB.out | apply below_alloc | apply pw_below_drewN | apply below_drew1) | exact HB.out)))); (case aL => have := LMc22.out; omega); intro v250 w23 ho hb hg hat; rw [← Ny249.out] at ho; have n0_ := Aside0.mk (Kd.R_after (ok := (fun _ => True)) (by (with_reducible repeat (first | apply Kd.R_alloc | apply Kd.R_drewN | apply Kd.R_drew)); exact Kd.R_mono HO_4.out (fun _ hk => ⟨trivial, hk⟩)) hg hat); have n1_ := Aside0.mk (hb); have n2_ := Aside0.mk (ho); clear HO_4; clear HB; clear HO_5; have HO_4 := n0_; have HB := n1_; have HO251 := n2_; clear n0_ n1_ n2_; clear ho hb hg hat))
                            go_roundg kj5
                            case measure => have := HK1.out; have := HJ5.out; omega
                            case rel => exact ⟨(y249), (wrap64 (x6_1 + 1)), (by first | rfl | (simp; done) | (simp [*]; done)), H', ⟨by have := HK1.out; have := HJ5.out; omega⟩, ⟨by (with_reducible repeat (first | apply Kd.R_alloc | apply Kd.R_drewN | apply Kd.R_drew)); exact Kd.R_mono HO_4.out (fun _ hk => hk.2)⟩, ⟨by (with_reducible repeat (first | apply Kd.R_alloc | apply Kd.R_drewN | apply Kd.R_drew)); first | exact HO251.out | exact Kd.R_mono HO251.out (fun k_ hk_ => by first | exact fun h_ => hk_ (h_.trans (Go.Proofs.YtfnbadfehelleaaDoor.Aid.own_len _ _ _ _)) | exact ⟨hk_.1, fun h_ => hk_.2 (h_.trans (Go.Proofs.YtfnbadfehelleaaDoor.Aid.own_len _ _ _ _))⟩ | simpa [Value.ownBlock] using hk_)⟩, ⟨by repeat (first | (with_reducible first | exact HB.out | apply below_alloc | apply pw_below_drewN | apply below_drew1) | exact HB.out)⟩⟩
                          · rw [if_neg c22] at H
                            exact absurd H (by simp)
                  · rw [if_neg c13] at H
                    exact absurd H (by simp)
                · rw [if_neg c12] at H
                  exact absurd H (by simp)
        · rw [if_neg c5] at H
          have c5b0 : decide (x6_1 < (t235.length : Int)) = false := decide_eq_false c5
          clear c5
          replace H := Option.bind_eq_some_iff.mp H
          obtain ⟨t238, A240, H⟩ := H
          replace H : ((aquiferref05_sure.f k1 t238).bind fun bt239 => (some (bt239.1, bt239.2))) = some (r1, r2) := H
          have A24 := Aside0.mk A240
          clear A240
          replace H := Option.bind_eq_some_iff.mp H
          obtain ⟨⟨t239, t240⟩, A250, H⟩ := H
          replace H : (some (t239, t240)) = some (r1, r2) := H
          have A25 := Aside0.mk A250
          clear A250
          simp only [Option.some.injEq, Prod.mk.injEq] at H
          obtain ⟨rfl, rfl⟩ := H
          obtain ⟨Ao26, co26, eo26⟩ := Kd.R_slice HO_4.out
          subst eo26
          obtain ⟨Ao27, co27, eo27⟩ := Kd.R_slice HO_5.out
          subst eo27
          go_wp2_with (first | ((with_reducible refine gate_callee (f := 50) rfl ?_); refine goesL_ (some 58) rfl rfl Tryd.func50 (by kernel_rfl) rfl #[.slice Ao27 x5_1.length co27] rfl (by (try simp only [List.map_toArray, List.map_cons, List.map_nil]); first | done | rfl | (simp only [List.length_drop, List.length_take]; rfl)) ?_; (with_reducible refine (aquiferref05_join.calls k1 _ _ x5_1 t238 _ ?side1 ?side2 A24.out).mono ?_); (case side1 => repeat (first | exact (Kd.R_reads' HO_5.out).2.2 | (with_reducible refine Kd.C_alloc ?_ _) | (with_reducible refine Kd.C_drewN ?_ _) | (with_reducible refine Kd.C_drew ?_))); (case side2 => exact (Kd.R_reads' HO_5.out).2.1); rintro e w' ⟨rfl, ⟨nd, rfl⟩⟩; refine ⟨_, rfl, ?_⟩) | ((with_reducible refine gate_callee (f := 49) rfl ?_); refine goesL_ (some 59) rfl rfl Tryd.func49 (by kernel_rfl) rfl #[.string t238] rfl (by (try simp only [List.map_toArray, List.map_cons, List.map_nil]); first | done | rfl | (simp only [List.length_drop, List.length_take]; rfl)) ?_; (with_reducible refine (aquiferref05_sure.calls k1 t238 t239 t240 _ A25.out).mono ?_); rintro e w28 ⟨rfl, hb⟩; refine ⟨_, rfl, ?_⟩; have n0_ := Aside0.mk (Kd.R_below (by (with_reducible repeat (first | apply Kd.R_alloc | apply Kd.R_drewN | apply Kd.R_drew)); exact HO_4.out) hb); have n1_ := Aside0.mk (Kd.R_below (by (with_reducible repeat (first | apply Kd.R_alloc | apply Kd.R_drewN | apply Kd.R_drew)); exact HO_5.out) hb); have n2_ := Aside0.mk (below_step (by repeat (first | (with_reducible first | exact HB.out | apply below_alloc | apply pw_below_drewN | apply below_drew1) | exact HB.out)) hb); clear HO_4; clear HO_5; clear HB; have HO_4 := n0_; have HO_5 := n1_; have HB := n2_; clear n0_ n1_ n2_; (try clear hb); (try clear hb2); (try clear hk); (try clear hi)))
          go_ret2
          exact ⟨by first | rfl | (simp [errW_none, errW_some] <;> rfl) | (simp [*, errW_none, errW_some] <;> rfl), by repeat (first | (with_reducible first | exact HB.out | apply below_alloc | apply pw_below_drewN | apply below_drew1) | exact HB.out)⟩

/-! ### aquiferref05_Is: function 51 -/
def aquiferref05_Is.f (k : Nat) (a0 : ByteArray) : Option (Bool) := (aquiferref05_Kind.f k a0).bind fun bt252 => (some (bt252.2 == 0))
theorem aquiferref05_Is.mono : ∀ a0 k, LeO (aquiferref05_Is.f k a0) (aquiferref05_Is.f (k + 1) a0) := by
  intro a0 k
  unfold aquiferref05_Is.f
  repeat' first
      | (with_reducible exact aquiferref05_Kind.mono _ _)
      | (with_reducible exact LeO.refl _)
      | (with_reducible exact LeO.none _)
      | (with_reducible refine LeO.ite ?_ ?_)
      | (with_reducible refine LeO.bind ?_ (fun _ => ?_))
      | exact aquiferref05_Kind.mono _ _
      | exact LeO.none _
      | refine LeO.ite ?_ ?_
      | refine LeO.bind ?_ (fun _ => ?_)
set_option maxHeartbeats 8000000 in
set_option maxRecDepth 100000 in
theorem aquiferref05_Is.calls (k : Nat) (a0 : ByteArray) (r : Bool) (w : World) (h : aquiferref05_Is.f k a0 = some r) :
    Calls Tryd.prog 51 #[.string a0] w fun e w' => e = .returned (.bool r) ∧ Below w.heap.size w w' := by
  have HB := Aside0.mk (Below.refl w.heap.size w)
  have H : ((aquiferref05_Kind.f k a0).bind fun bt252 => (some (bt252.2 == 0))) = some r := h
  clear h
  replace H := Option.bind_eq_some_iff.mp H
  obtain ⟨⟨t252, t253⟩, A20, H⟩ := H
  replace H : (some (t253 == 0)) = some r := H
  have A2 := Aside0.mk A20
  clear A20
  obtain rfl := Option.some.inj H
  go_enter Tryd.func51, Tryd.ntmps51
  go_wp2_with (first | ((with_reducible refine gate_callee (f := 20) rfl ?_); refine goesL_ (some 7) rfl rfl Tryd.func20 (by kernel_rfl) rfl #[.string a0] rfl (by (try simp only [List.map_toArray, List.map_cons, List.map_nil]); first | done | rfl | (simp only [List.length_drop, List.length_take]; rfl)) ?_; (with_reducible refine (aquiferref05_Kind.calls k a0 t252 t253 _ A2.out).mono ?_); rintro e w3 ⟨rfl, hb⟩; refine ⟨_, rfl, ?_⟩; have n0_ := Aside0.mk (below_step (by repeat (first | (with_reducible first | exact HB.out | apply below_alloc | apply pw_below_drewN | apply below_drew1) | exact HB.out)) hb); clear HB; have HB := n0_; clear n0_; (try clear hb); (try clear hb2); (try clear hk); (try clear hi)))
  go_ret
  exact ⟨by first | rfl | (simp [errW_none, errW_some] <;> rfl) | (simp [*, errW_none, errW_some] <;> rfl), by repeat (first | (with_reducible first | exact HB.out | apply below_alloc | apply pw_below_drewN | apply below_drew1) | exact HB.out)⟩

end Go.Proofs.YtfnbadfehelleaaDoor.MPath
