-- PRINTED for Ythpleebfhanahaa by this session's own driver; checked by Lean alone
import Derived.Test.YthpleebfhanahaaMKeyx0
import Derived.Test.YthpleebfhanahaaMKeyx5
import Derived.Test.YthpleebfhanahaaMKeyx6
namespace Go.Proofs.Ythpleebfhanahaa.MKey
open Go.RowKit Go.Proofs.YthpleebfhanahaaW.PrintWords Go.Proofs.YthpleebfhanahaaW.PrintLast Go.Proofs.YthpleebfhanahaaW.PrintMore
attribute [local go_sem] Go.Proofs.Ythpleebfhanahaa.Aid.cell_isSome Go.Proofs.Ythpleebfhanahaa.Aid.string_gtr Go.Proofs.Ythpleebfhanahaa.Aid.string_leq Go.Proofs.Ythpleebfhanahaa.Aid.string_geq
attribute [local go_sem] max2_int min2_int max_two min_two max_three min_three max_four min_four   -- for this text's walks alone
set_option linter.unusedVariables false
set_option linter.unusedSimpArgs false

/-! ### aquiferref03_Decode: function 20 -/
mutual
def aquiferref03_Decode.l0 : Nat → ByteArray → List (S45) → Int → Option ((List (S45)) × Int)
  | 0, _, _, _ => none
  | k + 1, x0, x4, x5 => if x5 < (x0.size : Int) then (if 0 ≤ x5 then (if (bt x0 x5) = 16 then (aquiferref03_Decode.j1 k x0 x4 x5 (decide ((wrap64 ((x0.size : Int) - x5)) ≥ 9))) else (aquiferref03_Decode.j1 k x0 x4 x5 false)) else (none)) else ((aquiferref03_Encode.f k x4).bind fun bt292 => (if bt292.2 = 0 then (if bt292.1.toList = x0.toList then (some (x4, 0)) else (some (([] : List (S45)), 5))) else (some (([] : List (S45)), 5))))
def aquiferref03_Decode.j1 : Nat → ByteArray → List (S45) → Int → Bool → Option ((List (S45)) × Int)
  | 0, _, _, _, _ => none
  | k + 1, x0, x4, x5, x30 => if x30 = true then (aquiferref03_Decode.l1 k x0 x4 x5 0 1) else (aquiferref03_Decode.l2 k x0 x4 x5 (wrap64 (x5 + 1)) 2 0 (⟨#[]⟩ : ByteArray))
def aquiferref03_Decode.l1 : Nat → ByteArray → List (S45) → Int → Int → Int → Option ((List (S45)) × Int)
  | 0, _, _, _, _, _ => none
  | k + 1, x0, x4, x5, x7, x8 => if x8 ≤ 8 then (if 0 ≤ (wrap64 (x5 + x8)) then (if (wrap64 (x5 + x8)) < (x0.size : Int) then (aquiferref03_Decode.l1 k x0 x4 x5 (IntKind.u64.wrap ((IntKind.u64.wrap (x7 * 256)) + (IntKind.u64.wrap (bt x0 (wrap64 (x5 + x8)))))) (wrap64 (x8 + 1))) else (none)) else (none)) else (if x4.length < 4398046511104 then ((aquiferref03_bytes.f k 1 (wrap64 (IntKind.u64.wrap (x7 - 9223372036854775808))) (⟨#[]⟩ : ByteArray)).bind fun t298 => (if (wrap64 ((x0.size : Int) - x5)) < ((strOfNums t298).size : Int) then (some (([] : List (S45)), 5)) else (if 0 ≤ x5 then (if x5 ≤ (wrap64 (x5 + ((strOfNums t298).size : Int))) then (if (wrap64 (x5 + ((strOfNums t298).size : Int))) ≤ (x0.size : Int) then (if (x0.extract (x5 : Int).toNat ((wrap64 (x5 + ((strOfNums t298).size : Int))) : Int).toNat).toList = (strOfNums t298).toList then (aquiferref03_Decode.l0 k x0 (x4 ++ [(⟨1, wrap64 (IntKind.u64.wrap (x7 - 9223372036854775808)), (⟨#[]⟩ : ByteArray)⟩ : S45)]) (wrap64 (x5 + ((strOfNums t298).size : Int)))) else (some (([] : List (S45)), 5))) else (none)) else (none)) else (none)))) else (none))
def aquiferref03_Decode.l2 : Nat → ByteArray → List (S45) → Int → Int → Int → Int → ByteArray → Option ((List (S45)) × Int)
  | 0, _, _, _, _, _, _, _ => none
  | k + 1, x0, x4, x5, x9, x295000, x295001, x295002 => if x9 < (x0.size : Int) then (if 0 ≤ x9 then (if (bt x0 x9) = 0 then (if (wrap64 (x9 + 1)) < (x0.size : Int) then (if 0 ≤ (wrap64 (x9 + 1)) then (aquiferref03_Decode.j4 k x0 x4 x5 x9 (!((bt x0 (wrap64 (x9 + 1))) == 1)) x295000 x295001 x295002) else (none)) else (aquiferref03_Decode.j4 k x0 x4 x5 x9 (!false) x295000 x295001 x295002)) else (aquiferref03_Decode.j4 k x0 x4 x5 x9 (!false) x295000 x295001 x295002)) else (none)) else (aquiferref03_Decode.j4 k x0 x4 x5 x9 false x295000 x295001 x295002)
def aquiferref03_Decode.j4 : Nat → ByteArray → List (S45) → Int → Int → Bool → Int → Int → ByteArray → Option ((List (S45)) × Int)
  | 0, _, _, _, _, _, _, _, _ => none
  | k + 1, x0, x4, x5, x9, x75, x295000, x295001, x295002 => if x75 = true then (if 0 ≤ x9 then (if x9 ≤ (wrap64 (x9 + 1)) then (if (wrap64 (x9 + 1)) ≤ (x0.size : Int) then (if x295002.size + (x0.extract (x9 : Int).toNat ((wrap64 (x9 + 1)) : Int).toNat).size ≤ 9223372036854775807 then (if x9 < (x0.size : Int) then (if (bt x0 x9) = 0 then (aquiferref03_Decode.l2 k x0 x4 x5 (wrap64 ((wrap64 (x9 + 1)) + 1)) x295000 x295001 (x295002 ++ (x0.extract (x9 : Int).toNat ((wrap64 (x9 + 1)) : Int).toNat))) else (aquiferref03_Decode.l2 k x0 x4 x5 (wrap64 (x9 + 1)) x295000 x295001 (x295002 ++ (x0.extract (x9 : Int).toNat ((wrap64 (x9 + 1)) : Int).toNat)))) else (none)) else (none)) else (none)) else (none)) else (none)) else (if x4.length < 4398046511104 then ((aquiferref03_bytes.f k x295000 x295001 x295002).bind fun t304 => (if (wrap64 ((x0.size : Int) - x5)) < ((strOfNums t304).size : Int) then (some (([] : List (S45)), 5)) else (if 0 ≤ x5 then (if x5 ≤ (wrap64 (x5 + ((strOfNums t304).size : Int))) then (if (wrap64 (x5 + ((strOfNums t304).size : Int))) ≤ (x0.size : Int) then (if (x0.extract (x5 : Int).toNat ((wrap64 (x5 + ((strOfNums t304).size : Int))) : Int).toNat).toList = (strOfNums t304).toList then (aquiferref03_Decode.l0 k x0 (x4 ++ [(⟨x295000, x295001, x295002⟩ : S45)]) (wrap64 (x5 + ((strOfNums t304).size : Int)))) else (some (([] : List (S45)), 5))) else (none)) else (none)) else (none)))) else (none))
end
def aquiferref03_Decode.f (k : Nat) (a0 : ByteArray) : Option ((List (S45)) × Int) := if (a0.size : Int) > 140 then (some (([] : List (S45)), 5)) else (aquiferref03_Decode.l0 k a0 ([] : List (S45)) 0)
theorem aquiferref03_Decode.mono_l : ∀ k, (∀ y0 y1 y2, LeO (aquiferref03_Decode.l0 k y0 y1 y2) (aquiferref03_Decode.l0 (k + 1) y0 y1 y2)) ∧ (∀ y0 y1 y2 y3, LeO (aquiferref03_Decode.j1 k y0 y1 y2 y3) (aquiferref03_Decode.j1 (k + 1) y0 y1 y2 y3)) ∧ (∀ y0 y1 y2 y3 y4, LeO (aquiferref03_Decode.l1 k y0 y1 y2 y3 y4) (aquiferref03_Decode.l1 (k + 1) y0 y1 y2 y3 y4)) ∧ (∀ y0 y1 y2 y3 y4 y5 y6, LeO (aquiferref03_Decode.l2 k y0 y1 y2 y3 y4 y5 y6) (aquiferref03_Decode.l2 (k + 1) y0 y1 y2 y3 y4 y5 y6)) ∧ (∀ y0 y1 y2 y3 y4 y5 y6 y7, LeO (aquiferref03_Decode.j4 k y0 y1 y2 y3 y4 y5 y6 y7) (aquiferref03_Decode.j4 (k + 1) y0 y1 y2 y3 y4 y5 y6 y7))
  | 0 => ⟨fun _ _ _ r h => by simp [aquiferref03_Decode.l0] at h, fun _ _ _ _ r h => by simp [aquiferref03_Decode.j1] at h, fun _ _ _ _ _ r h => by simp [aquiferref03_Decode.l1] at h, fun _ _ _ _ _ _ _ r h => by simp [aquiferref03_Decode.l2] at h, fun _ _ _ _ _ _ _ _ r h => by simp [aquiferref03_Decode.j4] at h⟩
  | k + 1 => by
    obtain ⟨ih0, ih1, ih2, ih3, ih4⟩ := aquiferref03_Decode.mono_l k
    refine ⟨?_, ?_, ?_, ?_, ?_⟩
    · intro y0 y1 y2
      unfold aquiferref03_Decode.l0
      repeat' first
      | (with_reducible exact ih0 _ _ _)
      | (with_reducible exact ih1 _ _ _ _)
      | (with_reducible exact ih2 _ _ _ _ _)
      | (with_reducible exact ih3 _ _ _ _ _ _ _)
      | (with_reducible exact ih4 _ _ _ _ _ _ _ _)
      | (with_reducible exact aquiferref03_Encode.mono _ _)
      | (with_reducible exact aquiferref03_bytes.mono _ _ _ _)
      | (with_reducible exact LeO.refl _)
      | (with_reducible exact LeO.none _)
      | (with_reducible refine LeO.ite ?_ ?_)
      | (with_reducible refine LeO.bind ?_ (fun _ => ?_))
      | exact ih0 _ _ _
      | exact ih1 _ _ _ _
      | exact ih2 _ _ _ _ _
      | exact ih3 _ _ _ _ _ _ _
      | exact ih4 _ _ _ _ _ _ _ _
      | exact aquiferref03_Encode.mono _ _
      | exact aquiferref03_bytes.mono _ _ _ _
      | exact LeO.none _
      | refine LeO.ite ?_ ?_
      | refine LeO.bind ?_ (fun _ => ?_)
    · intro y0 y1 y2 y3
      unfold aquiferref03_Decode.j1
      repeat' first
      | (with_reducible exact ih0 _ _ _)
      | (with_reducible exact ih1 _ _ _ _)
      | (with_reducible exact ih2 _ _ _ _ _)
      | (with_reducible exact ih3 _ _ _ _ _ _ _)
      | (with_reducible exact ih4 _ _ _ _ _ _ _ _)
      | (with_reducible exact aquiferref03_Encode.mono _ _)
      | (with_reducible exact aquiferref03_bytes.mono _ _ _ _)
      | (with_reducible exact LeO.refl _)
      | (with_reducible exact LeO.none _)
      | (with_reducible refine LeO.ite ?_ ?_)
      | (with_reducible refine LeO.bind ?_ (fun _ => ?_))
      | exact ih0 _ _ _
      | exact ih1 _ _ _ _
      | exact ih2 _ _ _ _ _
      | exact ih3 _ _ _ _ _ _ _
      | exact ih4 _ _ _ _ _ _ _ _
      | exact aquiferref03_Encode.mono _ _
      | exact aquiferref03_bytes.mono _ _ _ _
      | exact LeO.none _
      | refine LeO.ite ?_ ?_
      | refine LeO.bind ?_ (fun _ => ?_)
    · intro y0 y1 y2 y3 y4
      unfold aquiferref03_Decode.l1
      repeat' first
      | (with_reducible exact ih0 _ _ _)
      | (with_reducible exact ih1 _ _ _ _)
      | (with_reducible exact ih2 _ _ _ _ _)
      | (with_reducible exact ih3 _ _ _ _ _ _ _)
      | (with_reducible exact ih4 _ _ _ _ _ _ _ _)
      | (with_reducible exact aquiferref03_Encode.mono _ _)
      | (with_reducible exact aquiferref03_bytes.mono _ _ _ _)
      | (with_reducible exact LeO.refl _)
      | (with_reducible exact LeO.none _)
      | (with_reducible refine LeO.ite ?_ ?_)
      | (with_reducible refine LeO.bind ?_ (fun _ => ?_))
      | exact ih0 _ _ _
      | exact ih1 _ _ _ _
      | exact ih2 _ _ _ _ _
      | exact ih3 _ _ _ _ _ _ _
      | exact ih4 _ _ _ _ _ _ _ _
      | exact aquiferref03_Encode.mono _ _
      | exact aquiferref03_bytes.mono _ _ _ _
      | exact LeO.none _
      | refine LeO.ite ?_ ?_
      | refine LeO.bind ?_ (fun _ => ?_)
    · intro y0 y1 y2 y3 y4 y5 y6
      unfold aquiferref03_Decode.l2
      repeat' first
      | (with_reducible exact ih0 _ _ _)
      | (with_reducible exact ih1 _ _ _ _)
      | (with_reducible exact ih2 _ _ _ _ _)
      | (with_reducible exact ih3 _ _ _ _ _ _ _)
      | (with_reducible exact ih4 _ _ _ _ _ _ _ _)
      | (with_reducible exact aquiferref03_Encode.mono _ _)
      | (with_reducible exact aquiferref03_bytes.mono _ _ _ _)
      | (with_reducible exact LeO.refl _)
      | (with_reducible exact LeO.none _)
      | (with_reducible refine LeO.ite ?_ ?_)
      | (with_reducible refine LeO.bind ?_ (fun _ => ?_))
      | exact ih0 _ _ _
      | exact ih1 _ _ _ _
      | exact ih2 _ _ _ _ _
      | exact ih3 _ _ _ _ _ _ _
      | exact ih4 _ _ _ _ _ _ _ _
      | exact aquiferref03_Encode.mono _ _
      | exact aquiferref03_bytes.mono _ _ _ _
      | exact LeO.none _
      | refine LeO.ite ?_ ?_
      | refine LeO.bind ?_ (fun _ => ?_)
    · intro y0 y1 y2 y3 y4 y5 y6 y7
      unfold aquiferref03_Decode.j4
      repeat' first
      | (with_reducible exact ih0 _ _ _)
      | (with_reducible exact ih1 _ _ _ _)
      | (with_reducible exact ih2 _ _ _ _ _)
      | (with_reducible exact ih3 _ _ _ _ _ _ _)
      | (with_reducible exact ih4 _ _ _ _ _ _ _ _)
      | (with_reducible exact aquiferref03_Encode.mono _ _)
      | (with_reducible exact aquiferref03_bytes.mono _ _ _ _)
      | (with_reducible exact LeO.refl _)
      | (with_reducible exact LeO.none _)
      | (with_reducible refine LeO.ite ?_ ?_)
      | (with_reducible refine LeO.bind ?_ (fun _ => ?_))
      | exact ih0 _ _ _
      | exact ih1 _ _ _ _
      | exact ih2 _ _ _ _ _
      | exact ih3 _ _ _ _ _ _ _
      | exact ih4 _ _ _ _ _ _ _ _
      | exact aquiferref03_Encode.mono _ _
      | exact aquiferref03_bytes.mono _ _ _ _
      | exact LeO.none _
      | refine LeO.ite ?_ ?_
      | refine LeO.bind ?_ (fun _ => ?_)
theorem aquiferref03_Decode.mono : ∀ a0 k, LeO (aquiferref03_Decode.f k a0) (aquiferref03_Decode.f (k + 1) a0) := by
  intro a0 k
  obtain ⟨ih0, ih1, ih2, ih3, ih4⟩ := aquiferref03_Decode.mono_l k
  unfold aquiferref03_Decode.f
  repeat' first
      | (with_reducible exact ih0 _ _ _)
      | (with_reducible exact ih1 _ _ _ _)
      | (with_reducible exact ih2 _ _ _ _ _)
      | (with_reducible exact ih3 _ _ _ _ _ _ _)
      | (with_reducible exact ih4 _ _ _ _ _ _ _ _)
      | (with_reducible exact aquiferref03_Encode.mono _ _)
      | (with_reducible exact aquiferref03_bytes.mono _ _ _ _)
      | (with_reducible exact LeO.refl _)
      | (with_reducible exact LeO.none _)
      | (with_reducible refine LeO.ite ?_ ?_)
      | (with_reducible refine LeO.bind ?_ (fun _ => ?_))
      | exact ih0 _ _ _
      | exact ih1 _ _ _ _
      | exact ih2 _ _ _ _ _
      | exact ih3 _ _ _ _ _ _ _
      | exact ih4 _ _ _ _ _ _ _ _
      | exact aquiferref03_Encode.mono _ _
      | exact aquiferref03_bytes.mono _ _ _ _
      | exact LeO.none _
      | refine LeO.ite ?_ ?_
      | refine LeO.bind ?_ (fun _ => ?_)
def aquiferref03_Decode.T17 : Bool × List (List Nat × List Nat) := (true, [([], []), ([0], [0]), ([], []), ([], []), ([], []), ([4], [4]), ([2, 3, 5], [2, 3, 5]), ([1, 6], [1, 6]), ([0, 1, 2, 3, 4, 5, 6, 7], []), ([8, 7, 0, 1, 2, 3, 4, 5, 6, 7], [7, 8])])
def aquiferref03_Decode.B17 : List Nat := [0, 1, 0, 0, 0, 16, 60, 127, 255, 511]
theorem aquiferref03_Decode.tab17 : rtab .any (opsOf Try.f20 17) = aquiferref03_Decode.T17 := by kernel_rfl
theorem aquiferref03_Decode.bits17 : waitsOk aquiferref03_Decode.T17.2 aquiferref03_Decode.B17 = true := by kernel_rfl
set_option maxHeartbeats 8000000 in
set_option maxRecDepth 100000 in
theorem aquiferref03_Decode.calls (k : Nat) (a0 : ByteArray) (r1 : List (S45)) (r2 : Int) (w : World) (h : aquiferref03_Decode.f k a0 = some (r1, r2)) :
    Calls Try.prog 20 #[.string a0] w fun e w' => ∃ v0_ : Value, e = .returned (.tuple #[v0_, .int .i64 r2]) ∧ Kd.R k45 45 w' w.heap.size (fun _ => True) v0_ r1 ∧ Below w.heap.size w w' := by
  have hu45 := Try.underlying45
  have HB := Aside0.mk (Below.refl w.heap.size w)
  have H : (if (a0.size : Int) > 140 then (some (([] : List (S45)), 5)) else (aquiferref03_Decode.l0 k a0 ([] : List (S45)) 0)) = some (r1, r2) := h
  clear h
  by_cases c2 : (a0.size : Int) > 140
  · rw [if_pos c2] at H
    have c2b0 : decide (140 < (a0.size : Int)) = true := decide_eq_true c2
    have c2b1 : decide (140 < a0.size) = true := decide_eq_true (by omega)
    clear c2
    simp only [Option.some.injEq, Prod.mk.injEq] at H
    obtain ⟨rfl, rfl⟩ := H
    go_enter Try.func20, Try.ntmps20
    go_wp2
    go_ret2
    exact ⟨_, by first | rfl | (simp [errW_none, errW_some] <;> rfl) | (simp [*, errW_none, errW_some] <;> rfl), by first | exact Kd.R_nil _ _ _ _ _ | exact Kd.N_nil _ _ _ _ _ | exact Kd.V_nil _ _ _ _ _ | exact Kd.Q_nil _ _ _ _ _ | exact Kd.S_nil _ _ _ _ _, by repeat (first | (with_reducible first | exact HB.out | apply below_alloc | apply pw_below_drewN | apply below_drew1) | exact HB.out)⟩
  · rw [if_neg c2] at H
    have c2b0 : decide (140 < (a0.size : Int)) = false := decide_eq_false c2
    have c2b1 : decide (140 < a0.size) = false := decide_eq_false (by omega)
    clear c2
    have H' := Aside0.mk H
    clear H
    go_enter Try.func20, Try.ntmps20
    go_wp2
    go_loopg [4, 5] k (fun kq v4 v5 w' => ∃ (x4_1 : List (S45)) (x5_1 : Int), v5 = .int .i64 x5_1 ∧ Aside0 (aquiferref03_Decode.l0 kq a0 x4_1 x5_1 = some (r1, r2)) ∧ Aside0 (kq ≤ k) ∧ Aside0 (Kd.R k45 45 w' w.heap.size (fun _ => True) v4 x4_1) ∧ Aside0 (Below w.heap.size w w'))
    case atStart => exact ⟨(([] : List (S45))), (0), (by first | rfl | (simp; done) | (simp [*]; done)), H', ⟨Nat.le_refl _⟩, ⟨by first | exact Kd.R_nil _ _ _ _ _ | exact Kd.N_nil _ _ _ _ _ | exact Kd.V_nil _ _ _ _ _ | exact Kd.Q_nil _ _ _ _ _ | exact Kd.S_nil _ _ _ _ _⟩, ⟨by repeat (first | (with_reducible first | exact HB.out | apply below_alloc | apply pw_below_drewN | apply below_drew1) | exact HB.out)⟩⟩
    case round =>
      clear H'
      try clear c2
      try clear c2b0
      try clear c2b1
      try clear p2
      obtain ⟨x4_1, x5_1, rfl, HA, HK1, HO_4, HB⟩ := hrel
      cases gk with
      | zero => exact absurd HA.out (by simp [aquiferref03_Decode.l0])
      | succ k1 =>
        have H := HA.out
        clear HA
        simp only [aquiferref03_Decode.l0] at H
        by_cases c3 : x5_1 < (a0.size : Int)
        · rw [if_pos c3] at H
          have c3b0 : decide (x5_1 < (a0.size : Int)) = true := decide_eq_true c3
          clear c3
          have HC4 := Aside0.mk H
          clear H
          go_upto_region 7 with (first | ((with_reducible refine gate_dst (N := 6) rfl ?_); (try (refine gate_guard (by rfl) ?_; dsimp only)); refine box_event ?hg (N := 6) ?hd (cs := #[.int .i64 0, .int .i64 0, .string (⟨#[]⟩ : ByteArray)]) (t := 45) ?hr ?_; (case hd => rfl); (case hg => rfl); (case hr => first | (go_simp; done) | (go_simp; rfl)); intro gb294 hg w5 hbox hb; have n0_ := Aside0.mk (Kd.R_below (Kd.R_elderB (by (with_reducible repeat (first | apply Kd.R_alloc | apply Kd.R_drewN | apply Kd.R_drew)); exact HO_4.out) gb294 (Nat.le_of_eq hg.symm)) hb); have n1_ := Aside0.mk (below_step (by repeat (first | (with_reducible first | exact HB.out | apply below_alloc | apply pw_below_drewN | apply below_drew1) | exact HB.out)) hb); have n2_ := Aside0.mk (hbox); have n3_ := Aside0.mk ((by rw [hg]; exact (below_size (by repeat (first | (with_reducible first | exact HB.out | apply below_alloc | apply pw_below_drewN | apply below_drew1) | exact HB.out))) : w.heap.size ≤ gb294)); have n4_ := Aside0.mk ((by rw [hg]; exact (below_size (by repeat (first | (with_reducible first | exact HB.out | apply below_alloc | apply pw_below_drewN | apply below_drew1) | exact HB.out))) : w.heap.size ≤ gb294)); clear HO_4; clear HB; have HO_4 := n0_; have HB := n1_; have BK294 := n2_; have GW294 := n3_; have GE294 := n4_; clear n0_ n1_ n2_ n3_ n4_; clear hb hbox hg))
          (try simp only [Act.put, List.setIfInBounds_toArray, List.set_cons_zero, List.set_cons_succ])
          go_cut [30] (fun v30 wc => ∃ (kq : Nat) (x30_3 : Bool), v30 = .bool x30_3 ∧ Aside0 (aquiferref03_Decode.j1 kq a0 x4_1 x5_1 x30_3 = some (r1, r2)) ∧ Aside0 (kq ≤ k1) ∧ Aside0 (Kd.R k45 45 wc w.heap.size (fun k_ => k_ ≠ gb294) u4 x4_1) ∧ Aside0 (wc.heap[gb294]? = some (.cells #[.int .i64 0, .int .i64 0, .string (⟨#[]⟩ : ByteArray)] 45 (0, 0))) ∧ Aside0 (Below w.heap.size w wc))
          case first =>
            have H := HC4.out
            clear HC4
            by_cases c6 : 0 ≤ x5_1
            · rw [if_pos c6] at H
              have c6b0 : decide (0 ≤ x5_1) = true := decide_eq_true c6
              clear c6
              (first | rw [c6b0] | (simp only [i64_w, i32_w]; rw [c6b0]) | rw [c6b1] | rw [c6b2] | skip)
              by_cases c8 : (bt a0 x5_1) = 16
              · rw [if_pos c8] at H
                have c8b0 : ((bt a0 x5_1) == 16) = true := beq_iff_eq.mpr c8
                have c8b1 : ((bt a0 x5_1) != 16) = false := bne_eq_false_iff_eq.mpr c8
                clear c8
                have H' := Aside0.mk H
                clear H
                have p7 : 0 ≤ (x5_1 : Int) := of_decide_eq_true (by first | (with_reducible assumption) | assumption)
                have q7 : x5_1 < (a0.size : Int) := of_decide_eq_true (by first | (with_reducible assumption) | assumption)
                have hx7 := bt_at a0 x5_1
                replace p7 := eq_true p7
                replace q7 := eq_true q7
                go_wp2
                go_meet
                case rel => exact ⟨_, (decide ((wrap64 ((a0.size : Int) - x5_1)) ≥ 9)), (by first | rfl | (simp; done) | (simp [*]; done)), H', ⟨by have := HK1.out; first | omega | exact Nat.le_refl _⟩, ⟨by (with_reducible repeat (first | apply Kd.R_alloc | apply Kd.R_drewN | apply Kd.R_drew)); exact Kd.R_mono HO_4.out (fun _ hk => hk.2)⟩, ⟨by (with_reducible repeat (first | refine blk_drewN ?_ _ | refine blk_drew ?_ | refine blk_alloc ?_ _)); exact BK294.out⟩, ⟨by repeat (first | (with_reducible first | exact HB.out | apply below_alloc | apply pw_below_drewN | apply below_drew1 | refine below_set ?_ GE294.out) | exact HB.out)⟩⟩
              · rw [if_neg c8] at H
                have c8b0 : ((bt a0 x5_1) == 16) = false := beq_eq_false_iff_ne.mpr c8
                have c8b1 : ((bt a0 x5_1) != 16) = true := bne_iff_ne.mpr c8
                have H' := Aside0.mk H
                clear H
                have p7 : 0 ≤ (x5_1 : Int) := of_decide_eq_true (by first | (with_reducible assumption) | assumption)
                have q7 : x5_1 < (a0.size : Int) := of_decide_eq_true (by first | (with_reducible assumption) | assumption)
                have hx7 := bt_at a0 x5_1
                replace p7 := eq_true p7
                replace q7 := eq_true q7
                go_wp2
                go_meet
                case rel => exact ⟨_, (false), (by first | rfl | (simp; done) | (simp [*]; done)), H', ⟨by have := HK1.out; first | omega | exact Nat.le_refl _⟩, ⟨by (with_reducible repeat (first | apply Kd.R_alloc | apply Kd.R_drewN | apply Kd.R_drew)); exact Kd.R_mono HO_4.out (fun _ hk => hk.2)⟩, ⟨by (with_reducible repeat (first | refine blk_drewN ?_ _ | refine blk_drew ?_ | refine blk_alloc ?_ _)); exact BK294.out⟩, ⟨by repeat (first | (with_reducible first | exact HB.out | apply below_alloc | apply pw_below_drewN | apply below_drew1 | refine below_set ?_ GE294.out) | exact HB.out)⟩⟩
            · rw [if_neg c6] at H
              exact absurd H (by simp)
          case rest =>
            clear HC4
            try clear c2
            try clear c2b0
            try clear c2b1
            try clear p2
            try clear c3
            try clear c3b0
            try clear c6
            try clear c6b0
            try clear c6b1
            try clear c6b2
            try clear p6
            try clear p7
            try clear q7
            try clear hx7
            try clear c8
            try clear c8b0
            try clear c8b1
            try clear p2
            try clear p7
            try clear q7
            obtain ⟨kq, x30_3, rfl, HA, HJ3, HO_4, BK294, HB⟩ := hcut
            cases kq with
            | zero => exact absurd HA.out (by simp [aquiferref03_Decode.j1])
            | succ kj3 =>
              have H := HA.out
              clear HA
              simp only [aquiferref03_Decode.j1] at H
              by_cases c9 : x30_3 = true
              · subst c9
                have H1 : (aquiferref03_Decode.l1 kj3 a0 x4_1 x5_1 0 1) = some (r1, r2) := by rw [if_pos rfl] at H; exact H
                clear H
                have H := H1
                clear H1
                have H' := Aside0.mk H
                clear H
                go_wp2
                go_loopg [7, 8] kj3 (fun kq v7 v8 w' => ∃ (x7_3 : Int) (x8_3 : Int), v7 = .int .u64 x7_3 ∧ v8 = .int .i64 x8_3 ∧ Aside0 (aquiferref03_Decode.l1 kq a0 x4_1 x5_1 x7_3 x8_3 = some (r1, r2)) ∧ Aside0 (kq ≤ kj3) ∧ Aside0 (Kd.R k45 45 w' w.heap.size (fun k_ => k_ ≠ gb294) u4 x4_1) ∧ Aside0 (w'.heap[gb294]? = some (.cells #[.int .i64 0, .int .i64 0, .string (⟨#[]⟩ : ByteArray)] 45 (0, 0))) ∧ Aside0 (Below w.heap.size w w'))
                case atStart => exact ⟨(0), (1), (by first | rfl | (simp; done) | (simp [*]; done)), (by first | rfl | (simp; done) | (simp [*]; done)), H', ⟨Nat.le_refl _⟩, ⟨by (with_reducible repeat (first | apply Kd.R_alloc | apply Kd.R_drewN | apply Kd.R_drew)); exact HO_4.out⟩, ⟨by (with_reducible repeat (first | refine blk_drewN ?_ _ | refine blk_drew ?_ | refine blk_alloc ?_ _)); exact BK294.out⟩, ⟨by repeat (first | (with_reducible first | exact HB.out | apply below_alloc | apply pw_below_drewN | apply below_drew1 | refine below_set ?_ GE294.out) | exact HB.out)⟩⟩
                case round =>
                  clear H'
                  try clear c2
                  try clear c2b0
                  try clear c2b1
                  try clear p2
                  try clear c3
                  try clear c3b0
                  try clear c6
                  try clear c6b0
                  try clear c6b1
                  try clear c6b2
                  try clear p6
                  try clear p7
                  try clear q7
                  try clear hx7
                  try clear c8
                  try clear c8b0
                  try clear c8b1
                  try clear c9
                  try clear p2
                  try clear p6
                  try clear p7
                  try clear q7
                  obtain ⟨x7_3, x8_3, rfl, rfl, HA, HK3, HO_4, BK294, HB⟩ := hrel
                  cases gk with
                  | zero => exact absurd HA.out (by simp [aquiferref03_Decode.l1])
                  | succ k3 =>
                    have H := HA.out
                    clear HA
                    simp only [aquiferref03_Decode.l1] at H
                    by_cases c10 : x8_3 ≤ 8
                    · rw [if_pos c10] at H
                      have c10b0 : decide (x8_3 ≤ 8) = true := decide_eq_true c10
                      clear c10
                      obtain ⟨ji11, hji11⟩ : ∃ j_ : Int, (wrap64 (x5_1 + x8_3)) = j_ := ⟨_, rfl⟩
                      replace H : (if 0 ≤ (ji11) then (if (ji11) < (a0.size : Int) then (aquiferref03_Decode.l1 k3 a0 x4_1 x5_1 (IntKind.u64.wrap ((IntKind.u64.wrap (x7_3 * 256)) + (IntKind.u64.wrap (bt a0 (ji11))))) (wrap64 (x8_3 + 1))) else (none)) else (none)) = some (r1, r2) := by first | (rw [hji11] at H; exact H) | (simp only [hji11] at H ⊢; exact H)
                      have hji11w : (IntKind.i64.wrap (x5_1 + x8_3)) = ji11 := (i64_w _).trans hji11
                      by_cases c12 : 0 ≤ (ji11)
                      · rw [if_pos c12] at H
                        have c12b0 : decide (0 ≤ (ji11)) = true := decide_eq_true c12
                        clear c12
                        by_cases c13 : (ji11) < (a0.size : Int)
                        · rw [if_pos c13] at H
                          have c13b0 : decide ((ji11) < (a0.size : Int)) = true := decide_eq_true c13
                          clear c13
                          have H' := Aside0.mk H
                          clear H
                          have p14 : 0 ≤ ((ji11) : Int) := of_decide_eq_true (by first | (with_reducible assumption) | assumption)
                          have q14 : (ji11) < (a0.size : Int) := of_decide_eq_true (by first | (with_reducible assumption) | assumption)
                          have hx14 := bt_at a0 (ji11)
                          replace p14 := eq_true p14
                          replace q14 := eq_true q14
                          go_wp2
                          go_roundg k3
                          case measure => have := HK1.out; have := HJ3.out; have := HK3.out; omega
                          case rel => exact ⟨(IntKind.u64.wrap ((IntKind.u64.wrap (x7_3 * 256)) + (IntKind.u64.wrap (bt a0 (ji11))))), (wrap64 (x8_3 + 1)), (by first | rfl | (simp; done) | (simp only [← hji11] <;> (first | rfl | simp)) | (simp [*]; done)), (by first | rfl | (simp; done) | (simp [*]; done)), H', ⟨by have := HK1.out; have := HJ3.out; have := HK3.out; omega⟩, ⟨by (with_reducible repeat (first | apply Kd.R_alloc | apply Kd.R_drewN | apply Kd.R_drew)); exact HO_4.out⟩, ⟨by (with_reducible repeat (first | refine blk_drewN ?_ _ | refine blk_drew ?_ | refine blk_alloc ?_ _)); exact BK294.out⟩, ⟨by repeat (first | (with_reducible first | exact HB.out | apply below_alloc | apply pw_below_drewN | apply below_drew1 | refine below_set ?_ GE294.out) | exact HB.out)⟩⟩
                        · rw [if_neg c13] at H
                          exact absurd H (by simp)
                      · rw [if_neg c12] at H
                        exact absurd H (by simp)
                    · rw [if_neg c10] at H
                      have c10b0 : decide (x8_3 ≤ 8) = false := decide_eq_false c10
                      clear c10
                      by_cases c15 : x4_1.length < 4398046511104
                      · rw [if_pos c15] at H
                        have LMc15 := Aside0.mk c15
                        clear c15
                        obtain ⟨y295, hy295⟩ : ∃ y_ : List (S45), y_ = (x4_1 ++ [(⟨1, wrap64 (IntKind.u64.wrap (x7_3 - 9223372036854775808)), (⟨#[]⟩ : ByteArray)⟩ : S45)]) := ⟨_, rfl⟩
                        replace H : ((aquiferref03_bytes.f k3 1 (wrap64 (IntKind.u64.wrap (x7_3 - 9223372036854775808))) (⟨#[]⟩ : ByteArray)).bind fun t298 => (if (wrap64 ((a0.size : Int) - x5_1)) < ((strOfNums t298).size : Int) then (some (([] : List (S45)), 5)) else (if 0 ≤ x5_1 then (if x5_1 ≤ (wrap64 (x5_1 + ((strOfNums t298).size : Int))) then (if (wrap64 (x5_1 + ((strOfNums t298).size : Int))) ≤ (a0.size : Int) then (if (a0.extract (x5_1 : Int).toNat ((wrap64 (x5_1 + ((strOfNums t298).size : Int))) : Int).toNat).toList = (strOfNums t298).toList then (aquiferref03_Decode.l0 k3 a0 y295 (wrap64 (x5_1 + ((strOfNums t298).size : Int)))) else (some (([] : List (S45)), 5))) else (none)) else (none)) else (none)))) = some (r1, r2) := by first | (rw [hy295]; with_reducible exact H) | (have H2_ := (Option.bind_some _ _).symm.trans H; rw [hy295]; with_reducible exact H2_) | (have H2_ := (Option.bind_some _ _).symm.trans H; with_reducible exact H2_) | with_reducible exact H | (rw [hy295]; exact H) | exact H
                        have Ny295 := Aside0.mk hy295
                        clear hy295
                        replace H := Option.bind_eq_some_iff.mp H
                        obtain ⟨t298, A160, H⟩ := H
                        replace H : (if (wrap64 ((a0.size : Int) - x5_1)) < ((strOfNums t298).size : Int) then (some (([] : List (S45)), 5)) else (if 0 ≤ x5_1 then (if x5_1 ≤ (wrap64 (x5_1 + ((strOfNums t298).size : Int))) then (if (wrap64 (x5_1 + ((strOfNums t298).size : Int))) ≤ (a0.size : Int) then (if (a0.extract (x5_1 : Int).toNat ((wrap64 (x5_1 + ((strOfNums t298).size : Int))) : Int).toNat).toList = (strOfNums t298).toList then (aquiferref03_Decode.l0 k3 a0 y295 (wrap64 (x5_1 + ((strOfNums t298).size : Int)))) else (some (([] : List (S45)), 5))) else (none)) else (none)) else (none))) = some (r1, r2) := H
                        have A16 := Aside0.mk A160
                        clear A160
                        by_cases c17 : (wrap64 ((a0.size : Int) - x5_1)) < ((strOfNums t298).size : Int)
                        · rw [if_pos c17] at H
                          have c17b0 : decide ((wrap64 ((a0.size : Int) - x5_1)) < ((strOfNums t298).size : Int)) = true := decide_eq_true c17
                          clear c17
                          simp only [Option.some.injEq, Prod.mk.injEq] at H
                          obtain ⟨rfl, rfl⟩ := H
                          have hcz18_0 : wr.cell? ⟨gb294, 0, none⟩ = some (.int .i64 0) := (blk_cell BK294.out 0).trans rfl
                          have hcz18_1 : wr.cell? ⟨gb294, 1, none⟩ = some (.int .i64 0) := (blk_cell BK294.out 1).trans rfl
                          have hcz18_2 : wr.cell? ⟨gb294, 2, none⟩ = some (.string (⟨#[]⟩ : ByteArray)) := (blk_cell BK294.out 2).trans rfl
                          have hfz18_0 := blk_frozen BK294.out 0
                          have hfz18_1 := blk_frozen BK294.out 1
                          have hfz18_2 := blk_frozen BK294.out 2
                          go_wp2_with (first | ((with_reducible refine gate_builtin (b := .append) (xs := #[.tmp 93, .tmp 95]) rfl ?_); (try (refine gate_guard (by rfl) ?_; dsimp only)); at_builtin; refine Kd.R_append k45 (w0 := w) w.heap.size rfl (.tmp 93) (.tmp 95) 22 45 (.agg #[(.int .i64 0), (.int .i64 0), (.string ⟨#[]⟩)]) 32 rfl Try.underlying22 info45 rfl (by decide) (by omega) u4 x4_1 (⟨1, wrap64 (IntKind.u64.wrap (x7_3 - 9223372036854775808)), (⟨#[]⟩ : ByteArray)⟩ : S45) [.int .i64 1, .int .i64 (wrap64 (IntKind.u64.wrap (x7_3 - 9223372036854775808))), .string (⟨#[]⟩ : ByteArray)] (fun k_ => k_ ≠ gb294) (fun _ => False) rfl (by first | (go_simp; done) | (go_simp; rfl)) ?aP (fun _ hk => hk.elim) ?aF ?aO ?aB ?aS ?aL ?_; (case aP => exact k45_mkM _ _ _ (⟨1, wrap64 (IntKind.u64.wrap (x7_3 - 9223372036854775808)), (⟨#[]⟩ : ByteArray)⟩ : S45)); (case aB => exact (by repeat (first | (with_reducible first | exact HB.out | apply below_alloc | apply pw_below_drewN | apply below_drew1 | refine below_set ?_ GE294.out) | exact HB.out))); (case aF => exact (fun k_ hk => Kd.freshB (g := gb294) (o := .cells #[.int .i64 1, .int .i64 (wrap64 (IntKind.u64.wrap (x7_3 - 9223372036854775808))), .string (⟨#[]⟩ : ByteArray)] 45 (0, 0)) (by (with_reducible repeat (first | refine blk_drewN ?_ _ | refine blk_drew ?_ | refine blk_alloc ?_ _)); refine blk_put (cs := #[.int .i64 1, .int .i64 (wrap64 (IntKind.u64.wrap (x7_3 - 9223372036854775808))), .string (⟨#[]⟩ : ByteArray)]) ?_ 2 _ rfl; (with_reducible repeat (first | refine blk_drewN ?_ _ | refine blk_drew ?_ | refine blk_alloc ?_ _)); refine blk_put (cs := #[.int .i64 1, .int .i64 0, .string (⟨#[]⟩ : ByteArray)]) ?_ 1 _ rfl; (with_reducible repeat (first | refine blk_drewN ?_ _ | refine blk_drew ?_ | refine blk_alloc ?_ _)); refine blk_put (cs := #[.int .i64 0, .int .i64 0, .string (⟨#[]⟩ : ByteArray)]) ?_ 0 _ rfl; (with_reducible repeat (first | refine blk_drewN ?_ _ | refine blk_drew ?_ | refine blk_alloc ?_ _)); exact BK294.out) k_ hk)); (case aO => exact (by (with_reducible repeat (first | apply Kd.R_alloc | apply Kd.R_drewN | apply Kd.R_drew)); exact Kd.R_mono (Kd.R_far (p := ⟨gb294, 2, none⟩) (Kd.R_far (p := ⟨gb294, 1, none⟩) (Kd.R_far (p := ⟨gb294, 0, none⟩) (Kd.R_mono HO_4.out (fun k_ hk => (⟨hk, hk⟩ : _ ∧ k_ ≠ gb294))) (fun _ hk => hk.2) (.int .i64 1)) (fun _ hk => hk.2) (.int .i64 (wrap64 (IntKind.u64.wrap (x7_3 - 9223372036854775808))))) (fun _ hk => hk.2) (.string (⟨#[]⟩ : ByteArray))) (fun _ hk => hk.1))); (case aS => exact (below_size (by repeat (first | (with_reducible first | exact HB.out | apply below_alloc | apply pw_below_drewN | apply below_drew1 | refine below_set ?_ GE294.out) | exact HB.out)))); (case aL => have := LMc15.out; omega); intro v296 w19 ho hb hg hat; rw [← Ny295.out] at ho; have n0_ := Aside0.mk (blk_grown (g := gb294) (o := .cells #[.int .i64 1, .int .i64 (wrap64 (IntKind.u64.wrap (x7_3 - 9223372036854775808))), .string (⟨#[]⟩ : ByteArray)] 45 (0, 0)) (by (with_reducible repeat (first | refine blk_drewN ?_ _ | refine blk_drew ?_ | refine blk_alloc ?_ _)); refine blk_put (cs := #[.int .i64 1, .int .i64 (wrap64 (IntKind.u64.wrap (x7_3 - 9223372036854775808))), .string (⟨#[]⟩ : ByteArray)]) ?_ 2 _ rfl; (with_reducible repeat (first | refine blk_drewN ?_ _ | refine blk_drew ?_ | refine blk_alloc ?_ _)); refine blk_put (cs := #[.int .i64 1, .int .i64 0, .string (⟨#[]⟩ : ByteArray)]) ?_ 1 _ rfl; (with_reducible repeat (first | refine blk_drewN ?_ _ | refine blk_drew ?_ | refine blk_alloc ?_ _)); refine blk_put (cs := #[.int .i64 0, .int .i64 0, .string (⟨#[]⟩ : ByteArray)]) ?_ 0 _ rfl; (with_reducible repeat (first | refine blk_drewN ?_ _ | refine blk_drew ?_ | refine blk_alloc ?_ _)); exact BK294.out) hg (Kd.R_away HO_4.out (fun _ hk => hk))); have n1_ := Aside0.mk (hb); have n2_ := Aside0.mk (ho); clear BK294; clear HB; clear HO_4; have BK294 := n0_; have HB := n1_; have HO297 := n2_; clear n0_ n1_ n2_; clear ho hb hg hat; have hcz20_0 : w19.cell? ⟨gb294, 0, none⟩ = some (.int .i64 1) := (blk_cell BK294.out 0).trans rfl; have hcz20_1 : w19.cell? ⟨gb294, 1, none⟩ = some (.int .i64 (wrap64 (IntKind.u64.wrap (x7_3 - 9223372036854775808)))) := (blk_cell BK294.out 1).trans rfl; have hcz20_2 : w19.cell? ⟨gb294, 2, none⟩ = some (.string (⟨#[]⟩ : ByteArray)) := (blk_cell BK294.out 2).trans rfl; have hfz20_0 := blk_frozen BK294.out 0; have hfz20_1 := blk_frozen BK294.out 1; have hfz20_2 := blk_frozen BK294.out 2) | ((with_reducible refine gate_callee (f := 25) rfl ?_); refine goesL_ (some 98) rfl rfl Try.func25 (by kernel_rfl) rfl #[.agg #[.int .i64 1, .int .i64 (wrap64 (IntKind.u64.wrap (x7_3 - 9223372036854775808))), .string (⟨#[]⟩ : ByteArray)]] rfl (by (try simp only [List.map_toArray, List.map_cons, List.map_nil]); first | done | rfl | (simp only [List.length_drop, List.length_take]; rfl)) ?_; (with_reducible refine (aquiferref03_bytes.calls k3 1 (wrap64 (IntKind.u64.wrap (x7_3 - 9223372036854775808))) (⟨#[]⟩ : ByteArray) t298 _ A16.out).mono ?_); rintro e w21 ⟨v299, rfl, ho0, hb⟩; refine ⟨_, rfl, ?_⟩; have n0_ := Aside0.mk (Kd.R_below (by (with_reducible repeat (first | apply Kd.R_alloc | apply Kd.R_drewN | apply Kd.R_drew)); exact HO297.out) hb); have n1_ := Aside0.mk (Kd.R_lower ho0 (below_size (by repeat (first | (with_reducible first | exact HB.out | apply below_alloc | apply pw_below_drewN | apply below_drew1 | refine below_set ?_ GE294.out) | exact HB.out)))); have n2_ := Aside0.mk (blk_below (g := gb294) (o := .cells #[.int .i64 1, .int .i64 (wrap64 (IntKind.u64.wrap (x7_3 - 9223372036854775808))), .string (⟨#[]⟩ : ByteArray)] 45 (0, 0)) (by (with_reducible repeat (first | refine blk_drewN ?_ _ | refine blk_drew ?_ | refine blk_alloc ?_ _)); exact BK294.out) hb); have n3_ := Aside0.mk (below_step (by repeat (first | (with_reducible first | exact HB.out | apply below_alloc | apply pw_below_drewN | apply below_drew1 | refine below_set ?_ GE294.out) | exact HB.out)) hb); clear HO297; clear BK294; clear HB; have HO297 := n0_; have HO300 := n1_; have BK294 := n2_; have HB := n3_; clear n0_ n1_ n2_ n3_; (try clear hb); (try clear hb2); (try clear hk); (try clear hi); (try clear ho0); have hcv22 := own_string (P := Try.prog) Try.underlying46 Try.underlying5 Try.underlying9 (Kd.own_of_R HO300.out)))
                          go_ret2
                          exact ⟨_, by first | rfl | (simp [errW_none, errW_some] <;> rfl) | (simp [*, errW_none, errW_some] <;> rfl), by first | exact Kd.R_nil _ _ _ _ _ | exact Kd.N_nil _ _ _ _ _ | exact Kd.V_nil _ _ _ _ _ | exact Kd.Q_nil _ _ _ _ _ | exact Kd.S_nil _ _ _ _ _, by repeat (first | (with_reducible first | exact HB.out | apply below_alloc | apply pw_below_drewN | apply below_drew1 | refine below_set ?_ GE294.out) | exact HB.out)⟩
                        · rw [if_neg c17] at H
                          have c17b0 : decide ((wrap64 ((a0.size : Int) - x5_1)) < ((strOfNums t298).size : Int)) = false := decide_eq_false c17
                          clear c17
                          by_cases c23 : 0 ≤ x5_1
                          · rw [if_pos c23] at H
                            have c23b0 := eq_true c23
                            have c23b1 : decide (0 ≤ x5_1) = true := decide_eq_true c23
                            clear c23
                            by_cases c24 : x5_1 ≤ (wrap64 (x5_1 + ((strOfNums t298).size : Int)))
                            · rw [if_pos c24] at H
                              have c24b0 := eq_true c24
                              have c24b1 : decide (x5_1 ≤ (wrap64 (x5_1 + ((strOfNums t298).size : Int)))) = true := decide_eq_true c24
                              by_cases c25 : (wrap64 (x5_1 + ((strOfNums t298).size : Int))) ≤ (a0.size : Int)
                              · rw [if_pos c25] at H
                                have c25b0 := eq_true c25
                                have c25b1 : decide ((wrap64 (x5_1 + ((strOfNums t298).size : Int))) ≤ (a0.size : Int)) = true := decide_eq_true c25
                                by_cases c26 : (a0.extract (x5_1 : Int).toNat ((wrap64 (x5_1 + ((strOfNums t298).size : Int))) : Int).toNat).toList = (strOfNums t298).toList
                                · rw [if_pos c26] at H
                                  have c26b0 : ((a0.extract (x5_1 : Int).toNat ((wrap64 (x5_1 + ((strOfNums t298).size : Int))) : Int).toNat).toList == (strOfNums t298).toList) = true := beq_iff_eq.mpr c26
                                  have c26b1 : ((a0.extract (x5_1 : Int).toNat ((wrap64 (x5_1 + ((strOfNums t298).size : Int))) : Int).toNat).toList != (strOfNums t298).toList) = false := bne_eq_false_iff_eq.mpr c26
                                  clear c26
                                  have H' := Aside0.mk H
                                  clear H
                                  have hcz27_0 : wr.cell? ⟨gb294, 0, none⟩ = some (.int .i64 0) := (blk_cell BK294.out 0).trans rfl
                                  have hcz27_1 : wr.cell? ⟨gb294, 1, none⟩ = some (.int .i64 0) := (blk_cell BK294.out 1).trans rfl
                                  have hcz27_2 : wr.cell? ⟨gb294, 2, none⟩ = some (.string (⟨#[]⟩ : ByteArray)) := (blk_cell BK294.out 2).trans rfl
                                  have hfz27_0 := blk_frozen BK294.out 0
                                  have hfz27_1 := blk_frozen BK294.out 1
                                  have hfz27_2 := blk_frozen BK294.out 2
                                  go_wp2_with (first | ((with_reducible refine gate_builtin (b := .append) (xs := #[.tmp 93, .tmp 95]) rfl ?_); (try (refine gate_guard (by rfl) ?_; dsimp only)); at_builtin; refine Kd.R_append k45 (w0 := w) w.heap.size rfl (.tmp 93) (.tmp 95) 22 45 (.agg #[(.int .i64 0), (.int .i64 0), (.string ⟨#[]⟩)]) 32 rfl Try.underlying22 info45 rfl (by decide) (by omega) u4 x4_1 (⟨1, wrap64 (IntKind.u64.wrap (x7_3 - 9223372036854775808)), (⟨#[]⟩ : ByteArray)⟩ : S45) [.int .i64 1, .int .i64 (wrap64 (IntKind.u64.wrap (x7_3 - 9223372036854775808))), .string (⟨#[]⟩ : ByteArray)] (fun k_ => k_ ≠ gb294) (fun _ => False) rfl (by first | (go_simp; done) | (go_simp; rfl)) ?aP (fun _ hk => hk.elim) ?aF ?aO ?aB ?aS ?aL ?_; (case aP => exact k45_mkM _ _ _ (⟨1, wrap64 (IntKind.u64.wrap (x7_3 - 9223372036854775808)), (⟨#[]⟩ : ByteArray)⟩ : S45)); (case aB => exact (by repeat (first | (with_reducible first | exact HB.out | apply below_alloc | apply pw_below_drewN | apply below_drew1 | refine below_set ?_ GE294.out) | exact HB.out))); (case aF => exact (fun k_ hk => Kd.freshB (g := gb294) (o := .cells #[.int .i64 1, .int .i64 (wrap64 (IntKind.u64.wrap (x7_3 - 9223372036854775808))), .string (⟨#[]⟩ : ByteArray)] 45 (0, 0)) (by (with_reducible repeat (first | refine blk_drewN ?_ _ | refine blk_drew ?_ | refine blk_alloc ?_ _)); refine blk_put (cs := #[.int .i64 1, .int .i64 (wrap64 (IntKind.u64.wrap (x7_3 - 9223372036854775808))), .string (⟨#[]⟩ : ByteArray)]) ?_ 2 _ rfl; (with_reducible repeat (first | refine blk_drewN ?_ _ | refine blk_drew ?_ | refine blk_alloc ?_ _)); refine blk_put (cs := #[.int .i64 1, .int .i64 0, .string (⟨#[]⟩ : ByteArray)]) ?_ 1 _ rfl; (with_reducible repeat (first | refine blk_drewN ?_ _ | refine blk_drew ?_ | refine blk_alloc ?_ _)); refine blk_put (cs := #[.int .i64 0, .int .i64 0, .string (⟨#[]⟩ : ByteArray)]) ?_ 0 _ rfl; (with_reducible repeat (first | refine blk_drewN ?_ _ | refine blk_drew ?_ | refine blk_alloc ?_ _)); exact BK294.out) k_ hk)); (case aO => exact (by (with_reducible repeat (first | apply Kd.R_alloc | apply Kd.R_drewN | apply Kd.R_drew)); exact Kd.R_mono (Kd.R_far (p := ⟨gb294, 2, none⟩) (Kd.R_far (p := ⟨gb294, 1, none⟩) (Kd.R_far (p := ⟨gb294, 0, none⟩) (Kd.R_mono HO_4.out (fun k_ hk => (⟨hk, hk⟩ : _ ∧ k_ ≠ gb294))) (fun _ hk => hk.2) (.int .i64 1)) (fun _ hk => hk.2) (.int .i64 (wrap64 (IntKind.u64.wrap (x7_3 - 9223372036854775808))))) (fun _ hk => hk.2) (.string (⟨#[]⟩ : ByteArray))) (fun _ hk => hk.1))); (case aS => exact (below_size (by repeat (first | (with_reducible first | exact HB.out | apply below_alloc | apply pw_below_drewN | apply below_drew1 | refine below_set ?_ GE294.out) | exact HB.out)))); (case aL => have := LMc15.out; omega); intro v296 w28 ho hb hg hat; rw [← Ny295.out] at ho; have n0_ := Aside0.mk (blk_grown (g := gb294) (o := .cells #[.int .i64 1, .int .i64 (wrap64 (IntKind.u64.wrap (x7_3 - 9223372036854775808))), .string (⟨#[]⟩ : ByteArray)] 45 (0, 0)) (by (with_reducible repeat (first | refine blk_drewN ?_ _ | refine blk_drew ?_ | refine blk_alloc ?_ _)); refine blk_put (cs := #[.int .i64 1, .int .i64 (wrap64 (IntKind.u64.wrap (x7_3 - 9223372036854775808))), .string (⟨#[]⟩ : ByteArray)]) ?_ 2 _ rfl; (with_reducible repeat (first | refine blk_drewN ?_ _ | refine blk_drew ?_ | refine blk_alloc ?_ _)); refine blk_put (cs := #[.int .i64 1, .int .i64 0, .string (⟨#[]⟩ : ByteArray)]) ?_ 1 _ rfl; (with_reducible repeat (first | refine blk_drewN ?_ _ | refine blk_drew ?_ | refine blk_alloc ?_ _)); refine blk_put (cs := #[.int .i64 0, .int .i64 0, .string (⟨#[]⟩ : ByteArray)]) ?_ 0 _ rfl; (with_reducible repeat (first | refine blk_drewN ?_ _ | refine blk_drew ?_ | refine blk_alloc ?_ _)); exact BK294.out) hg (Kd.R_away HO_4.out (fun _ hk => hk))); have n1_ := Aside0.mk (hb); have n2_ := Aside0.mk (ho); clear BK294; clear HB; clear HO_4; have BK294 := n0_; have HB := n1_; have HO297 := n2_; clear n0_ n1_ n2_; clear ho hb hg hat; have hcz29_0 : w28.cell? ⟨gb294, 0, none⟩ = some (.int .i64 1) := (blk_cell BK294.out 0).trans rfl; have hcz29_1 : w28.cell? ⟨gb294, 1, none⟩ = some (.int .i64 (wrap64 (IntKind.u64.wrap (x7_3 - 9223372036854775808)))) := (blk_cell BK294.out 1).trans rfl; have hcz29_2 : w28.cell? ⟨gb294, 2, none⟩ = some (.string (⟨#[]⟩ : ByteArray)) := (blk_cell BK294.out 2).trans rfl; have hfz29_0 := blk_frozen BK294.out 0; have hfz29_1 := blk_frozen BK294.out 1; have hfz29_2 := blk_frozen BK294.out 2) | ((with_reducible refine gate_callee (f := 25) rfl ?_); refine goesL_ (some 98) rfl rfl Try.func25 (by kernel_rfl) rfl #[.agg #[.int .i64 1, .int .i64 (wrap64 (IntKind.u64.wrap (x7_3 - 9223372036854775808))), .string (⟨#[]⟩ : ByteArray)]] rfl (by (try simp only [List.map_toArray, List.map_cons, List.map_nil]); first | done | rfl | (simp only [List.length_drop, List.length_take]; rfl)) ?_; (with_reducible refine (aquiferref03_bytes.calls k3 1 (wrap64 (IntKind.u64.wrap (x7_3 - 9223372036854775808))) (⟨#[]⟩ : ByteArray) t298 _ A16.out).mono ?_); rintro e w30 ⟨v299, rfl, ho0, hb⟩; refine ⟨_, rfl, ?_⟩; have n0_ := Aside0.mk (Kd.R_below (by (with_reducible repeat (first | apply Kd.R_alloc | apply Kd.R_drewN | apply Kd.R_drew)); exact HO297.out) hb); have n1_ := Aside0.mk (Kd.R_lower ho0 (below_size (by repeat (first | (with_reducible first | exact HB.out | apply below_alloc | apply pw_below_drewN | apply below_drew1 | refine below_set ?_ GE294.out) | exact HB.out)))); have n2_ := Aside0.mk (blk_below (g := gb294) (o := .cells #[.int .i64 1, .int .i64 (wrap64 (IntKind.u64.wrap (x7_3 - 9223372036854775808))), .string (⟨#[]⟩ : ByteArray)] 45 (0, 0)) (by (with_reducible repeat (first | refine blk_drewN ?_ _ | refine blk_drew ?_ | refine blk_alloc ?_ _)); exact BK294.out) hb); have n3_ := Aside0.mk (below_step (by repeat (first | (with_reducible first | exact HB.out | apply below_alloc | apply pw_below_drewN | apply below_drew1 | refine below_set ?_ GE294.out) | exact HB.out)) hb); clear HO297; clear BK294; clear HB; have HO297 := n0_; have HO300 := n1_; have BK294 := n2_; have HB := n3_; clear n0_ n1_ n2_ n3_; (try clear hb); (try clear hb2); (try clear hk); (try clear hi); (try clear ho0); have hcv31 := own_string (P := Try.prog) Try.underlying46 Try.underlying5 Try.underlying9 (Kd.own_of_R HO300.out)))
                                  go_roundg k3
                                  case measure => have := HK1.out; have := HJ3.out; have := HK3.out; omega
                                  case rel => exact ⟨(y295), (wrap64 (x5_1 + ((strOfNums t298).size : Int))), (by first | rfl | (simp; done) | (simp [*]; done)), H', ⟨by have := HK1.out; have := HJ3.out; have := HK3.out; omega⟩, ⟨by (with_reducible repeat (first | apply Kd.R_alloc | apply Kd.R_drewN | apply Kd.R_drew)); exact Kd.R_mono HO297.out (fun _ hk => trivial)⟩, ⟨by repeat (first | (with_reducible first | exact HB.out | apply below_alloc | apply pw_below_drewN | apply below_drew1 | refine below_set ?_ GE294.out) | exact HB.out)⟩⟩
                                · rw [if_neg c26] at H
                                  have c26b0 : ((a0.extract (x5_1 : Int).toNat ((wrap64 (x5_1 + ((strOfNums t298).size : Int))) : Int).toNat).toList == (strOfNums t298).toList) = false := beq_eq_false_iff_ne.mpr c26
                                  have c26b1 : ((a0.extract (x5_1 : Int).toNat ((wrap64 (x5_1 + ((strOfNums t298).size : Int))) : Int).toNat).toList != (strOfNums t298).toList) = true := bne_iff_ne.mpr c26
                                  simp only [Option.some.injEq, Prod.mk.injEq] at H
                                  obtain ⟨rfl, rfl⟩ := H
                                  have hcz32_0 : wr.cell? ⟨gb294, 0, none⟩ = some (.int .i64 0) := (blk_cell BK294.out 0).trans rfl
                                  have hcz32_1 : wr.cell? ⟨gb294, 1, none⟩ = some (.int .i64 0) := (blk_cell BK294.out 1).trans rfl
                                  have hcz32_2 : wr.cell? ⟨gb294, 2, none⟩ = some (.string (⟨#[]⟩ : ByteArray)) := (blk_cell BK294.out 2).trans rfl
                                  have hfz32_0 := blk_frozen BK294.out 0
                                  have hfz32_1 := blk_frozen BK294.out 1
                                  have hfz32_2 := blk_frozen BK294.out 2
                                  go_wp2_with (first | ((with_reducible refine gate_builtin (b := .append) (xs := #[.tmp 93, .tmp 95]) rfl ?_); (try (refine gate_guard (by rfl) ?_; dsimp only)); at_builtin; refine Kd.R_append k45 (w0 := w) w.heap.size rfl (.tmp 93) (.tmp 95) 22 45 (.agg #[(.int .i64 0), (.int .i64 0), (.string ⟨#[]⟩)]) 32 rfl Try.underlying22 info45 rfl (by decide) (by omega) u4 x4_1 (⟨1, wrap64 (IntKind.u64.wrap (x7_3 - 9223372036854775808)), (⟨#[]⟩ : ByteArray)⟩ : S45) [.int .i64 1, .int .i64 (wrap64 (IntKind.u64.wrap (x7_3 - 9223372036854775808))), .string (⟨#[]⟩ : ByteArray)] (fun k_ => k_ ≠ gb294) (fun _ => False) rfl (by first | (go_simp; done) | (go_simp; rfl)) ?aP (fun _ hk => hk.elim) ?aF ?aO ?aB ?aS ?aL ?_; (case aP => exact k45_mkM _ _ _ (⟨1, wrap64 (IntKind.u64.wrap (x7_3 - 9223372036854775808)), (⟨#[]⟩ : ByteArray)⟩ : S45)); (case aB => exact (by repeat (first | (with_reducible first | exact HB.out | apply below_alloc | apply pw_below_drewN | apply below_drew1 | refine below_set ?_ GE294.out) | exact HB.out))); (case aF => exact (fun k_ hk => Kd.freshB (g := gb294) (o := .cells #[.int .i64 1, .int .i64 (wrap64 (IntKind.u64.wrap (x7_3 - 9223372036854775808))), .string (⟨#[]⟩ : ByteArray)] 45 (0, 0)) (by (with_reducible repeat (first | refine blk_drewN ?_ _ | refine blk_drew ?_ | refine blk_alloc ?_ _)); refine blk_put (cs := #[.int .i64 1, .int .i64 (wrap64 (IntKind.u64.wrap (x7_3 - 9223372036854775808))), .string (⟨#[]⟩ : ByteArray)]) ?_ 2 _ rfl; (with_reducible repeat (first | refine blk_drewN ?_ _ | refine blk_drew ?_ | refine blk_alloc ?_ _)); refine blk_put (cs := #[.int .i64 1, .int .i64 0, .string (⟨#[]⟩ : ByteArray)]) ?_ 1 _ rfl; (with_reducible repeat (first | refine blk_drewN ?_ _ | refine blk_drew ?_ | refine blk_alloc ?_ _)); refine blk_put (cs := #[.int .i64 0, .int .i64 0, .string (⟨#[]⟩ : ByteArray)]) ?_ 0 _ rfl; (with_reducible repeat (first | refine blk_drewN ?_ _ | refine blk_drew ?_ | refine blk_alloc ?_ _)); exact BK294.out) k_ hk)); (case aO => exact (by (with_reducible repeat (first | apply Kd.R_alloc | apply Kd.R_drewN | apply Kd.R_drew)); exact Kd.R_mono (Kd.R_far (p := ⟨gb294, 2, none⟩) (Kd.R_far (p := ⟨gb294, 1, none⟩) (Kd.R_far (p := ⟨gb294, 0, none⟩) (Kd.R_mono HO_4.out (fun k_ hk => (⟨hk, hk⟩ : _ ∧ k_ ≠ gb294))) (fun _ hk => hk.2) (.int .i64 1)) (fun _ hk => hk.2) (.int .i64 (wrap64 (IntKind.u64.wrap (x7_3 - 9223372036854775808))))) (fun _ hk => hk.2) (.string (⟨#[]⟩ : ByteArray))) (fun _ hk => hk.1))); (case aS => exact (below_size (by repeat (first | (with_reducible first | exact HB.out | apply below_alloc | apply pw_below_drewN | apply below_drew1 | refine below_set ?_ GE294.out) | exact HB.out)))); (case aL => have := LMc15.out; omega); intro v296 w33 ho hb hg hat; rw [← Ny295.out] at ho; have n0_ := Aside0.mk (blk_grown (g := gb294) (o := .cells #[.int .i64 1, .int .i64 (wrap64 (IntKind.u64.wrap (x7_3 - 9223372036854775808))), .string (⟨#[]⟩ : ByteArray)] 45 (0, 0)) (by (with_reducible repeat (first | refine blk_drewN ?_ _ | refine blk_drew ?_ | refine blk_alloc ?_ _)); refine blk_put (cs := #[.int .i64 1, .int .i64 (wrap64 (IntKind.u64.wrap (x7_3 - 9223372036854775808))), .string (⟨#[]⟩ : ByteArray)]) ?_ 2 _ rfl; (with_reducible repeat (first | refine blk_drewN ?_ _ | refine blk_drew ?_ | refine blk_alloc ?_ _)); refine blk_put (cs := #[.int .i64 1, .int .i64 0, .string (⟨#[]⟩ : ByteArray)]) ?_ 1 _ rfl; (with_reducible repeat (first | refine blk_drewN ?_ _ | refine blk_drew ?_ | refine blk_alloc ?_ _)); refine blk_put (cs := #[.int .i64 0, .int .i64 0, .string (⟨#[]⟩ : ByteArray)]) ?_ 0 _ rfl; (with_reducible repeat (first | refine blk_drewN ?_ _ | refine blk_drew ?_ | refine blk_alloc ?_ _)); exact BK294.out) hg (Kd.R_away HO_4.out (fun _ hk => hk))); have n1_ := Aside0.mk (hb); have n2_ := Aside0.mk (ho); clear BK294; clear HB; clear HO_4; have BK294 := n0_; have HB := n1_; have HO297 := n2_; clear n0_ n1_ n2_; clear ho hb hg hat; have hcz34_0 : w33.cell? ⟨gb294, 0, none⟩ = some (.int .i64 1) := (blk_cell BK294.out 0).trans rfl; have hcz34_1 : w33.cell? ⟨gb294, 1, none⟩ = some (.int .i64 (wrap64 (IntKind.u64.wrap (x7_3 - 9223372036854775808)))) := (blk_cell BK294.out 1).trans rfl; have hcz34_2 : w33.cell? ⟨gb294, 2, none⟩ = some (.string (⟨#[]⟩ : ByteArray)) := (blk_cell BK294.out 2).trans rfl; have hfz34_0 := blk_frozen BK294.out 0; have hfz34_1 := blk_frozen BK294.out 1; have hfz34_2 := blk_frozen BK294.out 2) | ((with_reducible refine gate_callee (f := 25) rfl ?_); refine goesL_ (some 98) rfl rfl Try.func25 (by kernel_rfl) rfl #[.agg #[.int .i64 1, .int .i64 (wrap64 (IntKind.u64.wrap (x7_3 - 9223372036854775808))), .string (⟨#[]⟩ : ByteArray)]] rfl (by (try simp only [List.map_toArray, List.map_cons, List.map_nil]); first | done | rfl | (simp only [List.length_drop, List.length_take]; rfl)) ?_; (with_reducible refine (aquiferref03_bytes.calls k3 1 (wrap64 (IntKind.u64.wrap (x7_3 - 9223372036854775808))) (⟨#[]⟩ : ByteArray) t298 _ A16.out).mono ?_); rintro e w35 ⟨v299, rfl, ho0, hb⟩; refine ⟨_, rfl, ?_⟩; have n0_ := Aside0.mk (Kd.R_below (by (with_reducible repeat (first | apply Kd.R_alloc | apply Kd.R_drewN | apply Kd.R_drew)); exact HO297.out) hb); have n1_ := Aside0.mk (Kd.R_lower ho0 (below_size (by repeat (first | (with_reducible first | exact HB.out | apply below_alloc | apply pw_below_drewN | apply below_drew1 | refine below_set ?_ GE294.out) | exact HB.out)))); have n2_ := Aside0.mk (blk_below (g := gb294) (o := .cells #[.int .i64 1, .int .i64 (wrap64 (IntKind.u64.wrap (x7_3 - 9223372036854775808))), .string (⟨#[]⟩ : ByteArray)] 45 (0, 0)) (by (with_reducible repeat (first | refine blk_drewN ?_ _ | refine blk_drew ?_ | refine blk_alloc ?_ _)); exact BK294.out) hb); have n3_ := Aside0.mk (below_step (by repeat (first | (with_reducible first | exact HB.out | apply below_alloc | apply pw_below_drewN | apply below_drew1 | refine below_set ?_ GE294.out) | exact HB.out)) hb); clear HO297; clear BK294; clear HB; have HO297 := n0_; have HO300 := n1_; have BK294 := n2_; have HB := n3_; clear n0_ n1_ n2_ n3_; (try clear hb); (try clear hb2); (try clear hk); (try clear hi); (try clear ho0); have hcv36 := own_string (P := Try.prog) Try.underlying46 Try.underlying5 Try.underlying9 (Kd.own_of_R HO300.out)))
                                  go_ret2
                                  exact ⟨_, by first | rfl | (simp [errW_none, errW_some] <;> rfl) | (simp [*, errW_none, errW_some] <;> rfl), by first | exact Kd.R_nil _ _ _ _ _ | exact Kd.N_nil _ _ _ _ _ | exact Kd.V_nil _ _ _ _ _ | exact Kd.Q_nil _ _ _ _ _ | exact Kd.S_nil _ _ _ _ _, by repeat (first | (with_reducible first | exact HB.out | apply below_alloc | apply pw_below_drewN | apply below_drew1 | refine below_set ?_ GE294.out) | exact HB.out)⟩
                              · rw [if_neg c25] at H
                                exact absurd H (by simp)
                            · rw [if_neg c24] at H
                              exact absurd H (by simp)
                          · rw [if_neg c23] at H
                            exact absurd H (by simp)
                      · rw [if_neg c15] at H
                        exact absurd H (by simp)
              · replace c9 := Bool.eq_false_iff.mpr c9
                subst c9
                have H1 : (aquiferref03_Decode.l2 kj3 a0 x4_1 x5_1 (wrap64 (x5_1 + 1)) 2 0 (⟨#[]⟩ : ByteArray)) = some (r1, r2) := by rw [if_neg (show ¬ (false = true) by decide)] at H; exact H
                clear H
                have H := H1
                clear H1
                have H' := Aside0.mk H
                clear H
                have hcz37_0 : wc.cell? ⟨gb294, 0, none⟩ = some (.int .i64 0) := (blk_cell BK294.out 0).trans rfl
                have hcz37_1 : wc.cell? ⟨gb294, 1, none⟩ = some (.int .i64 0) := (blk_cell BK294.out 1).trans rfl
                have hcz37_2 : wc.cell? ⟨gb294, 2, none⟩ = some (.string (⟨#[]⟩ : ByteArray)) := (blk_cell BK294.out 2).trans rfl
                have hfz37_0 := blk_frozen BK294.out 0
                have hfz37_1 := blk_frozen BK294.out 1
                have hfz37_2 := blk_frozen BK294.out 2
                go_wp2
                go_loopg [9] kj3 (fun kq v9 w' => ∃ (x9_3 : Int) (x295002_3 : ByteArray), v9 = .int .i64 x9_3 ∧ Aside0 (aquiferref03_Decode.l2 kq a0 x4_1 x5_1 x9_3 2 0 x295002_3 = some (r1, r2)) ∧ Aside0 (kq ≤ kj3) ∧ Aside0 (Kd.R k45 45 w' w.heap.size (fun k_ => k_ ≠ gb294) u4 x4_1) ∧ Aside0 (w'.heap[gb294]? = some (.cells #[.int .i64 2, .int .i64 0, .string x295002_3] 45 (0, 0))) ∧ Aside0 (Below w.heap.size w w'))
                case atStart => exact ⟨(wrap64 (x5_1 + 1)), ((⟨#[]⟩ : ByteArray)), (by first | rfl | (simp; done) | (simp [*]; done)), H', ⟨Nat.le_refl _⟩, ⟨by (with_reducible repeat (first | apply Kd.R_alloc | apply Kd.R_drewN | apply Kd.R_drew)); exact Kd.R_mono (Kd.R_far (p := ⟨gb294, 2, none⟩) (Kd.R_far (p := ⟨gb294, 1, none⟩) (Kd.R_far (p := ⟨gb294, 0, none⟩) (Kd.R_mono HO_4.out (fun k_ hk => (⟨hk, hk⟩ : _ ∧ k_ ≠ gb294))) (fun _ hk => hk.2) (.int .i64 2)) (fun _ hk => hk.2) (.int .i64 0)) (fun _ hk => hk.2) (.string (⟨#[]⟩ : ByteArray))) (fun _ hk => hk.1)⟩, ⟨by (with_reducible repeat (first | refine blk_drewN ?_ _ | refine blk_drew ?_ | refine blk_alloc ?_ _)); refine blk_put (cs := #[.int .i64 2, .int .i64 0, .string (⟨#[]⟩ : ByteArray)]) ?_ 2 _ rfl; (with_reducible repeat (first | refine blk_drewN ?_ _ | refine blk_drew ?_ | refine blk_alloc ?_ _)); refine blk_put (cs := #[.int .i64 2, .int .i64 0, .string (⟨#[]⟩ : ByteArray)]) ?_ 1 _ rfl; (with_reducible repeat (first | refine blk_drewN ?_ _ | refine blk_drew ?_ | refine blk_alloc ?_ _)); refine blk_put (cs := #[.int .i64 0, .int .i64 0, .string (⟨#[]⟩ : ByteArray)]) ?_ 0 _ rfl; (with_reducible repeat (first | refine blk_drewN ?_ _ | refine blk_drew ?_ | refine blk_alloc ?_ _)); exact BK294.out⟩, ⟨by repeat (first | (with_reducible first | exact HB.out | apply below_alloc | apply pw_below_drewN | apply below_drew1 | refine below_set ?_ GE294.out) | exact HB.out)⟩⟩
                case round =>
                  clear H'
                  try clear c1
                  try clear p1
                  try clear q1
                  try clear hx1
                  try clear c2
                  try clear c2b0
                  try clear c2b1
                  try clear p2
                  try clear hcv2
                  try clear c3
                  try clear c3b0
                  try clear hcv3
                  try clear c6
                  try clear c6b0
                  try clear c6b1
                  try clear c6b2
                  try clear p6
                  try clear p7
                  try clear q7
                  try clear hx7
                  try clear c8
                  try clear c8b0
                  try clear c8b1
                  try clear c9
                  try clear c10
                  try clear c10b0
                  try clear c12
                  try clear c12b0
                  try clear c13
                  try clear c13b0
                  try clear p14
                  try clear q14
                  try clear hx14
                  try clear c15
                  try clear c17
                  try clear c17b0
                  try clear c20
                  try clear hcv22
                  try clear c23
                  try clear c23b0
                  try clear c23b1
                  try clear c24
                  try clear c24b0
                  try clear c24b1
                  try clear c25
                  try clear c25b0
                  try clear c25b1
                  try clear c26
                  try clear c26b0
                  try clear c26b1
                  try clear hcv31
                  try clear hcv36
                  try clear hcz18_0
                  try clear hcz18_1
                  try clear hcz18_2
                  try clear hcz20_0
                  try clear hcz20_1
                  try clear hcz20_2
                  try clear hcz27_0
                  try clear hcz27_1
                  try clear hcz27_2
                  try clear hcz29_0
                  try clear hcz29_1
                  try clear hcz29_2
                  try clear hcz32_0
                  try clear hcz32_1
                  try clear hcz32_2
                  try clear hcz34_0
                  try clear hcz34_1
                  try clear hcz34_2
                  try clear hcz37_0
                  try clear hcz37_1
                  try clear hcz37_2
                  try clear hfz18_0
                  try clear hfz18_1
                  try clear hfz18_2
                  try clear hfz20_0
                  try clear hfz20_1
                  try clear hfz20_2
                  try clear hfz27_0
                  try clear hfz27_1
                  try clear hfz27_2
                  try clear hfz29_0
                  try clear hfz29_1
                  try clear hfz29_2
                  try clear hfz32_0
                  try clear hfz32_1
                  try clear hfz32_2
                  try clear hfz34_0
                  try clear hfz34_1
                  try clear hfz34_2
                  try clear hfz37_0
                  try clear hfz37_1
                  try clear hfz37_2
                  try clear p14
                  try clear p2
                  try clear p6
                  try clear p7
                  try clear q14
                  try clear q7
                  obtain ⟨x9_3, x295002_3, rfl, HA, HK3, HO_4, BK294, HB⟩ := hrel
                  cases gk with
                  | zero => exact absurd HA.out (by simp [aquiferref03_Decode.l2])
                  | succ k3 =>
                    have H := HA.out
                    clear HA
                    simp only [aquiferref03_Decode.l2] at H
                    have HC38 := Aside0.mk H
                    clear H
                    go_upto_region 16 with (fail)
                    go_cut [75] (fun v75 wc => ∃ (kq : Nat) (x75_37 : Bool), v75 = .bool x75_37 ∧ Aside0 (aquiferref03_Decode.j4 kq a0 x4_1 x5_1 x9_3 x75_37 2 0 x295002_3 = some (r1, r2)) ∧ Aside0 (kq ≤ k3) ∧ Aside0 (Kd.R k45 45 wc w.heap.size (fun k_ => k_ ≠ gb294) u4 x4_1) ∧ Aside0 (wc.heap[gb294]? = some (.cells #[.int .i64 2, .int .i64 0, .string x295002_3] 45 (0, 0))) ∧ Aside0 (Below w.heap.size w wc))
                    case first =>
                      have H := HC38.out
                      clear HC38
                      by_cases c39 : x9_3 < (a0.size : Int)
                      · rw [if_pos c39] at H
                        have c39b0 : decide (x9_3 < (a0.size : Int)) = true := decide_eq_true c39
                        clear c39
                        (first | rw [c39b0] | (simp only [i64_w, i32_w]; rw [c39b0]) | rw [c39b1] | rw [c39b2] | skip)
                        by_cases c40 : 0 ≤ x9_3
                        · rw [if_pos c40] at H
                          have c40b0 : decide (0 ≤ x9_3) = true := decide_eq_true c40
                          clear c40
                          by_cases c42 : (bt a0 x9_3) = 0
                          · rw [if_pos c42] at H
                            have c42b0 : ((bt a0 x9_3) == 0) = true := beq_iff_eq.mpr c42
                            have c42b1 : ((bt a0 x9_3) != 0) = false := bne_eq_false_iff_eq.mpr c42
                            clear c42
                            by_cases c43 : (wrap64 (x9_3 + 1)) < (a0.size : Int)
                            · rw [if_pos c43] at H
                              have c43b0 : decide ((wrap64 (x9_3 + 1)) < (a0.size : Int)) = true := decide_eq_true c43
                              clear c43
                              obtain ⟨ji44, hji44⟩ : ∃ j_ : Int, (wrap64 (x9_3 + 1)) = j_ := ⟨_, rfl⟩
                              replace H : (if 0 ≤ (ji44) then (aquiferref03_Decode.j4 k3 a0 x4_1 x5_1 x9_3 (!((bt a0 (ji44)) == 1)) 2 0 x295002_3) else (none)) = some (r1, r2) := by first | (rw [hji44] at H; exact H) | (simp only [hji44] at H ⊢; exact H)
                              (try rw [hji44] at c43b0)
                              have hji44w : (IntKind.i64.wrap (x9_3 + 1)) = ji44 := (i64_w _).trans hji44
                              by_cases c45 : 0 ≤ (ji44)
                              · rw [if_pos c45] at H
                                have c45b0 : decide (0 ≤ (ji44)) = true := decide_eq_true c45
                                clear c45
                                have H' := Aside0.mk H
                                clear H
                                have p41 : 0 ≤ (x9_3 : Int) := of_decide_eq_true (by first | (with_reducible assumption) | assumption)
                                have q41 : x9_3 < (a0.size : Int) := of_decide_eq_true (by first | (with_reducible assumption) | assumption)
                                have hx41 := bt_at a0 x9_3
                                replace p41 := eq_true p41
                                replace q41 := eq_true q41
                                have p46 : 0 ≤ ((ji44) : Int) := of_decide_eq_true (by first | (with_reducible assumption) | assumption)
                                have q46 : (ji44) < (a0.size : Int) := of_decide_eq_true (by first | (with_reducible assumption) | assumption)
                                have hx46 := bt_at a0 (ji44)
                                replace p46 := eq_true p46
                                replace q46 := eq_true q46
                                go_wp2
                                go_meet
                                case rel => exact ⟨_, (!((bt a0 (ji44)) == 1)), (by first | rfl | (simp; done) | (simp only [← hji44] <;> (first | rfl | simp)) | (simp [*]; done)), H', ⟨by have := HK1.out; have := HJ3.out; have := HK3.out; first | omega | exact Nat.le_refl _⟩, ⟨by (with_reducible repeat (first | apply Kd.R_alloc | apply Kd.R_drewN | apply Kd.R_drew)); exact HO_4.out⟩, ⟨by (with_reducible repeat (first | refine blk_drewN ?_ _ | refine blk_drew ?_ | refine blk_alloc ?_ _)); exact BK294.out⟩, ⟨by repeat (first | (with_reducible first | exact HB.out | apply below_alloc | apply pw_below_drewN | apply below_drew1 | refine below_set ?_ GE294.out) | exact HB.out)⟩⟩
                              · rw [if_neg c45] at H
                                exact absurd H (by simp)
                            · rw [if_neg c43] at H
                              have c43b0 : decide ((wrap64 (x9_3 + 1)) < (a0.size : Int)) = false := decide_eq_false c43
                              clear c43
                              have H' := Aside0.mk H
                              clear H
                              have p41 : 0 ≤ (x9_3 : Int) := of_decide_eq_true (by first | (with_reducible assumption) | assumption)
                              have q41 : x9_3 < (a0.size : Int) := of_decide_eq_true (by first | (with_reducible assumption) | assumption)
                              have hx41 := bt_at a0 x9_3
                              replace p41 := eq_true p41
                              replace q41 := eq_true q41
                              go_wp2
                              go_meet
                              case rel => exact ⟨_, (!false), (by first | rfl | (simp; done) | (simp [*]; done)), H', ⟨by have := HK1.out; have := HJ3.out; have := HK3.out; first | omega | exact Nat.le_refl _⟩, ⟨by (with_reducible repeat (first | apply Kd.R_alloc | apply Kd.R_drewN | apply Kd.R_drew)); exact HO_4.out⟩, ⟨by (with_reducible repeat (first | refine blk_drewN ?_ _ | refine blk_drew ?_ | refine blk_alloc ?_ _)); exact BK294.out⟩, ⟨by repeat (first | (with_reducible first | exact HB.out | apply below_alloc | apply pw_below_drewN | apply below_drew1 | refine below_set ?_ GE294.out) | exact HB.out)⟩⟩
                          · rw [if_neg c42] at H
                            have c42b0 : ((bt a0 x9_3) == 0) = false := beq_eq_false_iff_ne.mpr c42
                            have c42b1 : ((bt a0 x9_3) != 0) = true := bne_iff_ne.mpr c42
                            have H' := Aside0.mk H
                            clear H
                            have p41 : 0 ≤ (x9_3 : Int) := of_decide_eq_true (by first | (with_reducible assumption) | assumption)
                            have q41 : x9_3 < (a0.size : Int) := of_decide_eq_true (by first | (with_reducible assumption) | assumption)
                            have hx41 := bt_at a0 x9_3
                            replace p41 := eq_true p41
                            replace q41 := eq_true q41
                            go_wp2
                            go_meet
                            case rel => exact ⟨_, (!false), (by first | rfl | (simp; done) | (simp [*]; done)), H', ⟨by have := HK1.out; have := HJ3.out; have := HK3.out; first | omega | exact Nat.le_refl _⟩, ⟨by (with_reducible repeat (first | apply Kd.R_alloc | apply Kd.R_drewN | apply Kd.R_drew)); exact HO_4.out⟩, ⟨by (with_reducible repeat (first | refine blk_drewN ?_ _ | refine blk_drew ?_ | refine blk_alloc ?_ _)); exact BK294.out⟩, ⟨by repeat (first | (with_reducible first | exact HB.out | apply below_alloc | apply pw_below_drewN | apply below_drew1 | refine below_set ?_ GE294.out) | exact HB.out)⟩⟩
                        · rw [if_neg c40] at H
                          exact absurd H (by simp)
                      · rw [if_neg c39] at H
                        have c39b0 : decide (x9_3 < (a0.size : Int)) = false := decide_eq_false c39
                        clear c39
                        (first | rw [c39b0] | (simp only [i64_w, i32_w]; rw [c39b0]) | rw [c39b1] | rw [c39b2] | skip)
                        have H' := Aside0.mk H
                        clear H
                        go_wp2
                        go_meet
                        case rel => exact ⟨_, (false), (by first | rfl | (simp; done) | (simp [*]; done)), H', ⟨by have := HK1.out; have := HJ3.out; have := HK3.out; first | omega | exact Nat.le_refl _⟩, ⟨by (with_reducible repeat (first | apply Kd.R_alloc | apply Kd.R_drewN | apply Kd.R_drew)); exact HO_4.out⟩, ⟨by (with_reducible repeat (first | refine blk_drewN ?_ _ | refine blk_drew ?_ | refine blk_alloc ?_ _)); exact BK294.out⟩, ⟨by repeat (first | (with_reducible first | exact HB.out | apply below_alloc | apply pw_below_drewN | apply below_drew1 | refine below_set ?_ GE294.out) | exact HB.out)⟩⟩
                    case rest =>
                      clear HC38
                      try clear c1
                      try clear p1
                      try clear q1
                      try clear hx1
                      try clear c2
                      try clear c2b0
                      try clear c2b1
                      try clear p2
                      try clear hcv2
                      try clear c3
                      try clear c3b0
                      try clear hcv3
                      try clear c4
                      try clear p4
                      try clear q4
                      try clear hx4
                      try clear c6
                      try clear c6b0
                      try clear c6b1
                      try clear c6b2
                      try clear p6
                      try clear p7
                      try clear q7
                      try clear hx7
                      try clear c8
                      try clear c8b0
                      try clear c8b1
                      try clear c9
                      try clear c10
                      try clear c10b0
                      try clear c12
                      try clear c12b0
                      try clear c13
                      try clear c13b0
                      try clear p14
                      try clear q14
                      try clear hx14
                      try clear c15
                      try clear c17
                      try clear c17b0
                      try clear c20
                      try clear hcv22
                      try clear c23
                      try clear c23b0
                      try clear c23b1
                      try clear c24
                      try clear c24b0
                      try clear c24b1
                      try clear c25
                      try clear c25b0
                      try clear c25b1
                      try clear c26
                      try clear c26b0
                      try clear c26b1
                      try clear hcv31
                      try clear hcv36
                      try clear c39
                      try clear c39b0
                      try clear c39b1
                      try clear c39b2
                      try clear c40
                      try clear c40b0
                      try clear p41
                      try clear q41
                      try clear hx41
                      try clear c42
                      try clear c42b0
                      try clear c42b1
                      try clear c43
                      try clear c43b0
                      try clear c45
                      try clear c45b0
                      try clear p46
                      try clear q46
                      try clear hx46
                      try clear hcz18_0
                      try clear hcz18_1
                      try clear hcz18_2
                      try clear hcz20_0
                      try clear hcz20_1
                      try clear hcz20_2
                      try clear hcz27_0
                      try clear hcz27_1
                      try clear hcz27_2
                      try clear hcz29_0
                      try clear hcz29_1
                      try clear hcz29_2
                      try clear hcz32_0
                      try clear hcz32_1
                      try clear hcz32_2
                      try clear hcz34_0
                      try clear hcz34_1
                      try clear hcz34_2
                      try clear hcz37_0
                      try clear hcz37_1
                      try clear hcz37_2
                      try clear hfz18_0
                      try clear hfz18_1
                      try clear hfz18_2
                      try clear hfz20_0
                      try clear hfz20_1
                      try clear hfz20_2
                      try clear hfz27_0
                      try clear hfz27_1
                      try clear hfz27_2
                      try clear hfz29_0
                      try clear hfz29_1
                      try clear hfz29_2
                      try clear hfz32_0
                      try clear hfz32_1
                      try clear hfz32_2
                      try clear hfz34_0
                      try clear hfz34_1
                      try clear hfz34_2
                      try clear hfz37_0
                      try clear hfz37_1
                      try clear hfz37_2
                      try clear p1
                      try clear p14
                      try clear p2
                      try clear p41
                      try clear p46
                      try clear p6
                      try clear p7
                      try clear q1
                      try clear q14
                      try clear q41
                      try clear q46
                      try clear q7
                      obtain ⟨kq, x75_37, rfl, HA, HJ37, HO_4, BK294, HB⟩ := hcut
                      cases kq with
                      | zero => exact absurd HA.out (by simp [aquiferref03_Decode.j4])
                      | succ kj37 =>
                        have H := HA.out
                        clear HA
                        simp only [aquiferref03_Decode.j4] at H
                        by_cases c47 : x75_37 = true
                        · subst c47
                          have H1 : (if 0 ≤ x9_3 then (if x9_3 ≤ (wrap64 (x9_3 + 1)) then (if (wrap64 (x9_3 + 1)) ≤ (a0.size : Int) then (if x295002_3.size + (a0.extract (x9_3 : Int).toNat ((wrap64 (x9_3 + 1)) : Int).toNat).size ≤ 9223372036854775807 then (if x9_3 < (a0.size : Int) then (if (bt a0 x9_3) = 0 then (aquiferref03_Decode.l2 kj37 a0 x4_1 x5_1 (wrap64 ((wrap64 (x9_3 + 1)) + 1)) 2 0 (x295002_3 ++ (a0.extract (x9_3 : Int).toNat ((wrap64 (x9_3 + 1)) : Int).toNat))) else (aquiferref03_Decode.l2 kj37 a0 x4_1 x5_1 (wrap64 (x9_3 + 1)) 2 0 (x295002_3 ++ (a0.extract (x9_3 : Int).toNat ((wrap64 (x9_3 + 1)) : Int).toNat)))) else (none)) else (none)) else (none)) else (none)) else (none)) = some (r1, r2) := by rw [if_pos rfl] at H; exact H
                          clear H
                          have H := H1
                          clear H1
                          by_cases c48 : 0 ≤ x9_3
                          · rw [if_pos c48] at H
                            have c48b0 := eq_true c48
                            have c48b1 : decide (0 ≤ x9_3) = true := decide_eq_true c48
                            clear c48
                            by_cases c49 : x9_3 ≤ (wrap64 (x9_3 + 1))
                            · rw [if_pos c49] at H
                              have c49b0 := eq_true c49
                              have c49b1 : decide (x9_3 ≤ (wrap64 (x9_3 + 1))) = true := decide_eq_true c49
                              by_cases c50 : (wrap64 (x9_3 + 1)) ≤ (a0.size : Int)
                              · rw [if_pos c50] at H
                                have c50b0 := eq_true c50
                                have c50b1 : decide ((wrap64 (x9_3 + 1)) ≤ (a0.size : Int)) = true := decide_eq_true c50
                                by_cases c51 : x295002_3.size + (a0.extract (x9_3 : Int).toNat ((wrap64 (x9_3 + 1)) : Int).toNat).size ≤ 9223372036854775807
                                · rw [if_pos c51] at H
                                  have c51b0 := eq_true c51
                                  have c51b1 : decide (x295002_3.size + (a0.extract (x9_3 : Int).toNat ((wrap64 (x9_3 + 1)) : Int).toNat).size ≤ 9223372036854775807) = true := decide_eq_true c51
                                  try have c51b2 : (9223372036854775807 < x295002_3.size + (a0.extract (x9_3 : Int).toNat ((wrap64 (x9_3 + 1)) : Int).toNat).size) = False := eq_false (Nat.not_lt.2 c51)
                                  (try (have c51b3 : (9223372036854775807 < x295002_3.size + (((wrap64 (x9_3 + 1)) : Int).toNat - (x9_3 : Int).toNat : Nat)) = False := by (rw [show x295002_3.size + (((wrap64 (x9_3 + 1)) : Int).toNat - (x9_3 : Int).toNat : Nat) = x295002_3.size + (a0.extract (x9_3 : Int).toNat ((wrap64 (x9_3 + 1)) : Int).toNat).size from by ((try simp only [decide_eq_true_eq, eq_iff_iff, iff_true] at *); simp only [ByteArray.size_extract]; omega)]; exact c51b2)))
                                  by_cases c52 : x9_3 < (a0.size : Int)
                                  · rw [if_pos c52] at H
                                    have c52b0 : decide (x9_3 < (a0.size : Int)) = true := decide_eq_true c52
                                    clear c52
                                    by_cases c54 : (bt a0 x9_3) = 0
                                    · rw [if_pos c54] at H
                                      have c54b0 : ((bt a0 x9_3) == 0) = true := beq_iff_eq.mpr c54
                                      have c54b1 : ((bt a0 x9_3) != 0) = false := bne_eq_false_iff_eq.mpr c54
                                      clear c54
                                      have H' := Aside0.mk H
                                      clear H
                                      try go_wp2
                                      have n0_ := Aside0.mk (Kd.R_drew HO_4.out)
                                      have n1_ := Aside0.mk (blk_drew BK294.out)
                                      have n2_ := Aside0.mk (below_drew1 HB.out)
                                      clear HO_4
                                      clear BK294
                                      clear HB
                                      have HO_4 := n0_
                                      have BK294 := n1_
                                      have HB := n2_
                                      clear n0_ n1_ n2_
                                      refine start_ (n := 10) (S := fun w' => w'.cell? ⟨gb294, 0, none⟩ = some (.int .i64 2) ∧ w'.cell? ⟨gb294, 1, none⟩ = some (.int .i64 0) ∧ w'.cell? ⟨gb294, 2, none⟩ = some (.string x295002_3)) (ds := [9]) #[false, false, false, false, false, false, false, false, false, false] (by kernel_rfl) rfl rfl ⟨(blk_cell BK294.out 0).trans rfl, (blk_cell BK294.out 1).trans rfl, (blk_cell BK294.out 2).trans rfl⟩ (fun hHeld => ?_); refine with_tabW aquiferref03_Decode.tab17 aquiferref03_Decode.bits17 (fun HT_ HW_ => ?_)
                                      generalize wc.drew = w55 at HO_4 BK294 HB hHeld ⊢
                                      refine pure_ (i := 0) (N := some 76) (v := ?_) (a' := ?_) #[true, false, false, false, false, false, false, false, false, false] rfl rfl (any_of HT_.out (by kernel_rfl)) (fun _ _ _ h => h) (Or.inl ⟨by rfl, ?_⟩) ?_ ?_
                                      rotate_left
                                      · intro w'
                                        go_simp
                                        with_reducible rfl
                                      rotate_left
                                      · simp only [Act.put, List.setIfInBounds_toArray, List.set_cons_zero, List.set_cons_succ, i64_w, i32_w]
                                        rfl
                                      refine pure_ (i := 2) (N := some 78) (v := ?_) (a' := ?_) #[true, false, true, false, false, false, false, false, false, false] rfl rfl (any_of HT_.out (by kernel_rfl)) (fun _ _ _ h => h) (Or.inl ⟨by rfl, ?_⟩) ?_ ?_
                                      rotate_left
                                      · intro w'
                                        go_simp
                                        with_reducible rfl
                                      rotate_left
                                      · simp only [Act.put, List.setIfInBounds_toArray, List.set_cons_zero, List.set_cons_succ, i64_w, i32_w]
                                        rfl
                                      refine pure_ (i := 3) (N := some 79) (v := ?_) (a' := ?_) #[true, false, true, true, false, false, false, false, false, false] rfl rfl (any_of HT_.out (by kernel_rfl)) (fun _ _ _ h => h) (Or.inl ⟨by rfl, ?_⟩) ?_ ?_
                                      rotate_left
                                      · intro w'
                                        go_simp
                                        with_reducible rfl
                                      rotate_left
                                      · simp only [Act.put, List.setIfInBounds_toArray, List.set_cons_zero, List.set_cons_succ, i64_w, i32_w]
                                        rfl
                                      refine pure_ (i := 4) (N := some 80) (v := ?_) (a' := ?_) #[true, false, true, true, true, false, false, false, false, false] rfl rfl (any_of HT_.out (by kernel_rfl)) (fun _ _ _ h => h) (Or.inl ⟨by rfl, ?_⟩) ?_ ?_
                                      rotate_left
                                      · intro w'
                                        go_simp
                                        with_reducible rfl
                                      rotate_left
                                      · simp only [Act.put, List.setIfInBounds_toArray, List.set_cons_zero, List.set_cons_succ, i64_w, i32_w]
                                        rfl
                                      refine pure_ (i := 5) (N := some 81) (v := ?_) (a' := ?_) #[true, false, true, true, true, true, false, false, false, false] rfl rfl (any_of HT_.out (by kernel_rfl)) (fun _ _ _ h => h) (Or.inl ⟨by rfl, ?_⟩) ?_ ?_
                                      rotate_left
                                      · intro w'
                                        go_simp
                                        with_reducible rfl
                                      rotate_left
                                      · simp only [Act.put, List.setIfInBounds_toArray, List.set_cons_zero, List.set_cons_succ, i64_w, i32_w]
                                        rfl
                                      refine pure_ (i := 6) (N := some 82) (v := ?_) (a' := ?_) #[true, false, true, true, true, true, true, false, false, false] rfl rfl (any_of HT_.out (by kernel_rfl)) (fun _ _ _ h => h) (Or.inl ⟨by rfl, ?_⟩) ?_ ?_
                                      rotate_left
                                      · intro w'
                                        go_simp
                                        with_reducible rfl
                                      rotate_left
                                      · simp only [Act.put, List.setIfInBounds_toArray, List.set_cons_zero, List.set_cons_succ, i64_w, i32_w]
                                        rfl
                                      refine take_ (i := 1) (N := some 77) (v := ?_) (a' := ?_) #[true, true, true, true, true, true, true, false, false, false] rfl rfl (take_ofW HT_.out HW_.out (by kernel_rfl)) (fun _ _ _ h => h) (Or.inl ⟨by rfl, ?_⟩) hHeld ?_ ?_
                                      rotate_left
                                      · rintro w' ⟨s0, s1, s2⟩
                                        go_simp
                                        with_reducible rfl
                                      rotate_left
                                      · simp only [Act.put, List.setIfInBounds_toArray, List.set_cons_zero, List.set_cons_succ, i64_w, i32_w]
                                        rfl
                                      refine pure_ (i := 7) (N := some 83) (v := ?_) (a' := ?_) #[true, true, true, true, true, true, true, true, false, false] rfl rfl (any_of HT_.out (by kernel_rfl)) (fun _ _ _ h => h) (Or.inl ⟨by rfl, ?_⟩) ?_ ?_
                                      rotate_left
                                      · intro w'
                                        go_simp
                                        with_reducible rfl
                                      rotate_left
                                      · simp only [Act.put, List.setIfInBounds_toArray, List.set_cons_zero, List.set_cons_succ, i64_w, i32_w]
                                        rfl
                                      refine pure_ (i := 8) (N := some 84) (v := ?_) (a' := ?_) #[true, true, true, true, true, true, true, true, true, false] rfl rfl (any_of HT_.out (by kernel_rfl)) (fun _ _ _ h => h) (Or.inl ⟨by rfl, ?_⟩) ?_ ?_
                                      rotate_left
                                      · intro w'
                                        go_simp
                                        with_reducible rfl
                                      rotate_left
                                      · simp only [Act.put, List.setIfInBounds_toArray, List.set_cons_zero, List.set_cons_succ, i64_w, i32_w]
                                        rfl
                                      refine last_ (i := 9) (N := none) #[true, true, true, true, true, true, true, true, true, true] rfl rfl (one_of HT_.out (by kernel_rfl)) (by decide) (fun K hK => ?_)
                                      have hs56 : w55.cell? ⟨gb294, 2, none⟩ = some (.string x295002_3) := (blk_cell BK294.out 2).trans rfl
                                      have hfs56 := blk_frozen BK294.out 2
                                      refine skip_ (w1 := ?_) (by rfl) rfl ?_ ?_
                                      rotate_left
                                      · go_simp
                                        rfl
                                      refine hK.out _ _ ?_
                                      clear hK K
                                      refine done_ (done_of HT_.out (by kernel_rfl)) ?_
                                      have p53 : 0 ≤ (x9_3 : Int) := of_decide_eq_true (by first | (with_reducible assumption) | assumption)
                                      have q53 : x9_3 < (a0.size : Int) := of_decide_eq_true (by first | (with_reducible assumption) | assumption)
                                      have hx53 := bt_at a0 x9_3
                                      replace p53 := eq_true p53
                                      replace q53 := eq_true q53
                                      try go_wp2
                                      go_roundg kj37
                                      case measure => have := HK1.out; have := HJ3.out; have := HK3.out; have := HJ37.out; omega
                                      case rel => exact ⟨(wrap64 ((wrap64 (x9_3 + 1)) + 1)), (x295002_3 ++ (a0.extract (x9_3 : Int).toNat ((wrap64 (x9_3 + 1)) : Int).toNat)), (by first | rfl | (simp; done) | (simp [*]; done)), H', ⟨by have := HK1.out; have := HJ3.out; have := HK3.out; have := HJ37.out; omega⟩, ⟨by (with_reducible repeat (first | apply Kd.R_alloc | apply Kd.R_drewN | apply Kd.R_drew)); exact Kd.R_mono (Kd.R_far (p := ⟨gb294, 2, none⟩) (Kd.R_mono HO_4.out (fun k_ hk => (⟨hk, hk⟩ : _ ∧ k_ ≠ gb294))) (fun _ hk => hk.2) (.string (x295002_3 ++ (a0.extract (x9_3 : Int).toNat ((wrap64 (x9_3 + 1)) : Int).toNat)))) (fun _ hk => hk.1)⟩, ⟨by (with_reducible repeat (first | refine blk_drewN ?_ _ | refine blk_drew ?_ | refine blk_alloc ?_ _)); refine blk_put (cs := #[.int .i64 2, .int .i64 0, .string x295002_3]) ?_ 2 _ rfl; (with_reducible repeat (first | refine blk_drewN ?_ _ | refine blk_drew ?_ | refine blk_alloc ?_ _)); exact BK294.out⟩, ⟨by repeat (first | (with_reducible first | exact HB.out | apply below_alloc | apply pw_below_drewN | apply below_drew1 | refine below_set ?_ GE294.out) | exact HB.out)⟩⟩
                                    · rw [if_neg c54] at H
                                      have c54b0 : ((bt a0 x9_3) == 0) = false := beq_eq_false_iff_ne.mpr c54
                                      have c54b1 : ((bt a0 x9_3) != 0) = true := bne_iff_ne.mpr c54
                                      have H' := Aside0.mk H
                                      clear H
                                      try go_wp2
                                      have n0_ := Aside0.mk (Kd.R_drew HO_4.out)
                                      have n1_ := Aside0.mk (blk_drew BK294.out)
                                      have n2_ := Aside0.mk (below_drew1 HB.out)
                                      clear HO_4
                                      clear BK294
                                      clear HB
                                      have HO_4 := n0_
                                      have BK294 := n1_
                                      have HB := n2_
                                      clear n0_ n1_ n2_
                                      refine start_ (n := 10) (S := fun w' => w'.cell? ⟨gb294, 0, none⟩ = some (.int .i64 2) ∧ w'.cell? ⟨gb294, 1, none⟩ = some (.int .i64 0) ∧ w'.cell? ⟨gb294, 2, none⟩ = some (.string x295002_3)) (ds := [9]) #[false, false, false, false, false, false, false, false, false, false] (by kernel_rfl) rfl rfl ⟨(blk_cell BK294.out 0).trans rfl, (blk_cell BK294.out 1).trans rfl, (blk_cell BK294.out 2).trans rfl⟩ (fun hHeld => ?_); refine with_tabW aquiferref03_Decode.tab17 aquiferref03_Decode.bits17 (fun HT_ HW_ => ?_)
                                      generalize wc.drew = w57 at HO_4 BK294 HB hHeld ⊢
                                      refine pure_ (i := 0) (N := some 76) (v := ?_) (a' := ?_) #[true, false, false, false, false, false, false, false, false, false] rfl rfl (any_of HT_.out (by kernel_rfl)) (fun _ _ _ h => h) (Or.inl ⟨by rfl, ?_⟩) ?_ ?_
                                      rotate_left
                                      · intro w'
                                        go_simp
                                        with_reducible rfl
                                      rotate_left
                                      · simp only [Act.put, List.setIfInBounds_toArray, List.set_cons_zero, List.set_cons_succ, i64_w, i32_w]
                                        rfl
                                      refine pure_ (i := 2) (N := some 78) (v := ?_) (a' := ?_) #[true, false, true, false, false, false, false, false, false, false] rfl rfl (any_of HT_.out (by kernel_rfl)) (fun _ _ _ h => h) (Or.inl ⟨by rfl, ?_⟩) ?_ ?_
                                      rotate_left
                                      · intro w'
                                        go_simp
                                        with_reducible rfl
                                      rotate_left
                                      · simp only [Act.put, List.setIfInBounds_toArray, List.set_cons_zero, List.set_cons_succ, i64_w, i32_w]
                                        rfl
                                      refine pure_ (i := 3) (N := some 79) (v := ?_) (a' := ?_) #[true, false, true, true, false, false, false, false, false, false] rfl rfl (any_of HT_.out (by kernel_rfl)) (fun _ _ _ h => h) (Or.inl ⟨by rfl, ?_⟩) ?_ ?_
                                      rotate_left
                                      · intro w'
                                        go_simp
                                        with_reducible rfl
                                      rotate_left
                                      · simp only [Act.put, List.setIfInBounds_toArray, List.set_cons_zero, List.set_cons_succ, i64_w, i32_w]
                                        rfl
                                      refine pure_ (i := 4) (N := some 80) (v := ?_) (a' := ?_) #[true, false, true, true, true, false, false, false, false, false] rfl rfl (any_of HT_.out (by kernel_rfl)) (fun _ _ _ h => h) (Or.inl ⟨by rfl, ?_⟩) ?_ ?_
                                      rotate_left
                                      · intro w'
                                        go_simp
                                        with_reducible rfl
                                      rotate_left
                                      · simp only [Act.put, List.setIfInBounds_toArray, List.set_cons_zero, List.set_cons_succ, i64_w, i32_w]
                                        rfl
                                      refine pure_ (i := 5) (N := some 81) (v := ?_) (a' := ?_) #[true, false, true, true, true, true, false, false, false, false] rfl rfl (any_of HT_.out (by kernel_rfl)) (fun _ _ _ h => h) (Or.inl ⟨by rfl, ?_⟩) ?_ ?_
                                      rotate_left
                                      · intro w'
                                        go_simp
                                        with_reducible rfl
                                      rotate_left
                                      · simp only [Act.put, List.setIfInBounds_toArray, List.set_cons_zero, List.set_cons_succ, i64_w, i32_w]
                                        rfl
                                      refine pure_ (i := 6) (N := some 82) (v := ?_) (a' := ?_) #[true, false, true, true, true, true, true, false, false, false] rfl rfl (any_of HT_.out (by kernel_rfl)) (fun _ _ _ h => h) (Or.inl ⟨by rfl, ?_⟩) ?_ ?_
                                      rotate_left
                                      · intro w'
                                        go_simp
                                        with_reducible rfl
                                      rotate_left
                                      · simp only [Act.put, List.setIfInBounds_toArray, List.set_cons_zero, List.set_cons_succ, i64_w, i32_w]
                                        rfl
                                      refine take_ (i := 1) (N := some 77) (v := ?_) (a' := ?_) #[true, true, true, true, true, true, true, false, false, false] rfl rfl (take_ofW HT_.out HW_.out (by kernel_rfl)) (fun _ _ _ h => h) (Or.inl ⟨by rfl, ?_⟩) hHeld ?_ ?_
                                      rotate_left
                                      · rintro w' ⟨s0, s1, s2⟩
                                        go_simp
                                        with_reducible rfl
                                      rotate_left
                                      · simp only [Act.put, List.setIfInBounds_toArray, List.set_cons_zero, List.set_cons_succ, i64_w, i32_w]
                                        rfl
                                      refine pure_ (i := 7) (N := some 83) (v := ?_) (a' := ?_) #[true, true, true, true, true, true, true, true, false, false] rfl rfl (any_of HT_.out (by kernel_rfl)) (fun _ _ _ h => h) (Or.inl ⟨by rfl, ?_⟩) ?_ ?_
                                      rotate_left
                                      · intro w'
                                        go_simp
                                        with_reducible rfl
                                      rotate_left
                                      · simp only [Act.put, List.setIfInBounds_toArray, List.set_cons_zero, List.set_cons_succ, i64_w, i32_w]
                                        rfl
                                      refine pure_ (i := 8) (N := some 84) (v := ?_) (a' := ?_) #[true, true, true, true, true, true, true, true, true, false] rfl rfl (any_of HT_.out (by kernel_rfl)) (fun _ _ _ h => h) (Or.inl ⟨by rfl, ?_⟩) ?_ ?_
                                      rotate_left
                                      · intro w'
                                        go_simp
                                        with_reducible rfl
                                      rotate_left
                                      · simp only [Act.put, List.setIfInBounds_toArray, List.set_cons_zero, List.set_cons_succ, i64_w, i32_w]
                                        rfl
                                      refine last_ (i := 9) (N := none) #[true, true, true, true, true, true, true, true, true, true] rfl rfl (one_of HT_.out (by kernel_rfl)) (by decide) (fun K hK => ?_)
                                      have hs58 : w57.cell? ⟨gb294, 2, none⟩ = some (.string x295002_3) := (blk_cell BK294.out 2).trans rfl
                                      have hfs58 := blk_frozen BK294.out 2
                                      refine skip_ (w1 := ?_) (by rfl) rfl ?_ ?_
                                      rotate_left
                                      · go_simp
                                        rfl
                                      refine hK.out _ _ ?_
                                      clear hK K
                                      refine done_ (done_of HT_.out (by kernel_rfl)) ?_
                                      have p53 : 0 ≤ (x9_3 : Int) := of_decide_eq_true (by first | (with_reducible assumption) | assumption)
                                      have q53 : x9_3 < (a0.size : Int) := of_decide_eq_true (by first | (with_reducible assumption) | assumption)
                                      have hx53 := bt_at a0 x9_3
                                      replace p53 := eq_true p53
                                      replace q53 := eq_true q53
                                      try go_wp2
                                      go_roundg kj37
                                      case measure => have := HK1.out; have := HJ3.out; have := HK3.out; have := HJ37.out; omega
                                      case rel => exact ⟨(wrap64 (x9_3 + 1)), (x295002_3 ++ (a0.extract (x9_3 : Int).toNat ((wrap64 (x9_3 + 1)) : Int).toNat)), (by first | rfl | (simp; done) | (simp [*]; done)), H', ⟨by have := HK1.out; have := HJ3.out; have := HK3.out; have := HJ37.out; omega⟩, ⟨by (with_reducible repeat (first | apply Kd.R_alloc | apply Kd.R_drewN | apply Kd.R_drew)); exact Kd.R_mono (Kd.R_far (p := ⟨gb294, 2, none⟩) (Kd.R_mono HO_4.out (fun k_ hk => (⟨hk, hk⟩ : _ ∧ k_ ≠ gb294))) (fun _ hk => hk.2) (.string (x295002_3 ++ (a0.extract (x9_3 : Int).toNat ((wrap64 (x9_3 + 1)) : Int).toNat)))) (fun _ hk => hk.1)⟩, ⟨by (with_reducible repeat (first | refine blk_drewN ?_ _ | refine blk_drew ?_ | refine blk_alloc ?_ _)); refine blk_put (cs := #[.int .i64 2, .int .i64 0, .string x295002_3]) ?_ 2 _ rfl; (with_reducible repeat (first | refine blk_drewN ?_ _ | refine blk_drew ?_ | refine blk_alloc ?_ _)); exact BK294.out⟩, ⟨by repeat (first | (with_reducible first | exact HB.out | apply below_alloc | apply pw_below_drewN | apply below_drew1 | refine below_set ?_ GE294.out) | exact HB.out)⟩⟩
                                  · rw [if_neg c52] at H
                                    exact absurd H (by simp)
                                · rw [if_neg c51] at H
                                  exact absurd H (by simp)
                              · rw [if_neg c50] at H
                                exact absurd H (by simp)
                            · rw [if_neg c49] at H
                              exact absurd H (by simp)
                          · rw [if_neg c48] at H
                            exact absurd H (by simp)
                        · replace c47 := Bool.eq_false_iff.mpr c47
                          subst c47
                          have H1 : (if x4_1.length < 4398046511104 then ((aquiferref03_bytes.f kj37 2 0 x295002_3).bind fun t304 => (if (wrap64 ((a0.size : Int) - x5_1)) < ((strOfNums t304).size : Int) then (some (([] : List (S45)), 5)) else (if 0 ≤ x5_1 then (if x5_1 ≤ (wrap64 (x5_1 + ((strOfNums t304).size : Int))) then (if (wrap64 (x5_1 + ((strOfNums t304).size : Int))) ≤ (a0.size : Int) then (if (a0.extract (x5_1 : Int).toNat ((wrap64 (x5_1 + ((strOfNums t304).size : Int))) : Int).toNat).toList = (strOfNums t304).toList then (aquiferref03_Decode.l0 kj37 a0 (x4_1 ++ [(⟨2, 0, x295002_3⟩ : S45)]) (wrap64 (x5_1 + ((strOfNums t304).size : Int)))) else (some (([] : List (S45)), 5))) else (none)) else (none)) else (none)))) else (none)) = some (r1, r2) := by rw [if_neg (show ¬ (false = true) by decide)] at H; exact H
                          clear H
                          have H := H1
                          clear H1
                          by_cases c59 : x4_1.length < 4398046511104
                          · rw [if_pos c59] at H
                            have LMc59 := Aside0.mk c59
                            clear c59
                            obtain ⟨y301, hy301⟩ : ∃ y_ : List (S45), y_ = (x4_1 ++ [(⟨2, 0, x295002_3⟩ : S45)]) := ⟨_, rfl⟩
                            replace H : ((aquiferref03_bytes.f kj37 2 0 x295002_3).bind fun t304 => (if (wrap64 ((a0.size : Int) - x5_1)) < ((strOfNums t304).size : Int) then (some (([] : List (S45)), 5)) else (if 0 ≤ x5_1 then (if x5_1 ≤ (wrap64 (x5_1 + ((strOfNums t304).size : Int))) then (if (wrap64 (x5_1 + ((strOfNums t304).size : Int))) ≤ (a0.size : Int) then (if (a0.extract (x5_1 : Int).toNat ((wrap64 (x5_1 + ((strOfNums t304).size : Int))) : Int).toNat).toList = (strOfNums t304).toList then (aquiferref03_Decode.l0 kj37 a0 y301 (wrap64 (x5_1 + ((strOfNums t304).size : Int)))) else (some (([] : List (S45)), 5))) else (none)) else (none)) else (none)))) = some (r1, r2) := by first | (rw [hy301]; with_reducible exact H) | (have H2_ := (Option.bind_some _ _).symm.trans H; rw [hy301]; with_reducible exact H2_) | (have H2_ := (Option.bind_some _ _).symm.trans H; with_reducible exact H2_) | with_reducible exact H | (rw [hy301]; exact H) | exact H
                            have Ny301 := Aside0.mk hy301
                            clear hy301
                            replace H := Option.bind_eq_some_iff.mp H
                            obtain ⟨t304, A600, H⟩ := H
                            replace H : (if (wrap64 ((a0.size : Int) - x5_1)) < ((strOfNums t304).size : Int) then (some (([] : List (S45)), 5)) else (if 0 ≤ x5_1 then (if x5_1 ≤ (wrap64 (x5_1 + ((strOfNums t304).size : Int))) then (if (wrap64 (x5_1 + ((strOfNums t304).size : Int))) ≤ (a0.size : Int) then (if (a0.extract (x5_1 : Int).toNat ((wrap64 (x5_1 + ((strOfNums t304).size : Int))) : Int).toNat).toList = (strOfNums t304).toList then (aquiferref03_Decode.l0 kj37 a0 y301 (wrap64 (x5_1 + ((strOfNums t304).size : Int)))) else (some (([] : List (S45)), 5))) else (none)) else (none)) else (none))) = some (r1, r2) := H
                            have A60 := Aside0.mk A600
                            clear A600
                            by_cases c61 : (wrap64 ((a0.size : Int) - x5_1)) < ((strOfNums t304).size : Int)
                            · rw [if_pos c61] at H
                              have c61b0 : decide ((wrap64 ((a0.size : Int) - x5_1)) < ((strOfNums t304).size : Int)) = true := decide_eq_true c61
                              clear c61
                              simp only [Option.some.injEq, Prod.mk.injEq] at H
                              obtain ⟨rfl, rfl⟩ := H
                              have hcz62_0 : wc.cell? ⟨gb294, 0, none⟩ = some (.int .i64 2) := (blk_cell BK294.out 0).trans rfl
                              have hcz62_1 : wc.cell? ⟨gb294, 1, none⟩ = some (.int .i64 0) := (blk_cell BK294.out 1).trans rfl
                              have hcz62_2 : wc.cell? ⟨gb294, 2, none⟩ = some (.string x295002_3) := (blk_cell BK294.out 2).trans rfl
                              have hfz62_0 := blk_frozen BK294.out 0
                              have hfz62_1 := blk_frozen BK294.out 1
                              have hfz62_2 := blk_frozen BK294.out 2
                              go_wp2_with (first | ((with_reducible refine gate_builtin (b := .append) (xs := #[.tmp 93, .tmp 95]) rfl ?_); (try (refine gate_guard (by rfl) ?_; dsimp only)); at_builtin; refine Kd.R_append k45 (w0 := w) w.heap.size rfl (.tmp 93) (.tmp 95) 22 45 (.agg #[(.int .i64 0), (.int .i64 0), (.string ⟨#[]⟩)]) 32 rfl Try.underlying22 info45 rfl (by decide) (by omega) u4 x4_1 (⟨2, 0, x295002_3⟩ : S45) [.int .i64 2, .int .i64 0, .string x295002_3] (fun k_ => k_ ≠ gb294) (fun _ => False) rfl rfl ?aP (fun _ hk => hk.elim) ?aF ?aO ?aB ?aS ?aL ?_; (case aP => exact k45_mkM _ _ _ (⟨2, 0, x295002_3⟩ : S45)); (case aB => exact (by repeat (first | (with_reducible first | exact HB.out | apply below_alloc | apply pw_below_drewN | apply below_drew1 | refine below_set ?_ GE294.out) | exact HB.out))); (case aF => exact (fun k_ hk => Kd.freshB (g := gb294) (o := .cells #[.int .i64 2, .int .i64 0, .string x295002_3] 45 (0, 0)) (by (with_reducible repeat (first | refine blk_drewN ?_ _ | refine blk_drew ?_ | refine blk_alloc ?_ _)); exact BK294.out) k_ hk)); (case aO => exact (by (with_reducible repeat (first | apply Kd.R_alloc | apply Kd.R_drewN | apply Kd.R_drew)); exact HO_4.out)); (case aS => exact (below_size (by repeat (first | (with_reducible first | exact HB.out | apply below_alloc | apply pw_below_drewN | apply below_drew1 | refine below_set ?_ GE294.out) | exact HB.out)))); (case aL => have := LMc59.out; omega); intro v302 w63 ho hb hg hat; rw [← Ny301.out] at ho; have n0_ := Aside0.mk (blk_grown (g := gb294) (o := .cells #[.int .i64 2, .int .i64 0, .string x295002_3] 45 (0, 0)) (by (with_reducible repeat (first | refine blk_drewN ?_ _ | refine blk_drew ?_ | refine blk_alloc ?_ _)); exact BK294.out) hg (Kd.R_away HO_4.out (fun _ hk => hk))); have n1_ := Aside0.mk (hb); have n2_ := Aside0.mk (ho); clear BK294; clear HB; clear HO_4; have BK294 := n0_; have HB := n1_; have HO303 := n2_; clear n0_ n1_ n2_; clear ho hb hg hat; have hcz64_0 : w63.cell? ⟨gb294, 0, none⟩ = some (.int .i64 2) := (blk_cell BK294.out 0).trans rfl; have hcz64_1 : w63.cell? ⟨gb294, 1, none⟩ = some (.int .i64 0) := (blk_cell BK294.out 1).trans rfl; have hcz64_2 : w63.cell? ⟨gb294, 2, none⟩ = some (.string x295002_3) := (blk_cell BK294.out 2).trans rfl; have hfz64_0 := blk_frozen BK294.out 0; have hfz64_1 := blk_frozen BK294.out 1; have hfz64_2 := blk_frozen BK294.out 2) | ((with_reducible refine gate_callee (f := 25) rfl ?_); refine goesL_ (some 98) rfl rfl Try.func25 (by kernel_rfl) rfl #[.agg #[.int .i64 2, .int .i64 0, .string x295002_3]] rfl (by (try simp only [List.map_toArray, List.map_cons, List.map_nil]); first | done | rfl | (simp only [List.length_drop, List.length_take]; rfl)) ?_; (with_reducible refine (aquiferref03_bytes.calls kj37 2 0 x295002_3 t304 _ A60.out).mono ?_); rintro e w65 ⟨v305, rfl, ho0, hb⟩; refine ⟨_, rfl, ?_⟩; have n0_ := Aside0.mk (Kd.R_below (by (with_reducible repeat (first | apply Kd.R_alloc | apply Kd.R_drewN | apply Kd.R_drew)); exact HO303.out) hb); have n1_ := Aside0.mk (Kd.R_lower ho0 (below_size (by repeat (first | (with_reducible first | exact HB.out | apply below_alloc | apply pw_below_drewN | apply below_drew1 | refine below_set ?_ GE294.out) | exact HB.out)))); have n2_ := Aside0.mk (blk_below (g := gb294) (o := .cells #[.int .i64 2, .int .i64 0, .string x295002_3] 45 (0, 0)) (by (with_reducible repeat (first | refine blk_drewN ?_ _ | refine blk_drew ?_ | refine blk_alloc ?_ _)); exact BK294.out) hb); have n3_ := Aside0.mk (below_step (by repeat (first | (with_reducible first | exact HB.out | apply below_alloc | apply pw_below_drewN | apply below_drew1 | refine below_set ?_ GE294.out) | exact HB.out)) hb); clear HO303; clear BK294; clear HB; have HO303 := n0_; have HO306 := n1_; have BK294 := n2_; have HB := n3_; clear n0_ n1_ n2_ n3_; (try clear hb); (try clear hb2); (try clear hk); (try clear hi); (try clear ho0); have hcv66 := own_string (P := Try.prog) Try.underlying46 Try.underlying5 Try.underlying9 (Kd.own_of_R HO306.out)))
                              go_ret2
                              exact ⟨_, by first | rfl | (simp [errW_none, errW_some] <;> rfl) | (simp [*, errW_none, errW_some] <;> rfl), by first | exact Kd.R_nil _ _ _ _ _ | exact Kd.N_nil _ _ _ _ _ | exact Kd.V_nil _ _ _ _ _ | exact Kd.Q_nil _ _ _ _ _ | exact Kd.S_nil _ _ _ _ _, by repeat (first | (with_reducible first | exact HB.out | apply below_alloc | apply pw_below_drewN | apply below_drew1 | refine below_set ?_ GE294.out) | exact HB.out)⟩
                            · rw [if_neg c61] at H
                              have c61b0 : decide ((wrap64 ((a0.size : Int) - x5_1)) < ((strOfNums t304).size : Int)) = false := decide_eq_false c61
                              clear c61
                              by_cases c67 : 0 ≤ x5_1
                              · rw [if_pos c67] at H
                                have c67b0 := eq_true c67
                                have c67b1 : decide (0 ≤ x5_1) = true := decide_eq_true c67
                                clear c67
                                by_cases c68 : x5_1 ≤ (wrap64 (x5_1 + ((strOfNums t304).size : Int)))
                                · rw [if_pos c68] at H
                                  have c68b0 := eq_true c68
                                  have c68b1 : decide (x5_1 ≤ (wrap64 (x5_1 + ((strOfNums t304).size : Int)))) = true := decide_eq_true c68
                                  by_cases c69 : (wrap64 (x5_1 + ((strOfNums t304).size : Int))) ≤ (a0.size : Int)
                                  · rw [if_pos c69] at H
                                    have c69b0 := eq_true c69
                                    have c69b1 : decide ((wrap64 (x5_1 + ((strOfNums t304).size : Int))) ≤ (a0.size : Int)) = true := decide_eq_true c69
                                    by_cases c70 : (a0.extract (x5_1 : Int).toNat ((wrap64 (x5_1 + ((strOfNums t304).size : Int))) : Int).toNat).toList = (strOfNums t304).toList
                                    · rw [if_pos c70] at H
                                      have c70b0 : ((a0.extract (x5_1 : Int).toNat ((wrap64 (x5_1 + ((strOfNums t304).size : Int))) : Int).toNat).toList == (strOfNums t304).toList) = true := beq_iff_eq.mpr c70
                                      have c70b1 : ((a0.extract (x5_1 : Int).toNat ((wrap64 (x5_1 + ((strOfNums t304).size : Int))) : Int).toNat).toList != (strOfNums t304).toList) = false := bne_eq_false_iff_eq.mpr c70
                                      clear c70
                                      have H' := Aside0.mk H
                                      clear H
                                      have hcz71_0 : wc.cell? ⟨gb294, 0, none⟩ = some (.int .i64 2) := (blk_cell BK294.out 0).trans rfl
                                      have hcz71_1 : wc.cell? ⟨gb294, 1, none⟩ = some (.int .i64 0) := (blk_cell BK294.out 1).trans rfl
                                      have hcz71_2 : wc.cell? ⟨gb294, 2, none⟩ = some (.string x295002_3) := (blk_cell BK294.out 2).trans rfl
                                      have hfz71_0 := blk_frozen BK294.out 0
                                      have hfz71_1 := blk_frozen BK294.out 1
                                      have hfz71_2 := blk_frozen BK294.out 2
                                      go_wp2_with (first | ((with_reducible refine gate_builtin (b := .append) (xs := #[.tmp 93, .tmp 95]) rfl ?_); (try (refine gate_guard (by rfl) ?_; dsimp only)); at_builtin; refine Kd.R_append k45 (w0 := w) w.heap.size rfl (.tmp 93) (.tmp 95) 22 45 (.agg #[(.int .i64 0), (.int .i64 0), (.string ⟨#[]⟩)]) 32 rfl Try.underlying22 info45 rfl (by decide) (by omega) u4 x4_1 (⟨2, 0, x295002_3⟩ : S45) [.int .i64 2, .int .i64 0, .string x295002_3] (fun k_ => k_ ≠ gb294) (fun _ => False) rfl rfl ?aP (fun _ hk => hk.elim) ?aF ?aO ?aB ?aS ?aL ?_; (case aP => exact k45_mkM _ _ _ (⟨2, 0, x295002_3⟩ : S45)); (case aB => exact (by repeat (first | (with_reducible first | exact HB.out | apply below_alloc | apply pw_below_drewN | apply below_drew1 | refine below_set ?_ GE294.out) | exact HB.out))); (case aF => exact (fun k_ hk => Kd.freshB (g := gb294) (o := .cells #[.int .i64 2, .int .i64 0, .string x295002_3] 45 (0, 0)) (by (with_reducible repeat (first | refine blk_drewN ?_ _ | refine blk_drew ?_ | refine blk_alloc ?_ _)); exact BK294.out) k_ hk)); (case aO => exact (by (with_reducible repeat (first | apply Kd.R_alloc | apply Kd.R_drewN | apply Kd.R_drew)); exact HO_4.out)); (case aS => exact (below_size (by repeat (first | (with_reducible first | exact HB.out | apply below_alloc | apply pw_below_drewN | apply below_drew1 | refine below_set ?_ GE294.out) | exact HB.out)))); (case aL => have := LMc59.out; omega); intro v302 w72 ho hb hg hat; rw [← Ny301.out] at ho; have n0_ := Aside0.mk (blk_grown (g := gb294) (o := .cells #[.int .i64 2, .int .i64 0, .string x295002_3] 45 (0, 0)) (by (with_reducible repeat (first | refine blk_drewN ?_ _ | refine blk_drew ?_ | refine blk_alloc ?_ _)); exact BK294.out) hg (Kd.R_away HO_4.out (fun _ hk => hk))); have n1_ := Aside0.mk (hb); have n2_ := Aside0.mk (ho); clear BK294; clear HB; clear HO_4; have BK294 := n0_; have HB := n1_; have HO303 := n2_; clear n0_ n1_ n2_; clear ho hb hg hat; have hcz73_0 : w72.cell? ⟨gb294, 0, none⟩ = some (.int .i64 2) := (blk_cell BK294.out 0).trans rfl; have hcz73_1 : w72.cell? ⟨gb294, 1, none⟩ = some (.int .i64 0) := (blk_cell BK294.out 1).trans rfl; have hcz73_2 : w72.cell? ⟨gb294, 2, none⟩ = some (.string x295002_3) := (blk_cell BK294.out 2).trans rfl; have hfz73_0 := blk_frozen BK294.out 0; have hfz73_1 := blk_frozen BK294.out 1; have hfz73_2 := blk_frozen BK294.out 2) | ((with_reducible refine gate_callee (f := 25) rfl ?_); refine goesL_ (some 98) rfl rfl Try.func25 (by kernel_rfl) rfl #[.agg #[.int .i64 2, .int .i64 0, .string x295002_3]] rfl (by (try simp only [List.map_toArray, List.map_cons, List.map_nil]); first | done | rfl | (simp only [List.length_drop, List.length_take]; rfl)) ?_; (with_reducible refine (aquiferref03_bytes.calls kj37 2 0 x295002_3 t304 _ A60.out).mono ?_); rintro e w74 ⟨v305, rfl, ho0, hb⟩; refine ⟨_, rfl, ?_⟩; have n0_ := Aside0.mk (Kd.R_below (by (with_reducible repeat (first | apply Kd.R_alloc | apply Kd.R_drewN | apply Kd.R_drew)); exact HO303.out) hb); have n1_ := Aside0.mk (Kd.R_lower ho0 (below_size (by repeat (first | (with_reducible first | exact HB.out | apply below_alloc | apply pw_below_drewN | apply below_drew1 | refine below_set ?_ GE294.out) | exact HB.out)))); have n2_ := Aside0.mk (blk_below (g := gb294) (o := .cells #[.int .i64 2, .int .i64 0, .string x295002_3] 45 (0, 0)) (by (with_reducible repeat (first | refine blk_drewN ?_ _ | refine blk_drew ?_ | refine blk_alloc ?_ _)); exact BK294.out) hb); have n3_ := Aside0.mk (below_step (by repeat (first | (with_reducible first | exact HB.out | apply below_alloc | apply pw_below_drewN | apply below_drew1 | refine below_set ?_ GE294.out) | exact HB.out)) hb); clear HO303; clear BK294; clear HB; have HO303 := n0_; have HO306 := n1_; have BK294 := n2_; have HB := n3_; clear n0_ n1_ n2_ n3_; (try clear hb); (try clear hb2); (try clear hk); (try clear hi); (try clear ho0); have hcv75 := own_string (P := Try.prog) Try.underlying46 Try.underlying5 Try.underlying9 (Kd.own_of_R HO306.out)))
                                      go_roundg kj37
                                      case measure => have := HK1.out; have := HJ3.out; have := HK3.out; have := HJ37.out; omega
                                      case rel => exact ⟨(y301), (wrap64 (x5_1 + ((strOfNums t304).size : Int))), (by first | rfl | (simp; done) | (simp [*]; done)), H', ⟨by have := HK1.out; have := HJ3.out; have := HK3.out; have := HJ37.out; omega⟩, ⟨by (with_reducible repeat (first | apply Kd.R_alloc | apply Kd.R_drewN | apply Kd.R_drew)); exact Kd.R_mono HO303.out (fun _ hk => trivial)⟩, ⟨by repeat (first | (with_reducible first | exact HB.out | apply below_alloc | apply pw_below_drewN | apply below_drew1 | refine below_set ?_ GE294.out) | exact HB.out)⟩⟩
                                    · rw [if_neg c70] at H
                                      have c70b0 : ((a0.extract (x5_1 : Int).toNat ((wrap64 (x5_1 + ((strOfNums t304).size : Int))) : Int).toNat).toList == (strOfNums t304).toList) = false := beq_eq_false_iff_ne.mpr c70
                                      have c70b1 : ((a0.extract (x5_1 : Int).toNat ((wrap64 (x5_1 + ((strOfNums t304).size : Int))) : Int).toNat).toList != (strOfNums t304).toList) = true := bne_iff_ne.mpr c70
                                      simp only [Option.some.injEq, Prod.mk.injEq] at H
                                      obtain ⟨rfl, rfl⟩ := H
                                      have hcz76_0 : wc.cell? ⟨gb294, 0, none⟩ = some (.int .i64 2) := (blk_cell BK294.out 0).trans rfl
                                      have hcz76_1 : wc.cell? ⟨gb294, 1, none⟩ = some (.int .i64 0) := (blk_cell BK294.out 1).trans rfl
                                      have hcz76_2 : wc.cell? ⟨gb294, 2, none⟩ = some (.string x295002_3) := (blk_cell BK294.out 2).trans rfl
                                      have hfz76_0 := blk_frozen BK294.out 0
                                      have hfz76_1 := blk_frozen BK294.out 1
                                      have hfz76_2 := blk_frozen BK294.out 2
                                      go_wp2_with (first | ((with_reducible refine gate_builtin (b := .append) (xs := #[.tmp 93, .tmp 95]) rfl ?_); (try (refine gate_guard (by rfl) ?_; dsimp only)); at_builtin; refine Kd.R_append k45 (w0 := w) w.heap.size rfl (.tmp 93) (.tmp 95) 22 45 (.agg #[(.int .i64 0), (.int .i64 0), (.string ⟨#[]⟩)]) 32 rfl Try.underlying22 info45 rfl (by decide) (by omega) u4 x4_1 (⟨2, 0, x295002_3⟩ : S45) [.int .i64 2, .int .i64 0, .string x295002_3] (fun k_ => k_ ≠ gb294) (fun _ => False) rfl rfl ?aP (fun _ hk => hk.elim) ?aF ?aO ?aB ?aS ?aL ?_; (case aP => exact k45_mkM _ _ _ (⟨2, 0, x295002_3⟩ : S45)); (case aB => exact (by repeat (first | (with_reducible first | exact HB.out | apply below_alloc | apply pw_below_drewN | apply below_drew1 | refine below_set ?_ GE294.out) | exact HB.out))); (case aF => exact (fun k_ hk => Kd.freshB (g := gb294) (o := .cells #[.int .i64 2, .int .i64 0, .string x295002_3] 45 (0, 0)) (by (with_reducible repeat (first | refine blk_drewN ?_ _ | refine blk_drew ?_ | refine blk_alloc ?_ _)); exact BK294.out) k_ hk)); (case aO => exact (by (with_reducible repeat (first | apply Kd.R_alloc | apply Kd.R_drewN | apply Kd.R_drew)); exact HO_4.out)); (case aS => exact (below_size (by repeat (first | (with_reducible first | exact HB.out | apply below_alloc | apply pw_below_drewN | apply below_drew1 | refine below_set ?_ GE294.out) | exact HB.out)))); (case aL => have := LMc59.out; omega); intro v302 w77 ho hb hg hat; rw [← Ny301.out] at ho; have n0_ := Aside0.mk (blk_grown (g := gb294) (o := .cells #[.int .i64 2, .int .i64 0, .string x295002_3] 45 (0, 0)) (by (with_reducible repeat (first | refine blk_drewN ?_ _ | refine blk_drew ?_ | refine blk_alloc ?_ _)); exact BK294.out) hg (Kd.R_away HO_4.out (fun _ hk => hk))); have n1_ := Aside0.mk (hb); have n2_ := Aside0.mk (ho); clear BK294; clear HB; clear HO_4; have BK294 := n0_; have HB := n1_; have HO303 := n2_; clear n0_ n1_ n2_; clear ho hb hg hat; have hcz78_0 : w77.cell? ⟨gb294, 0, none⟩ = some (.int .i64 2) := (blk_cell BK294.out 0).trans rfl; have hcz78_1 : w77.cell? ⟨gb294, 1, none⟩ = some (.int .i64 0) := (blk_cell BK294.out 1).trans rfl; have hcz78_2 : w77.cell? ⟨gb294, 2, none⟩ = some (.string x295002_3) := (blk_cell BK294.out 2).trans rfl; have hfz78_0 := blk_frozen BK294.out 0; have hfz78_1 := blk_frozen BK294.out 1; have hfz78_2 := blk_frozen BK294.out 2) | ((with_reducible refine gate_callee (f := 25) rfl ?_); refine goesL_ (some 98) rfl rfl Try.func25 (by kernel_rfl) rfl #[.agg #[.int .i64 2, .int .i64 0, .string x295002_3]] rfl (by (try simp only [List.map_toArray, List.map_cons, List.map_nil]); first | done | rfl | (simp only [List.length_drop, List.length_take]; rfl)) ?_; (with_reducible refine (aquiferref03_bytes.calls kj37 2 0 x295002_3 t304 _ A60.out).mono ?_); rintro e w79 ⟨v305, rfl, ho0, hb⟩; refine ⟨_, rfl, ?_⟩; have n0_ := Aside0.mk (Kd.R_below (by (with_reducible repeat (first | apply Kd.R_alloc | apply Kd.R_drewN | apply Kd.R_drew)); exact HO303.out) hb); have n1_ := Aside0.mk (Kd.R_lower ho0 (below_size (by repeat (first | (with_reducible first | exact HB.out | apply below_alloc | apply pw_below_drewN | apply below_drew1 | refine below_set ?_ GE294.out) | exact HB.out)))); have n2_ := Aside0.mk (blk_below (g := gb294) (o := .cells #[.int .i64 2, .int .i64 0, .string x295002_3] 45 (0, 0)) (by (with_reducible repeat (first | refine blk_drewN ?_ _ | refine blk_drew ?_ | refine blk_alloc ?_ _)); exact BK294.out) hb); have n3_ := Aside0.mk (below_step (by repeat (first | (with_reducible first | exact HB.out | apply below_alloc | apply pw_below_drewN | apply below_drew1 | refine below_set ?_ GE294.out) | exact HB.out)) hb); clear HO303; clear BK294; clear HB; have HO303 := n0_; have HO306 := n1_; have BK294 := n2_; have HB := n3_; clear n0_ n1_ n2_ n3_; (try clear hb); (try clear hb2); (try clear hk); (try clear hi); (try clear ho0); have hcv80 := own_string (P := Try.prog) Try.underlying46 Try.underlying5 Try.underlying9 (Kd.own_of_R HO306.out)))
                                      go_ret2
                                      exact ⟨_, by first | rfl | (simp [errW_none, errW_some] <;> rfl) | (simp [*, errW_none, errW_some] <;> rfl), by first | exact Kd.R_nil _ _ _ _ _ | exact Kd.N_nil _ _ _ _ _ | exact Kd.V_nil _ _ _ _ _ | exact Kd.Q_nil _ _ _ _ _ | exact Kd.S_nil _ _ _ _ _, by repeat (first | (with_reducible first | exact HB.out | apply below_alloc | apply pw_below_drewN | apply below_drew1 | refine below_set ?_ GE294.out) | exact HB.out)⟩
                                  · rw [if_neg c69] at H
                                    exact absurd H (by simp)
                                · rw [if_neg c68] at H
                                  exact absurd H (by simp)
                              · rw [if_neg c67] at H
                                exact absurd H (by simp)
                          · rw [if_neg c59] at H
                            exact absurd H (by simp)
        · rw [if_neg c3] at H
          have c3b0 : decide (x5_1 < (a0.size : Int)) = false := decide_eq_false c3
          clear c3
          replace H := Option.bind_eq_some_iff.mp H
          obtain ⟨⟨t292, t293⟩, A810, H⟩ := H
          replace H : (if t293 = 0 then (if t292.toList = a0.toList then (some (x4_1, 0)) else (some (([] : List (S45)), 5))) else (some (([] : List (S45)), 5))) = some (r1, r2) := H
          have A81 := Aside0.mk A810
          clear A810
          by_cases c82 : t293 = 0
          · rw [if_pos c82] at H
            have c82b0 : (t293 == 0) = true := beq_iff_eq.mpr c82
            have c82b1 : (t293 != 0) = false := bne_eq_false_iff_eq.mpr c82
            clear c82
            by_cases c83 : t292.toList = a0.toList
            · rw [if_pos c83] at H
              have c83b0 : (t292.toList == a0.toList) = true := beq_iff_eq.mpr c83
              have c83b1 : (t292.toList != a0.toList) = false := bne_eq_false_iff_eq.mpr c83
              clear c83
              simp only [Option.some.injEq, Prod.mk.injEq] at H
              obtain ⟨rfl, rfl⟩ := H
              obtain ⟨Ao84, co84, eo84⟩ := Kd.R_slice HO_4.out
              subst eo84
              go_wp2_with (first | ((with_reducible refine gate_callee (f := 11) rfl ?_); refine goesL_ (some 124) rfl rfl Try.func11 (by kernel_rfl) rfl #[.slice Ao84 x4_1.length co84] rfl (by (try simp only [List.map_toArray, List.map_cons, List.map_nil]); first | done | rfl | (simp only [List.length_drop, List.length_take]; rfl)) ?_; (with_reducible refine (aquiferref03_Encode.calls k1 _ _ x4_1 t292 t293 _ ?side1 ?side2 A81.out).mono ?_); (case side1 => repeat (first | exact (Kd.R_reads' HO_4.out).2.2 | (with_reducible refine Kd.C_alloc ?_ _) | (with_reducible refine Kd.C_drewN ?_ _) | (with_reducible refine Kd.C_drew ?_))); (case side2 => exact (Kd.R_reads' HO_4.out).2.1); rintro e w85 ⟨rfl, hb⟩; refine ⟨_, rfl, ?_⟩; have n0_ := Aside0.mk (Kd.R_below (by (with_reducible repeat (first | apply Kd.R_alloc | apply Kd.R_drewN | apply Kd.R_drew)); exact HO_4.out) hb); have n1_ := Aside0.mk (below_step (by repeat (first | (with_reducible first | exact HB.out | apply below_alloc | apply pw_below_drewN | apply below_drew1) | exact HB.out)) hb); clear HO_4; clear HB; have HO_4 := n0_; have HB := n1_; clear n0_ n1_; (try clear hb); (try clear hb2); (try clear hk); (try clear hi)))
              go_ret2
              exact ⟨_, by first | rfl | (simp [errW_none, errW_some] <;> rfl) | (simp [*, errW_none, errW_some] <;> rfl), by (with_reducible repeat (first | apply Kd.R_alloc | apply Kd.R_drewN | apply Kd.R_drew)); exact HO_4.out, by repeat (first | (with_reducible first | exact HB.out | apply below_alloc | apply pw_below_drewN | apply below_drew1) | exact HB.out)⟩
            · rw [if_neg c83] at H
              have c83b0 : (t292.toList == a0.toList) = false := beq_eq_false_iff_ne.mpr c83
              have c83b1 : (t292.toList != a0.toList) = true := bne_iff_ne.mpr c83
              simp only [Option.some.injEq, Prod.mk.injEq] at H
              obtain ⟨rfl, rfl⟩ := H
              obtain ⟨Ao86, co86, eo86⟩ := Kd.R_slice HO_4.out
              subst eo86
              go_wp2_with (first | ((with_reducible refine gate_callee (f := 11) rfl ?_); refine goesL_ (some 124) rfl rfl Try.func11 (by kernel_rfl) rfl #[.slice Ao86 x4_1.length co86] rfl (by (try simp only [List.map_toArray, List.map_cons, List.map_nil]); first | done | rfl | (simp only [List.length_drop, List.length_take]; rfl)) ?_; (with_reducible refine (aquiferref03_Encode.calls k1 _ _ x4_1 t292 t293 _ ?side1 ?side2 A81.out).mono ?_); (case side1 => repeat (first | exact (Kd.R_reads' HO_4.out).2.2 | (with_reducible refine Kd.C_alloc ?_ _) | (with_reducible refine Kd.C_drewN ?_ _) | (with_reducible refine Kd.C_drew ?_))); (case side2 => exact (Kd.R_reads' HO_4.out).2.1); rintro e w87 ⟨rfl, hb⟩; refine ⟨_, rfl, ?_⟩; have n0_ := Aside0.mk (Kd.R_below (by (with_reducible repeat (first | apply Kd.R_alloc | apply Kd.R_drewN | apply Kd.R_drew)); exact HO_4.out) hb); have n1_ := Aside0.mk (below_step (by repeat (first | (with_reducible first | exact HB.out | apply below_alloc | apply pw_below_drewN | apply below_drew1) | exact HB.out)) hb); clear HO_4; clear HB; have HO_4 := n0_; have HB := n1_; clear n0_ n1_; (try clear hb); (try clear hb2); (try clear hk); (try clear hi)))
              go_ret2
              exact ⟨_, by first | rfl | (simp [errW_none, errW_some] <;> rfl) | (simp [*, errW_none, errW_some] <;> rfl), by first | exact Kd.R_nil _ _ _ _ _ | exact Kd.N_nil _ _ _ _ _ | exact Kd.V_nil _ _ _ _ _ | exact Kd.Q_nil _ _ _ _ _ | exact Kd.S_nil _ _ _ _ _, by repeat (first | (with_reducible first | exact HB.out | apply below_alloc | apply pw_below_drewN | apply below_drew1) | exact HB.out)⟩
          · rw [if_neg c82] at H
            have c82b0 : (t293 == 0) = false := beq_eq_false_iff_ne.mpr c82
            have c82b1 : (t293 != 0) = true := bne_iff_ne.mpr c82
            simp only [Option.some.injEq, Prod.mk.injEq] at H
            obtain ⟨rfl, rfl⟩ := H
            obtain ⟨Ao88, co88, eo88⟩ := Kd.R_slice HO_4.out
            subst eo88
            go_wp2_with (first | ((with_reducible refine gate_callee (f := 11) rfl ?_); refine goesL_ (some 124) rfl rfl Try.func11 (by kernel_rfl) rfl #[.slice Ao88 x4_1.length co88] rfl (by (try simp only [List.map_toArray, List.map_cons, List.map_nil]); first | done | rfl | (simp only [List.length_drop, List.length_take]; rfl)) ?_; (with_reducible refine (aquiferref03_Encode.calls k1 _ _ x4_1 t292 t293 _ ?side1 ?side2 A81.out).mono ?_); (case side1 => repeat (first | exact (Kd.R_reads' HO_4.out).2.2 | (with_reducible refine Kd.C_alloc ?_ _) | (with_reducible refine Kd.C_drewN ?_ _) | (with_reducible refine Kd.C_drew ?_))); (case side2 => exact (Kd.R_reads' HO_4.out).2.1); rintro e w89 ⟨rfl, hb⟩; refine ⟨_, rfl, ?_⟩; have n0_ := Aside0.mk (Kd.R_below (by (with_reducible repeat (first | apply Kd.R_alloc | apply Kd.R_drewN | apply Kd.R_drew)); exact HO_4.out) hb); have n1_ := Aside0.mk (below_step (by repeat (first | (with_reducible first | exact HB.out | apply below_alloc | apply pw_below_drewN | apply below_drew1) | exact HB.out)) hb); clear HO_4; clear HB; have HO_4 := n0_; have HB := n1_; clear n0_ n1_; (try clear hb); (try clear hb2); (try clear hk); (try clear hi)))
            go_ret2
            exact ⟨_, by first | rfl | (simp [errW_none, errW_some] <;> rfl) | (simp [*, errW_none, errW_some] <;> rfl), by first | exact Kd.R_nil _ _ _ _ _ | exact Kd.N_nil _ _ _ _ _ | exact Kd.V_nil _ _ _ _ _ | exact Kd.Q_nil _ _ _ _ _ | exact Kd.S_nil _ _ _ _ _, by repeat (first | (with_reducible first | exact HB.out | apply below_alloc | apply pw_below_drewN | apply below_drew1) | exact HB.out)⟩

end Go.Proofs.Ythpleebfhanahaa.MKey
