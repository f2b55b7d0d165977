/- Equality of digests and of inodes. -/
import Derived.Test.YtbhioghpgedkeaaDoorInA
import Derived.Test.YtbhioghpgedkeaaDoorWEqStruct
set_option linter.unusedSimpArgs false
set_option linter.unusedVariables false
namespace Go.Proofs.YtbhioghpgedkeaaDoor.IN
open Go.RowKit Go.Proofs.YtbhioghpgedkeaaDoor.MIt Go.Proofs.YtbhioghpgedkeaaDoorW.PrintWords Go.Proofs.YtbhioghpgedkeaaDoorW.PrintLast Go.Proofs.YtbhioghpgedkeaaDoorW.PrintMore

theorem dg_at {s : List Int} {i : Nat} (h : i < s.length) : (dg s).toArray[i]? = some (.int .u8 (s.getD i 0)) := by
  simp [dg, h]
theorem eqItems_dg (d : Nat) (w : World) (s t : List Int) (hs : s.length = 32) (ht : t.length = 32) : ∀ is : List Nat, (∀ i ∈ is, i < 32) →
    (Op.eqItems (d + 1) 5 1 (dg s).toArray (dg t).toArray is).run Tryd.prog w = .ok (is.all fun i => s.getD i 0 == t.getD i 0) w
  | [], _ => by simp [Op.eqItems]
  | i :: is, h => by
    have hi := h i (by simp)
    have he : Tryd.prog.plainKey 5 = true := by kernel_rfl
    have p1 := run_part_plain (P := Tryd.prog) w he (dg_at (s := s) (by rw [hs]; exact hi))
    have p2 := run_part_plain (P := Tryd.prog) w he (dg_at (s := t) (by rw [ht]; exact hi))
    have p3 := run_equalIn_int (P := Tryd.prog) w d 5 .u8 .u8 (s.getD i 0) (t.getD i 0) Tryd.underlying5
    have ih := eqItems_dg d w s t hs ht is (fun j hj => h j (by simp [hj]))
    simp only [Op.eqItems, Nat.mul_one, Sem.run_bind, p1, p2, p3, Result.andThen_ok, List.all_cons]
    cases hb : (s.getD i 0 == t.getD i 0)
    · simp
    · simpa using ih
theorem all_eq {s t : List Int} (h : s.length = t.length) : ((List.range s.length).all fun i => s.getD i 0 == t.getD i 0) = decide (s = t) := by
  rw [Bool.eq_iff_iff]
  simp only [List.all_eq_true, List.mem_range, beq_iff_eq, decide_eq_true_eq]
  constructor
  · intro hh
    apply List.ext_getElem h
    intro i h1 h2
    have := hh i h1
    simpa [h1, h2] using this
  · rintro rfl i _
    rfl
theorem eq22 (d : Nat) (w : World) {s t : List Int} (hs : s.length = 32) (ht : t.length = 32) :
    (Op.equalIn (d + 2) 22 (.agg (dg s).toArray) (.agg (dg t).toArray)).run Tryd.prog w = .ok (decide (s = t)) w := by
  obtain ⟨i5, h5⟩ : ∃ i5, Tryd.prog.info? 5 = some i5 := Option.isSome_iff_exists.1 (by kernel_rfl)
  rw [run_equalIn_array (P := Tryd.prog) w (d + 1) (dg s).toArray (dg t).toArray Tryd.underlying22 h5]
  rw [show Tryd.prog.cellsOf 5 = 1 by kernel_rfl, eqItems_dg d w s t hs ht _ (fun i hi => List.mem_range.1 hi), ← all_eq (hs.trans ht.symm), hs]
theorem part_i (w : World) (xs : List Value) (j : Nat) (x : Int) (h : xs[j]? = some (.int .i64 x)) : (part 3 xs.toArray j).run Tryd.prog w = .ok (.int .i64 x) w :=
  run_part_plain (P := Tryd.prog) w (by kernel_rfl) (by simpa using h)
theorem part_s (w : World) (n : IV) (h : n.s.length = 32) : (part 22 (ic n).toArray 2).run Tryd.prog w = .ok (.agg (dg n.s).toArray) w := by
  have hagg : (isAgg 22).run Tryd.prog w = .ok true w := by
    unfold isAgg
    rw [Sem.run_bind, run_underlying Tryd.underlying22 w]
    rfl
  obtain ⟨i22, h22⟩ : ∃ i22, Tryd.prog.info? 22 = some i22 := Option.isSome_iff_exists.1 (by kernel_rfl)
  have hsz : (sizeOf 22).run Tryd.prog w = .ok 32 w := by
    rw [run_sizeOf w h22]
    rw [show Tryd.prog.cellsOf 22 = 32 by kernel_rfl]
  have e : (ic n).toArray.extract 2 (2 + 32) = (dg n.s).toArray := by
    rw [List.extract_toArray, List.extract_eq_take_drop]
    refine congrArg List.toArray ?_
    show List.take 32 (dg n.s ++ [.int .i64 n.c, .int .i64 n.v, .int .i64 n.o]) = dg n.s
    exact List.take_left' (dg_len h)
  unfold part
  rw [Sem.run_bind, hagg, Result.andThen_ok]
  rw [if_pos rfl, Sem.run_bind, hsz, Result.andThen_ok, Sem.run_pure, e]
theorem eq24 (d : Nat) (w : World) {n m : IV} (hn : n.s.length = 32) (hm : m.s.length = 32) :
    (Op.equalIn (d + 3) 24 (.agg (ic n).toArray) (.agg (ic m).toArray)).run Tryd.prog w = .ok (decide (n = m)) w := by
  have e : decide (n = m) = (n.k == m.k && (n.sz == m.sz && (decide (n.s = m.s) && (n.c == m.c && (n.v == m.v && n.o == m.o))))) := by
    rw [Bool.eq_iff_iff]
    cases n; cases m
    simp
  rw [e]
  refine eqA_of Tryd.underlying24 (by kernel_rfl) ?_
  refine eqf_cons (by rfl) (part_i w _ 0 _ (ic_0 n)) (part_i w _ 0 _ (ic_0 m)) (run_equalIn_int (P := Tryd.prog) w _ 3 .i64 .i64 _ _ Tryd.underlying3) ?_
  refine eqf_cons (by rfl) (part_i w _ 1 _ (ic_1 n)) (part_i w _ 1 _ (ic_1 m)) (run_equalIn_int (P := Tryd.prog) w _ 3 .i64 .i64 _ _ Tryd.underlying3) ?_
  refine eqf_cons (by rfl) (part_s w n hn) (part_s w m hm) (eq22 d w hn hm) ?_
  refine eqf_cons (by rfl) (part_i w _ 34 _ (ic_tl n hn 0)) (part_i w _ 34 _ (ic_tl m hm 0)) (run_equalIn_int (P := Tryd.prog) w _ 3 .i64 .i64 _ _ Tryd.underlying3) ?_
  refine eqf_cons (by rfl) (part_i w _ 35 _ (ic_tl n hn 1)) (part_i w _ 35 _ (ic_tl m hm 1)) (run_equalIn_int (P := Tryd.prog) w _ 3 .i64 .i64 _ _ Tryd.underlying3) ?_
  exact eqf_last (by rfl) (part_i w _ 36 _ (ic_tl n hn 2)) (part_i w _ 36 _ (ic_tl m hm 2)) (run_equalIn_int (P := Tryd.prog) w _ 3 .i64 .i64 _ _ Tryd.underlying3)
/-- What is compared with an empty directory. -/
def dirI : IV := ⟨1, 0, List.replicate 32 0, 0, 0, 0⟩
theorem dir_len : dirI.s.length = 32 := rfl
end Go.Proofs.YtbhioghpgedkeaaDoor.IN
