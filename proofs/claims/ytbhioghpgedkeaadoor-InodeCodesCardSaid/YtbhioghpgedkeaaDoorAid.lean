/- Small laws that the walks of this seat use. -/
import Derived.WalkKit
import Derived.Laws.World
import Derived.Test.YtbhioghpgedkeaaDoorWWords
import Derived.Test.YtbhioghpgedkeaaDoorWLast
namespace Go.Proofs.YtbhioghpgedkeaaDoor.Aid
theorem cell_isSome (w : World) (p : Addr) (v : Value) (q : Addr) : ((w.setCell p v).cell? q).isSome = (w.cell? q).isSome := by
  obtain ⟨b, o, s⟩ := p
  simp only [World.setCell, World.cell?, Array.getElem?_modify]
  by_cases h : b = q.block
  · simp only [h, if_true]
    cases w.heap[q.block]? with
    | none => rfl
    | some x =>
      cases x with
      | cells c e f =>
        simp only [Option.map_some]
        by_cases hq : q.spot.isSome = true
        · simp only [hq, if_true]
        · simp only [hq, if_false, Bool.false_eq_true]
          by_cases hs : s.isSome = true
          · simp only [hs, if_true]
          · simp only [hs, if_false, Bool.false_eq_true, Array.getElem?_setIfInBounds]
            by_cases ho : o = q.off
            · subst ho
              by_cases hl : q.off < c.size
              · simp [hl]
              · simp [hl]
            · simp [ho]
      | _ => rfl
  · simp only [h, if_false]
theorem less_turned : ∀ a b : List UInt8, (!(Op.bytesLess a b || a == b)) = Op.bytesLess b a
  | [], [] => by simp [Op.bytesLess]
  | [], _ :: _ => by simp [Op.bytesLess]
  | _ :: _, [] => by simp [Op.bytesLess]
  | a :: x, b :: y => by
    have ih := less_turned x y
    simp only [Op.bytesLess]
    rcases Nat.lt_trichotomy a.toNat b.toNat with h | h | h
    · have h1 : a < b := UInt8.lt_iff_toNat_lt.mpr h
      have h2 : ¬ b < a := fun e => by have := UInt8.lt_iff_toNat_lt.mp e; omega
      have h3 : (b == a) = false := by simp; intro e; subst e; omega
      simp [h1, h2, h3]
    · obtain rfl := UInt8.toNat_inj.mp h
      have h2 : ¬ a < a := fun e => by have := UInt8.lt_iff_toNat_lt.mp e; omega
      simp only [h2, decide_false, Bool.false_or, beq_self_eq_true, Bool.true_and]
      rw [← ih]
      congr 2
      simp
    · have h1 : ¬ a < b := fun e => by have := UInt8.lt_iff_toNat_lt.mp e; omega
      have h2 : b < a := UInt8.lt_iff_toNat_lt.mpr h
      have h3 : (a == b) = false := by simp; intro e; subst e; omega
      simp [h1, h2, h3]
theorem ok_at {ok : Nat → Prop} {v v1 : Value} {n : Nat} (hat : v1.ownBlock = v.ownBlock ∨ ∃ b, v1.ownBlock = some b ∧ n ≤ b) (h : ∀ k, v.ownBlock = some k → ok k) (hf : ∀ k, n ≤ k → ok k) : ∀ k, v1.ownBlock = some k → ok k := by
  intro k hk
  rcases hat with hat | ⟨b, hb, hle⟩
  · exact h k (hat ▸ hk)
  · rw [hb] at hk
    injection hk with hk
    exact hf k (by omega)
section
open Go.RowKit Go.Proofs.YtbhioghpgedkeaaDoorW.PrintWords
variable {P : Program} {ops : Array Oper} {rest : List Oper} {o : Oper} {a : Act} {Q : Exit → Act → World → Prop}
theorem same1 {w : World} {a : Addr} {v : Value} (h : w.cell? a = some v) (b : Addr) : (w.setCell a v).cell? b = w.cell? b := by
  by_cases e : b = a
  · subst e
    rw [h]
    exact World.cell?_setCell_same' _ _ _ (by rw [h]; rfl)
  · exact World.cell?_setCell_other w a b v (fun e2 => e e2.symm)
theorem same4 {w : World} {g : Nat} {v0 v1 v2 v3 : Value} (h0 : w.cell? ⟨g, 0, none⟩ = some v0) (h1 : w.cell? ⟨g, 1, none⟩ = some v1) (h2 : w.cell? ⟨g, 2, none⟩ = some v2) (h3 : w.cell? ⟨g, 3, none⟩ = some v3) (b : Addr) :
    ((((w.setCell ⟨g, 0, none⟩ v0).setCell ⟨g, 1, none⟩ v1).setCell ⟨g, 2, none⟩ v2).setCell ⟨g, 3, none⟩ v3).cell? b = w.cell? b := by
  have e0 := same1 h0
  have e1 := fun b => (same1 ((e0 _).trans h1) b).trans (e0 b)
  have e2 := fun b => (same1 ((e1 _).trans h2) b).trans (e1 b)
  exact (same1 ((e2 _).trans h3) b).trans (e2 b)
theorem goesV_ {oi : Oper} {N : Option Tmp} {K : Act → World → Prop} {w : World} {f : FuncId} {fn : Func} {c : Operand} {as : Array Operand} {ts : Array TypeId} (hf : P.funcs[f]? = some fn) (hname : (fn.name == "runtime.NumGoroutine") = false) (hb : fn.body.isSome = true) (args : Array Value)
    (hw : Region.wanted oi (yielded ops a.tmps) = true) (hN : oi.dst = N) (hop : oi.op = .call { callee := .value c, args := as, argTypes := ts }) (hargs : as.map a.eval = args)
    (h : Calls P f args w fun e w' => ∃ v, e = .returned v ∧ K (a.put N v) w') (hc : a.eval c = .func (.func f) #[] #[] := by rfl) : if Region.wanted oi (yielded ops a.tmps) = true then Oper.wp P oi a w K Q else K (a.put N undef) w := by
  refine Go.Proofs.YtbhioghpgedkeaaDoorW.PrintLast.call_ f args hw hN ?_ h
  have he := Go.Proofs.YtbhioghpgedkeaaDoorW.PrintLast.enters_ hf hname hb args w
  unfold execOp
  simp [hop, resolve, Deferred.ofValue, invoke, hc, hargs, he]
theorem append_str {w0 W : World} (base : Nat) (hgd : o.guard = none) (s x : Operand) (t u e : TypeId)
    (ho : o.op = .call { callee := .builtin .append, args := #[s, x], argTypes := #[t, u] })
    (ht : P.underlying t = some (.slice e)) (hu : P.underlying u = some .string) (hinfo : (P.info? e).map (fun i => (i.zero, i.size, i.bytes)) = some (some (.int .u8 0), 1, 1))
    (v : Value) (xs : List Int) (y : ByteArray) (hs : a.eval s = v) (hx : a.eval x = .string y)
    (HO : W.ownsRow base e 1 v xs.length (nums .u8 xs)) (HB : Below base w0 W) (hbase : base ≤ W.heap.size) (hl : xs.length + y.size ≤ 140737488355328)
    (h : ∀ v1 w1, w1.ownsRow base e 1 v1 (xs ++ bytesOf y).length (nums .u8 (xs ++ bytesOf y)) → Below base w0 w1 → W.grownBy w1 v.ownBlock → (v1.ownBlock = v.ownBlock ∨ ∃ b, v1.ownBlock = some b ∧ W.heap.size ≤ b) → wpList P ops Q rest (a.put o.dst v1) w1) :
    wpList P ops Q (o :: rest) a W := by
  obtain ⟨i0, hi, hzz⟩ := Option.map_eq_some_iff.1 hinfo
  simp only [Prod.mk.injEq] at hzz
  obtain ⟨hz0, hz1, hz2⟩ := hzz
  have hmax : xs.length + y.size ≤ maxLen := by simp only [maxLen]; omega
  have key : ∃ v1 w1, (Builtin.append_ #[t, u] o.type #[v, .string y]).run P W = .ok v1 w1 ∧ w1.ownsRow base e 1 v1 (xs.length + y.size) (nums .u8 xs ++ Lib.strCells y) ∧ W.grownBy w1 v.ownBlock ∧ (v1.ownBlock = v.ownBlock ∨ ∃ b, v1.ownBlock = some b ∧ W.heap.size ≤ b) := by
    obtain ⟨v1, w1, hr, h1, h2, h3⟩ := Lib.run_append_own_string (P := P) W base t u o.type e i0 ht hu hi hz0 hz1 hz2 v xs.length (nums .u8 xs) HO y hmax hl hbase
    refine ⟨v1, w1, hr, h1, h2, ?_⟩
    rcases HO.2 with ⟨rfl, hx0⟩ | ⟨g, cap, cur, rfl, hbg, hg, hnc, hcm, hcs, htake⟩
    · have hO2 : W.ownsRow W.heap.size e 1 (.slice none 0 0) xs.length (nums .u8 xs) := ⟨HO.1, .inl ⟨rfl, hx0⟩⟩
      obtain ⟨v2, w2, hr2, g1, _, _⟩ := Lib.run_append_own_string (P := P) W W.heap.size t u o.type e i0 ht hu hi hz0 hz1 hz2 _ xs.length (nums .u8 xs) hO2 y hmax hl (Nat.le_refl _)
      rw [hr] at hr2
      injection hr2 with hv _
      subst hv
      rcases g1.2 with ⟨hv, _⟩ | ⟨g, cap, cur, hv, hbg, _⟩
      · exact .inl (by rw [hv])
      · exact .inr ⟨g, by rw [hv]; rfl, hbg⟩
    · have hnl : (nums .u8 xs).length = xs.length := nums_length _ _
      by_cases hroom : xs.length + y.size ≤ cap
      · have := Lib.run_append_room_string (P := P) W t u o.type e i0 ht hu hi hz1 g xs.length cap cur hg y hroom (by omega)
        rw [hr] at this
        injection this with hv _
        exact .inl (by rw [hv]; rfl)
      · have hc := fun j u0 (hu0 : (nums .u8 xs)[j]? = some u0) => HO.cells (g := g) rfl j u0 hu0
        have hcap : Builtin.nextslicecap (xs.length + y.size) cap * i0.bytes ≤ 281474976710656 := by
          have := nextslicecap_le (need := xs.length + y.size) (old := cap) (by omega)
          rw [hz2]
          omega
        have := Lib.run_append_grow_string (P := P) W t u o.type e i0 (.int .u8 0) ht hu hi hz0 ⟨g, 0, none⟩ xs.length cap (nums .u8 xs) (by rw [hnl, hz1, Nat.mul_one]) hc y (by omega) (by omega) hcap
        rw [hr] at this
        injection this with hv _
        exact .inr ⟨W.heap.size, by rw [hv]; rfl, Nat.le_refl _⟩
  obtain ⟨v1, w1, hr, hown, hg, hat⟩ := key
  have hl2 : (xs ++ bytesOf y).length = xs.length + y.size := by rw [List.length_append, bytesOf_length]
  have hc : nums .u8 (xs ++ bytesOf y) = nums .u8 xs ++ Lib.strCells y := by
    rw [nums_append]
    congr 1
    simp [nums, bytesOf, Lib.strCells]
  refine wpList_plain hgd fun K hK => ?_
  unfold Oper.wp execOp
  simp only [ho, resolve, invoke, builtin, Sem.run_bind, Sem.run_pure, Result.andThen_ok, List.map_toArray, List.map_cons, List.map_nil, hs, hx, hr]
  exact hK _ _ (h v1 w1 (by rw [hl2, hc]; exact hown) (HB.grown hg hbase (own_base HO)) hg hat)
end
theorem lit_size (l : List UInt8) : (⟨l.toArray⟩ : ByteArray).size = l.length := rfl
theorem own_len (A : Option Addr) (n m c : Nat) : (Value.slice A n c).ownBlock = (Value.slice A m c).ownBlock := by cases A <;> rfl
theorem ne_nil (l : List UInt8) : (l != []) = !l.isEmpty := by cases l <;> rfl
theorem string_gtr (t : TypeId) (a b : ByteArray) : binOp .gtr t (.string a) (.string b) = pure (.bool (Op.bytesLess b.toList a.toList)) := by
  simp only [binOp, Op.stringOp]; rw [less_turned]
theorem string_leq (t : TypeId) (a b : ByteArray) : binOp .leq t (.string a) (.string b) = pure (.bool !(Op.bytesLess b.toList a.toList)) := by
  simp only [binOp, Op.stringOp]; rw [← less_turned a.toList b.toList]; simp
theorem string_geq (t : TypeId) (a b : ByteArray) : binOp .geq t (.string a) (.string b) = pure (.bool !(Op.bytesLess a.toList b.toList)) := by
  simp [binOp, Op.stringOp]
end Go.Proofs.YtbhioghpgedkeaaDoor.Aid
