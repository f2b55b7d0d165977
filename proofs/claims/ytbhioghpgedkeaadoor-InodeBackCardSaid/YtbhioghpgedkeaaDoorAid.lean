/- Small laws that the walks of this seat use. -/
import Derived.WalkKit
import Derived.Laws.World
import Derived.Test.YtbhioghpgedkeaaDoorWWords
import Derived.Test.YtbhioghpgedkeaaDoorWLast
namespace Go.Proofs.YtbhioghpgedkeaaDoor.Aid
theorem cell_isSome (w : World) (p : Addr) (v : Value) (q : Addr) : ((w.setCell p v).cell? q).isSome = (w.cell? q).isSome := by
  obtain ⟨b, o, s⟩ := p
  simp only [World.setCell, World.cell?, Array.getElem?_modify]
  by_cases h : b = q.block
  · simp only [h, if_true]
    cases w.heap[q.block]? with
    | none => rfl
    | some x =>
      cases x with
      | cells c e f =>
        simp only [Option.map_some]
        by_cases hq : q.spot.isSome = true
        · simp only [hq, if_true]
        · simp only [hq, if_false, Bool.false_eq_true]
          by_cases hs : s.isSome = true
          · simp only [hs, if_true]
          · simp only [hs, if_false, Bool.false_eq_true, Array.getElem?_setIfInBounds]
            by_cases ho : o = q.off
            · subst ho
              by_cases hl : q.off < c.size
              · simp [hl]
              · simp [hl]
            · simp [ho]
      | _ => rfl
  · simp only [h, if_false]
theorem less_turned : ∀ a b : List UInt8, (!(Op.bytesLess a b || a == b)) = Op.bytesLess b a
  | [], [] => by simp [Op.bytesLess]
  | [], _ :: _ => by simp [Op.bytesLess]
  | _ :: _, [] => by simp [Op.bytesLess]
  | a :: x, b :: y => by
    have ih := less_turned x y
    simp only [Op.bytesLess]
    rcases Nat.lt_trichotomy a.toNat b.toNat with h | h | h
    · have h1 : a < b := UInt8.lt_iff_toNat_lt.mpr h
      have h2 : ¬ b < a := fun e => by have := UInt8.lt_iff_toNat_lt.mp e; omega
      have h3 : (b == a) = false := by simp; intro e; subst e; omega
      simp [h1, h2, h3]
    · obtain rfl := UInt8.toNat_inj.mp h
      have h2 : ¬ a < a := fun e => by have := UInt8.lt_iff_toNat_lt.mp e; omega
      simp only [h2, decide_false, Bool.false_or, beq_self_eq_true, Bool.true_and]
      rw [← ih]
      congr 2
      simp
    · have h1 : ¬ a < b := fun e => by have := UInt8.lt_iff_toNat_lt.mp e; omega
      have h2 : b < a := UInt8.lt_iff_toNat_lt.mpr h
      have h3 : (a == b) = false := by simp; intro e; subst e; omega
      simp [h1, h2, h3]
section
open Go.RowKit Go.Proofs.YtbhioghpgedkeaaDoorW.PrintWords
variable {P : Program} {ops : Array Oper} {rest : List Oper} {o : Oper} {a : Act} {Q : Exit → Act → World → Prop}
end
theorem lit_size (l : List UInt8) : (⟨l.toArray⟩ : ByteArray).size = l.length := rfl
theorem own_len (A : Option Addr) (n m c : Nat) : (Value.slice A n c).ownBlock = (Value.slice A m c).ownBlock := by cases A <;> rfl
theorem ne_nil (l : List UInt8) : (l != []) = !l.isEmpty := by cases l <;> rfl
theorem string_gtr (t : TypeId) (a b : ByteArray) : binOp .gtr t (.string a) (.string b) = pure (.bool (Op.bytesLess b.toList a.toList)) := by
  simp only [binOp, Op.stringOp]; rw [less_turned]
theorem string_leq (t : TypeId) (a b : ByteArray) : binOp .leq t (.string a) (.string b) = pure (.bool !(Op.bytesLess b.toList a.toList)) := by
  simp only [binOp, Op.stringOp]; rw [← less_turned a.toList b.toList]; simp
theorem string_geq (t : TypeId) (a b : ByteArray) : binOp .geq t (.string a) (.string b) = pure (.bool !(Op.bytesLess a.toList b.toList)) := by
  simp [binOp, Op.stringOp]
end Go.Proofs.YtbhioghpgedkeaaDoor.Aid
