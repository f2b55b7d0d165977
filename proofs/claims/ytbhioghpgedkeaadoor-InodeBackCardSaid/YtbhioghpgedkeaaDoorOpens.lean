/- Any argument that can be read holds a plain value of its kind: kind by kind. -/
import Derived.Test.YtbhioghpgedkeaaDoorWArr
import Derived.Deep.Slices
import Derived.OpenShut
import Derived.ProofKit
import Derived.ChangeOld
import Derived.Below
import Derived.SizedLaws
namespace Go.Proofs.YtbhioghpgedkeaaDoor.Opens
open Go.ChangeShapes Go.WideShapes Go.Deep Go.Proofs.YtbhioghpgedkeaaDoorW.PrintWords

/-- Whatever reads as a datum of type t, none of whose parts weighs more than can be reached, is some a of kind d, of which G holds. -/
def Opens (P : Program) (t : TypeId) {α : Type} (d : Kd α) (G : α → Prop) : Prop :=
  ∀ {H : Type} {enc : TypeId × Value → H} {w : World} {base : Nat} {spare : Nat → Bool} {held : Bool} {fuel : Nat} {cs : List Value} {x : DataW H × List MemPlace},
    DataW.trod enc P w base spare held fuel t cs = some x → (∀ n ∈ x.1.weights P t, n ≤ reachBytes) → ∃ a, d.K w a cs ∧ G a
section
variable {P : Program}
theorem opens_int {t : TypeId} {k : IntKind} (ht : P.underlying t = some (.int k)) : Opens P t (Kd.int k) (fun n => (Lit.int k n).wf = true) := by
  intro H enc w base spare held fuel cs x h _
  obtain ⟨n, rfl, _, hn⟩ := DataW.trod_int ht h
  exact ⟨n, rfl, hn⟩
theorem weights_all {H : Type} {e : TypeId} : ∀ {ds : List (DataW H)} {d : DataW H}, d ∈ ds → ∀ n ∈ d.weights P e, n ∈ DataW.weightsAll P e ds
  | x :: r, d, hd, n, hn => by
    simp only [DataW.weightsAll, List.mem_append]
    rcases List.mem_cons.1 hd with rfl | hd
    · exact .inl hn
    · exact .inr (weights_all hd n hn)
theorem list_of {α : Type} (Q : Nat → α → Prop) : ∀ n, (∀ i, i < n → ∃ a, Q i a) → ∃ l : List α, l.length = n ∧ ∀ i a, l[i]? = some a → Q i a
  | 0, _ => ⟨[], rfl, fun i a h => by simp at h⟩
  | n + 1, h => by
    obtain ⟨l, hl, hq⟩ := list_of Q n (fun i hi => h i (by omega))
    obtain ⟨a, ha⟩ := h n (by omega)
    refine ⟨l ++ [a], by simp [hl], fun i b hb => ?_⟩
    rcases Nat.lt_or_ge i l.length with hi | hi
    · rw [List.getElem?_append_left hi] at hb
      exact hq i b hb
    · rw [List.getElem?_append_right hi] at hb
      have h0 : i - l.length = 0 := by
        have := (List.getElem?_eq_some_iff.1 hb).1
        simp at this
        omega
      rw [h0] at hb
      have hb' : a = b := by simpa using hb
      subst hb'
      have : i = n := by omega
      subst this
      exact ha
/-- Fields that lie in line from a place on. -/
def OpensF (P : Program) (fs : List Field) (off : Nat) {α : Type} (d : Kd α) (G : α → Prop) : Prop :=
  ∀ {H : Type} {enc : TypeId × Value → H} {w : World} {base : Nat} {spare : Nat → Bool} {held : Bool} {n : Nat} {cs : List Value},
    (∀ f ∈ fs, ∃ x, DataW.trod enc P w base spare held n f.type ((cs.drop f.offset).take (P.cellsOf f.type)) = some x ∧ ∀ n ∈ x.1.weights P f.type, n ≤ reachBytes) → ∃ a, d.K w a ((cs.drop off).take d.sz) ∧ G a
theorem opensF_one {α : Type} {f : Field} {d : Kd α} {G : α → Prop} {off : Nat} (ho : f.offset = off) (hC : P.cellsOf f.type = d.sz) (hf : Opens P f.type d G) : OpensF P [f] off d G := by
  intro H enc w base spare held n cs h
  obtain ⟨x, hx, hq⟩ := h f (by simp)
  rw [ho, hC] at hx
  exact hf hx hq
theorem opensF_cons {α β : Type} {f : Field} {fs : List Field} {d : Kd α} {d' : Kd β} {G : α → Prop} {G' : β → Prop} {off : Nat} (ho : f.offset = off) (hC : P.cellsOf f.type = d.sz) (hf : Opens P f.type d G) (hfs : OpensF P fs (off + d.sz) d' G') :
    OpensF P (f :: fs) off (Kd.pair d d') (fun x => G x.1 ∧ G' x.2) := by
  intro H enc w base spare held n cs h
  obtain ⟨x, hx, hq⟩ := h f (by simp)
  rw [ho, hC] at hx
  obtain ⟨a, ha, hGa⟩ := hf hx hq
  obtain ⟨b, hb, hGb⟩ := hfs (fun g hg => h g (by simp [hg]))
  refine ⟨(a, b), ⟨_, _, ?_, ha, hb⟩, hGa, hGb⟩
  show (cs.drop off).take (d.sz + d'.sz) = _
  rw [List.take_add, List.drop_drop]
theorem opens_struct {α : Type} {t : TypeId} {fs : Array Field} {d : Kd α} {G : α → Prop} (ht : P.underlying t = some (.struct fs)) (hC : P.cellsOf t = d.sz) (hf : OpensF P fs.toList 0 d G) : Opens P t d G := by
  intro H enc w base spare held fuel cs x h hw
  obtain ⟨xs, n, rfl, rfl, hlen, hl, hat⟩ := DataW.trod_struct ht h
  obtain ⟨a, ha, hG⟩ := hf (enc := enc) (w := w) (base := base) (spare := spare) (held := held) (n := n) (cs := cs) (fun f hm => by
    obtain ⟨i, hi⟩ := List.getElem?_of_mem hm
    have hi' : fs[i]? = some f := by simpa using hi
    have hil : i < xs.length := by rw [hl]; exact (Array.getElem?_eq_some_iff.1 hi').1
    exact ⟨xs[i], by rw [hat i f hi', List.getElem?_eq_getElem hil], fun n hn => hw n (by
      simp only [DataW.weights, ht]
      exact DataW.weights_mem_each (j := i) (by simp [hi']) (by simp [List.getElem?_eq_getElem hil]) n hn)⟩)
  refine ⟨a, ?_, hG⟩
  rw [List.drop_zero, List.take_of_length_le (by omega)] at ha
  exact ha
theorem opens_array {α : Type} {t e : TypeId} {n : Nat} {d : Kd α} {G : α → Prop} (hs : 0 < d.sz) (ht : P.underlying t = some (.array n e)) (hC : P.cellsOf e = d.sz) (hT : P.cellsOf t = n * d.sz) (he : Opens P e d G) :
    Opens P t (Kd.arr n d hs) (fun xs => xs.length = n ∧ ∀ a ∈ xs, G a) := by
  intro H enc w base spare held fuel cs x h hw
  obtain ⟨xs, m, rfl, rfl, hlen, hl, hat⟩ := DataW.trod_array ht h
  obtain ⟨ys, hyl, hys⟩ := list_of (fun i y => d.K w y ((cs.drop (i * d.sz)).take d.sz) ∧ G y) n (fun i hil => by
    have h1 := hat i hil
    rw [hC, List.getElem?_eq_getElem (by omega)] at h1
    exact he h1 (fun n hn => hw n (by
      simp only [DataW.weights, ht]
      exact weights_all (List.mem_map_of_mem (List.getElem_mem _)) n hn)))
  refine ⟨ys, ⟨hyl, by rw [hlen, hT, hyl], fun j p hj => (hys j p hj).1⟩, hyl, fun y hy => ?_⟩
  obtain ⟨i, hi⟩ := List.getElem?_of_mem hy
  exact (hys i y hi).2
theorem opens_iso {α β : Type} {t : TypeId} {d : Kd α} {G : α → Prop} (f : β → α) (g : α → β) (hfg : ∀ a, f (g a) = a) (h : Opens P t d G) : Opens P t (Kd.iso d f) (fun b => G (f b)) := by
  intro H enc w base spare held fuel cs x hx hw
  obtain ⟨a, ha, hG⟩ := h hx hw
  exact ⟨g a, by show d.K w (f (g a)) cs; rw [hfg]; exact ha, by show G (f (g a)); rw [hfg]; exact hG⟩
theorem opens_imp {α : Type} {t : TypeId} {d : Kd α} {G G' : α → Prop} (h : Opens P t d G) (hG : ∀ a, G a → G' a) : Opens P t d G' := by
  intro H enc w base spare held fuel cs x hx hw
  obtain ⟨a, ha, h1⟩ := h hx hw
  exact ⟨a, ha, hG a h1⟩
end
end Go.Proofs.YtbhioghpgedkeaaDoor.Opens
