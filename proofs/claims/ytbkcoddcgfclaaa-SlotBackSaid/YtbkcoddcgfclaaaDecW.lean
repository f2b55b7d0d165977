/- slot.Decode: its walk. -/
import Derived.Test.YtbkcoddcgfclaaaRestC
import Derived.Test.YtbkcoddcgfclaaaNVput
import Derived.IntWalk
import Derived.Deep.DeepCutAuto
import Derived.Deep.CutBlock
set_option linter.unusedSimpArgs false
set_option linter.unusedVariables false
namespace Go.Proofs.Ytbkcoddcgfclaaa.SP
open Go.Proofs.Ytbkcoddcgfclaaa.MSlot Go.RowKit Go.Proofs.Ytbkcoddcgfclaaa.Ext Go.Proofs.Ytbkcoddcgfclaaa.MSd Go.Proofs.YtbkcoddcgfclaaaW.PrintWords Go.Proofs.YtbkcoddcgfclaaaW.PrintLast Go.Proofs.YtbkcoddcgfclaaaW.PrintMore

theorem rText_255 (s : RS) : (rText s).1.length ≤ 255 := by
  unfold rText
  rw [rTake_len]
  exact rByte_le s
theorem rCell_255 (s : RS) : (rCell s).1.f0.size ≤ 255 ∧ (rCell s).1.f1.size ≤ 255 := by
  unfold rCell
  simp only
  split
  · exact ⟨rText_255 _, rText_255 _⟩
  · split
    · exact ⟨rText_255 _, by show 0 ≤ 255; omega⟩
    · exact ⟨rText_255 _, by show 0 ≤ 255; omega⟩
theorem decLeaf_le : ∀ (n : Nat) (s : RS), (decLeaf n s).1.length ≤ n ∧ ∀ c ∈ (decLeaf n s).1, c.f0.size ≤ 255 ∧ c.f1.size ≤ 255
  | 0, s => ⟨Nat.le_refl _, by simp [decLeaf]⟩
  | n + 1, s => by
    unfold decLeaf
    split
    · exact ⟨by simp, by simp⟩
    · obtain ⟨h1, h2⟩ := decLeaf_le n (rCell s).2
      refine ⟨by simp; omega, fun c hc => ?_⟩
      rcases List.mem_cons.1 hc with rfl | hc
      · exact rCell_255 s
      · exact h2 c hc
theorem decBr_le : ∀ (n : Nat) (s : RS), (decBr n s).1.1.length ≤ n ∧ (decBr n s).1.2.length = (decBr n s).1.1.length ∧ ∀ k ∈ (decBr n s).1.1, k.size ≤ 255
  | 0, s => ⟨Nat.le_refl _, rfl, by simp [decBr]⟩
  | n + 1, s => by
    unfold decBr
    split
    · exact ⟨by simp, rfl, by simp⟩
    · obtain ⟨h1, h2, h3⟩ := decBr_le n (rFour (rText s).2).2
      refine ⟨by simp; omega, by simp [h2], fun c hc => ?_⟩
      rcases List.mem_cons.1 hc with rfl | hc
      · exact rText_255 s
      · exact h3 c hc
theorem rCell_l (s : RS) : (rCell s).2.l.length ≤ s.l.length := by
  have h1 := rText_l s
  have h2 : (rByte (rText s).2).2.l.length ≤ (rText s).2.l.length := rTake_l 1 _
  unfold rCell
  simp only
  split
  · exact Nat.le_trans (rText_l _) (Nat.le_trans h2 h1)
  · split
    · have h3 : (rFour (rByte (rText s).2).2).2.l.length ≤ (rByte (rText s).2).2.l.length := rTake_l 4 _
      have h4 : (rFour (rFour (rByte (rText s).2).2).2).2.l.length ≤ (rFour (rByte (rText s).2).2).2.l.length := rTake_l 4 _
      simp only
      omega
    · simp only
      omega
/-- Two rows of unlike elements lie apart: one grows, the other stays. -/
theorem R_apart {α β : Type} {d : Kd α} {d' : Kd β} {e e' : Nat} {W w1 : World} {base base' : Nat} {ok ok' : Nat → Prop} {v u : Value} {xs : List α} {ys : List β} (hv : d.R e W base ok v xs) (hu : d'.R e' W base' ok' u ys) (hE : d.E = []) (hE' : d'.E = []) (hne : e ≠ e') (hg : W.grownBy w1 u.ownBlock) : d.R e w1 base ok v xs := by
  refine Kd.R_mono (Kd.R_step (Kd.R_bound hv) (fun k hk hlt => hg.block k hlt (fun e_ => ?_))) (fun k hk => hk.1)
  obtain ⟨_, _, _, q, hq, cells, hc⟩ := hk
  obtain ⟨_, _, _, q', hq', cells', hc'⟩ := (Kd.R_bound hu).1 k e_.symm
  rw [hE] at hq
  rw [hE'] at hq'
  simp at hq hq'
  rw [hc] at hc'
  injection hc' with h1
  injection h1 with _ h2 _
  exact hne (hq ▸ hq' ▸ h2)

abbrev Z26 : Obj := .cells #[.bool false, .slice none 0 0, .slice none 0 0, .slice none 0 0] 26 (0, 0)
/-- The walk of Decode: what lies where. -/
structure DS (w W : World) (gr g5 : Nat) (s : RS) (lf : Bool) (v1 : Value) (xs : List S43) (v2 : Value) (ks : List ByteArray) (v3 : Value) (ds : List Int) : Prop where
  z : W.heap[w.heap.size]? = some Z26
  i : IsS74 w W gr (ofL s.l) s.b
  x : W.heap[g5]? = some (.cells #[.bool lf, v1, v2, v3] 26 (0, 0))
  r1 : Kd.R k43 43 W w.heap.size (fun k => g5 < k) v1 xs
  r2 : Kd.R Kd.string 9 W w.heap.size (fun k => g5 < k) v2 ks
  r3 : Kd.R (Kd.int .i64) 3 W w.heap.size (fun k => g5 < k) v3 ds
  b : Below w.heap.size w W
  o1 : w.heap.size < gr
  o2 : gr < g5
  l : s.l.length ≤ 1000000
section
variable {w W W' w1 : World} {gr g5 : Nat} {s u : RS} {lf : Bool} {v1 v2 v3 v' : Value} {xs : List S43} {ks : List ByteArray} {ds : List Int}
theorem DS.ra (h : DS w W gr g5 s lf v1 xs v2 ks v3 ds) : RA w W W gr s := ⟨h.i, h.b, KeepBut.refl _ _ _⟩
theorem DS.read (h : DS w W gr g5 s lf v1 xs v2 ks v3 ds) (ha : RA w W W' gr u) (hl : u.l.length ≤ s.l.length) : DS w W' gr g5 u lf v1 xs v2 ks v3 ds :=
  ⟨ha.k.blk h.z (by have := h.o1; omega) (by simp), ha.i, ha.k.blk h.x (by have := h.o2; omega) (by simp), Kd.R_step h.r1 (fun k hk hlt => ha.k.2 k hlt (by have := h.o2; omega) (by simp)), Kd.R_step h.r2 (fun k hk hlt => ha.k.2 k hlt (by have := h.o2; omega) (by simp)), Kd.R_step h.r3 (fun k hk hlt => ha.k.2 k hlt (by have := h.o2; omega) (by simp)), ha.b, h.o1, h.o2, Nat.le_trans hl h.l⟩
theorem DS.drew (h : DS w W gr g5 s lf v1 xs v2 ks v3 ds) : DS w W.drew gr g5 s lf v1 xs v2 ks v3 ds := h.read ⟨h.i, below_drew1 h.b, KeepBut.of_below (below_drew1 (Below.refl _ _)) _ _⟩ (Nat.le_refl _)
/-- Only what lies above the node's box has been touched. -/
theorem DS.old (h : DS w W gr g5 s lf v1 xs v2 ks v3 ds) (hkeep : ∀ k, k ≤ g5 → k < W.heap.size → w1.heap[k]? = W.heap[k]?) (j : Nat) (v : Value) :
    (w1.setCell ⟨g5, j, none⟩ v).heap[w.heap.size]? = some Z26 ∧ IsS74 w (w1.setCell ⟨g5, j, none⟩ v) gr (ofL s.l) s.b ∧ w1.heap[g5]? = some (.cells #[.bool lf, v1, v2, v3] 26 (0, 0)) := by
  have h1 := h.o1
  have h2 := h.o2
  have hx := blk_lt h.x
  refine ⟨?_, ⟨?_, h.i.2⟩, ?_⟩
  · exact (Below.heap_setCell _ _ _ _ (by show _ ≠ g5; omega)).trans ((hkeep _ (by omega) (by omega)).trans h.z)
  · exact (Below.heap_setCell _ _ _ _ (by show _ ≠ g5; omega)).trans ((hkeep _ (by omega) (by omega)).trans h.i.1)
  · exact (hkeep _ (Nat.le_refl _) hx).trans h.x
theorem R_above {α : Type} {d : Kd α} {e base g5 j : Nat} {w1 : World} {v u : Value} {xs : List α} (h : d.R e w1 base (fun k => g5 < k) v xs) : d.R e (w1.setCell ⟨g5, j, none⟩ u) base (fun k => g5 < k) v xs :=
  Kd.R_step h (fun k hk _ => Below.heap_setCell _ _ _ _ (by show k ≠ g5; omega))
theorem keep_of {base e : Nat} {α : Type} {d : Kd α} {v : Value} {xs : List α} (hr : d.R e W base (fun k => g5 < k) v xs) (hg : W.grownBy w1 v.ownBlock) : ∀ k, k ≤ g5 → k < W.heap.size → w1.heap[k]? = W.heap[k]? :=
  fun k hk hlt => hg.block k hlt (fun e => by have := hr.1 k e.symm; omega)
theorem DS.put1 (h : DS w W gr g5 s lf v1 xs v2 ks v3 ds) {c : S43} (hr : Kd.R k43 43 w1 w.heap.size (fun k => g5 < k) v' (xs ++ [c])) (hb : Below w.heap.size w w1) (hg : W.grownBy w1 v1.ownBlock) :
    DS w (w1.setCell ⟨g5, 1, none⟩ v') gr g5 s lf v' (xs ++ [c]) v2 ks v3 ds := by
  obtain ⟨a1, a2, a3⟩ := h.old (keep_of h.r1 hg) 1 v'
  exact ⟨a1, a2, blk_put a3 1 v' rfl, R_above hr, R_above (R_apart h.r2 h.r1 rfl rfl (by decide) hg), R_above (R_apart h.r3 h.r1 rfl rfl (by decide) hg), hb.setCell (by show _ ≤ g5; have := h.o1; have := h.o2; omega) _, h.o1, h.o2, h.l⟩
theorem DS.put2 (h : DS w W gr g5 s lf v1 xs v2 ks v3 ds) {c : ByteArray} (hr : Kd.R Kd.string 9 w1 w.heap.size (fun k => g5 < k) v' (ks ++ [c])) (hb : Below w.heap.size w w1) (hg : W.grownBy w1 v2.ownBlock) :
    DS w (w1.setCell ⟨g5, 2, none⟩ v') gr g5 s lf v1 xs v' (ks ++ [c]) v3 ds := by
  obtain ⟨a1, a2, a3⟩ := h.old (keep_of h.r2 hg) 2 v'
  exact ⟨a1, a2, blk_put a3 2 v' rfl, R_above (R_apart h.r1 h.r2 rfl rfl (by decide) hg), R_above hr, R_above (R_apart h.r3 h.r2 rfl rfl (by decide) hg), hb.setCell (by show _ ≤ g5; have := h.o1; have := h.o2; omega) _, h.o1, h.o2, h.l⟩
theorem DS.put3 (h : DS w W gr g5 s lf v1 xs v2 ks v3 ds) {c : Int} (hr : Kd.R (Kd.int .i64) 3 w1 w.heap.size (fun k => g5 < k) v' (ds ++ [c])) (hb : Below w.heap.size w w1) (hg : W.grownBy w1 v3.ownBlock) :
    DS w (w1.setCell ⟨g5, 3, none⟩ v') gr g5 s lf v1 xs v2 ks v' (ds ++ [c]) := by
  obtain ⟨a1, a2, a3⟩ := h.old (keep_of h.r3 hg) 3 v'
  exact ⟨a1, a2, blk_put a3 3 v' rfl, R_above (R_apart h.r1 h.r3 rfl rfl (by decide) hg), R_above (R_apart h.r2 h.r3 rfl rfl (by decide) hg), R_above hr, hb.setCell (by show _ ≤ g5; have := h.o1; have := h.o2; omega) _, h.o1, h.o2, h.l⟩
theorem DS.mark (h : DS w W gr g5 s lf v1 xs v2 ks v3 ds) (b : Bool) : DS w (W.setCell ⟨g5, 0, none⟩ (.bool b)) gr g5 s b v1 xs v2 ks v3 ds := by
  obtain ⟨a1, a2, a3⟩ := h.old (w1 := W) (fun _ _ _ => rfl) 0 (.bool b)
  exact ⟨a1, a2, blk_put a3 0 (.bool b) rfl, R_above h.r1, R_above h.r2, R_above h.r3, h.b.setCell (by show _ ≤ g5; have := h.o1; have := h.o2; omega) _, h.o1, h.o2, h.l⟩
theorem DS.mk0 (w : World) (l : List UInt8) (hl : l.length ≤ 1000000) : DS w (((w.alloc (.cells #[.bool false, .slice none 0 0, .slice none 0 0, .slice none 0 0] 26)).alloc (.cells #[.string (ofL l), .bool false] 74)).alloc (.cells #[.bool false, .slice none 0 0, .slice none 0 0, .slice none 0 0] 26)) (w.heap.size + 1) (w.heap.size + 1 + 1) ⟨l, false⟩ false (.slice none 0 0) [] (.slice none 0 0) [] (.slice none 0 0) [] := by
  obtain ⟨h1, h2, h3, h4, _⟩ := Jst.mk0 w (.cells #[.bool false, .slice none 0 0, .slice none 0 0, .slice none 0 0] 26) (.cells #[.string (ofL l), .bool false] 74) (.cells #[.bool false, .slice none 0 0, .slice none 0 0, .slice none 0 0] 26)
  exact ⟨h1, ⟨h2, by omega⟩, h3, Kd.R_nil _ _ _ _ _, Kd.R_nil _ _ _ _ _, Kd.R_nil _ _ _ _ _, h4, by omega, by omega, hl⟩
end
/-- What Decode hands back. -/
def DecP (l : List UInt8) (w : World) (e : Ending) (w' : World) : Prop := ∃ (m : NV) (r : Int), e = .returned (.tuple #[m.val, .int .i64 r]) ∧ m.ok w' ∧ Below w.heap.size w w' ∧ ((r = 0 ∧ l.length ≤ 500 ∧ (decN l).good = true ∧ m.leaf = (decN l).leaf ∧ m.xs = (decN l).xs ∧ m.ks = (decN l).ks ∧ m.ds = (decN l).ds) ∨ (r = 5 ∧ ¬ (l.length ≤ 500 ∧ (decN l).good = true)))
def zeroNV : NV := ⟨false, none, 0, [], none, 0, [], none, 0, []⟩
theorem zero_ok (W : World) : zeroNV.ok W := ⟨(Kd.R_reads' (Kd.R_nil k43 43 W 0 (fun _ => True))).2.2, Nat.le_refl _, (Kd.R_reads' (Kd.R_nil Kd.string 9 W 0 (fun _ => True))).2.2, Nat.le_refl _, (Kd.R_reads' (Kd.R_nil (Kd.int .i64) 3 W 0 (fun _ => True))).2.2, Nat.le_refl _⟩
theorem below4 {B : Nat} {w W : World} {g : Nat} (h : Below B w W) (hg : B ≤ g) (a b c d : Value) : Below B w ((((W.setCell ⟨g, 0, none⟩ a).setCell ⟨g, 1, none⟩ b).setCell ⟨g, 2, none⟩ c).setCell ⟨g, 3, none⟩ d) := (((h.setCell hg _).setCell hg _).setCell hg _).setCell hg _
theorem R_four {α : Type} {d : Kd α} {e base g g5 : Nat} {W : World} {v a b c f : Value} {xs : List α} (h : d.R e W base (fun k => g5 < k) v xs) (hg : g ≤ g5) : d.R e ((((W.setCell ⟨g, 0, none⟩ a).setCell ⟨g, 1, none⟩ b).setCell ⟨g, 2, none⟩ c).setCell ⟨g, 3, none⟩ f) base (fun k => g5 < k) v xs := by
  refine Kd.R_step h (fun k hk _ => ?_)
  have hne : k ≠ g := by omega
  rw [Below.heap_setCell _ _ _ _ hne, Below.heap_setCell _ _ _ _ hne, Below.heap_setCell _ _ _ _ hne, Below.heap_setCell _ _ _ _ hne]
set_option maxHeartbeats 4000000 in
set_option maxRecDepth 100000 in
theorem decode_leaf (l : List UInt8) (w : World) (hl : l.length ≤ 500) (n : Nat) (s1 s2 : RS) (e1 : rByte ⟨l, false⟩ = (1, s1)) (e2 : rByte s1 = (n, s2)) :
    Calls Try.prog 21 #[.string (ofL l)] w (DecP l w) := by
  have E1 := Lib.hid e1
  have E2 := Lib.hid e2
  have L1 := Lib.hid (show s1.l.length ≤ l.length by have h : (rByte ⟨l, false⟩).2.l.length ≤ l.length := rTake_l 1 _; rw [e1] at h; simp only at h; omega)
  have L2 := Lib.hid (show s2.l.length ≤ s1.l.length by have h : (rByte s1).2.l.length ≤ s1.l.length := rTake_l 1 _; rw [e2] at h; exact h)
  have N1 := Lib.hid (show n ≤ 255 by have h := rByte_le s1; rw [e2] at h; exact h)
  have HL0 := Lib.hid hl
  have HD := Lib.hid (DS.mk0 w l (by omega))
  have HDEC := Lib.hid (show decN l = ⟨1, (decLeaf n s2).1, [], [], (decLeaf n s2).2⟩ by unfold decN; simp only [e1, e2, if_true])
  clear e1 e2
  have hlen : ¬ ((ofL l).size > 500) := by rw [ofL_size]; omega
  have hleni : ¬ (500 < ((ofL l).size : Int)) := by rw [ofL_size]; omega
  clear hl
  go_enter Try.func21, Try.ntmps21
  go_upto_region 6 with (first
    | (go_at_call 40
       (with_reducible refine (byte_call HD.out.ra HD.out.l 1 s1 E1.out).mono ?_)
       rintro e w1 ⟨rfl, ha, hk⟩
       have HD1 := Lib.hid (HD.out.read ha L1.out)
       clear ha hk)
    | (go_at_call 40
       (with_reducible refine (byte_call HD1.out.ra HD1.out.l n s2 E2.out).mono ?_)
       rintro e w2 ⟨rfl, ha, hk⟩
       have HD2 := Lib.hid (HD1.out.read ha L2.out)
       clear ha hk))
  have x0 := (blk_cell HD2.out.x 0).trans rfl
  have f0 := blk_frozen HD2.out.x 0
  go_upto_region 7 with fail
  have HD3 := Lib.hid (HD2.out.mark true)
  clear x0 f0 HD HD1 HD2 hlen hleni
  generalize w2.setCell ⟨w.heap.size + 1 + 1, 0, none⟩ (.bool true) = w3 at HD3 ⊢
  have hgr : w.heap.size < w.heap.size + 1 := by omega
  generalize w.heap.size + 1 + 1 = g5 at HD3 ⊢
  generalize w.heap.size + 1 = gr at HD3 hgr ⊢
  have x0 := (blk_cell HD3.out.x 0).trans rfl
  go_upto_block 0 with fail
  go_cut [] (fun wc => ∃ v, Hid (DS w wc gr g5 (decLeaf n s2).2 true v (decLeaf n s2).1 (.slice none 0 0) [] (.slice none 0 0) []))
  case first =>
    clear x0
    go_wp2_with fail
    go_loopw [33] (fun i wr => ∃ (k : Nat) (s : RS) (v1 : Value) (xs : List S43), k ≤ n ∧ i = .int .i64 k ∧ Hid (DS w wr gr g5 s true v1 xs (.slice none 0 0) [] (.slice none 0 0) []) ∧ Hid (xs.length ≤ k) ∧ Hid (decLeaf n s2 = (xs ++ (decLeaf (n - k) s).1, (decLeaf (n - k) s).2))) (fun i _ => n - (intOf i).toNat)
    case atStart => exact ⟨0, s2, _, [], Nat.zero_le _, rfl, HD3, Lib.hid (Nat.le_refl _), Lib.hid (by simp)⟩
    case round =>
    obtain ⟨k, s, v1, xs, hk, rfl, HDr, HXl, HDe⟩ := hrel
    by_cases hlt : k < n
    · have hlti : (k : Int) < (n : Int) := by omega
      cases hb : s.b
      · obtain ⟨c, u, ecu⟩ : ∃ c u, rCell s = (c, u) := ⟨_, _, rfl⟩
        have HE := Lib.hid ecu
        have HLE := Lib.hid (show u.l.length ≤ s.l.length by have h := rCell_l s; rw [ecu] at h; exact h)
        have HLEN := Lib.hid (show xs.length ≤ 300 by have := HXl.out; have := N1.out; omega)
        have HDe2 := Lib.hid (show decLeaf n s2 = ((xs ++ [c]) ++ (decLeaf (n - (k + 1)) u).1, (decLeaf (n - (k + 1)) u).2) by
          rw [HDe.out]
          obtain ⟨m, hm⟩ : ∃ m, n - k = m + 1 := ⟨n - k - 1, by omega⟩
          rw [hm, decLeaf, if_neg (by rw [hb]; simp), ecu, show n - (k + 1) = m by omega]
          simp)
        have hw1 : IntKind.i64.wrap ((k : Int) + 1) = (k : Int) + 1 := IntWalk.i64_in _ (by have := N1.out; omega)
        have hw2 : wrap64 ((k : Int) + 1) = (k : Int) + 1 := (i64_w _).symm.trans hw1
        have HW := Lib.hid hw2
        have y1 : wr.cell? ⟨gr, 1, none⟩ = some (.bool false) := by have := (blk_cell HDr.out.i.1 1).trans rfl; rw [hb] at this; exact this
        have x0 : wr.cell? ⟨g5, 0, none⟩ = some (.bool true) := (blk_cell HDr.out.x 0).trans rfl
        clear ecu hb HDe
        go_upto_region 13 with fail
        clear y1 x0
        have HD_ := Lib.hid HDr.out.drew
        refine start_ (n := 8) (S := fun w' => w'.cell? ⟨g5, 1, none⟩ = some v1) (ds := [7]) #[false, false, false, false, false, false, false, false] (by kernel_rfl) rfl rfl ((blk_cell HD_.out.x 1).trans rfl) (fun hHeld => ?_)
        generalize wr.drew = wd at HD_ hHeld ⊢
        refine pure_ (i := 0) (N := some 41) (v := ?_) (a' := ?_) #[true, false, false, false, false, false, false, false] rfl rfl (by kernel_rfl) (fun _ _ _ h => h) (Or.inl ⟨by rfl, ?_⟩) ?_ ?_
        rotate_left
        · intro w'
          go_simp
          with_reducible rfl
        rotate_left
        · simp only [Act.put, List.setIfInBounds_toArray, List.set_cons_zero, List.set_cons_succ, i64_w, i32_w]
          rfl
        refine pure_ (i := 2) (N := some 43) (v := ?_) (a' := ?_) #[true, false, true, false, false, false, false, false] rfl rfl (by kernel_rfl) (fun _ _ _ h => h) (Or.inl ⟨by rfl, ?_⟩) ?_ ?_
        rotate_left
        · intro w'
          go_simp
          with_reducible rfl
        rotate_left
        · simp only [Act.put, List.setIfInBounds_toArray, List.set_cons_zero, List.set_cons_succ, i64_w, i32_w]
          rfl
        refine take_ (i := 1) (N := some 42) (v := ?_) (a' := ?_) #[true, true, true, false, false, false, false, false] rfl rfl (by kernel_rfl) (fun _ _ _ h => h) (Or.inl ⟨by rfl, ?_⟩) hHeld ?_ ?_
        rotate_left
        · rintro w' s0
          go_simp
          with_reducible rfl
        rotate_left
        · simp only [Act.put, List.setIfInBounds_toArray, List.set_cons_zero, List.set_cons_succ, i64_w, i32_w]
          rfl
        refine one_ (i := 3) (N := some 44) #[true, true, true, true, false, false, false, false] rfl rfl (by kernel_rfl) (by decide) (fun K hK => ?_)
        refine goes_ Try.func42 (by kernel_rfl) rfl #[.pointer (some ⟨gr, 0, none⟩)] (by rfl) rfl rfl (by first | rfl | (simp only [List.map_toArray, List.map_cons, List.map_nil]; rfl)) ?_
        with_reducible refine (cell_call HD_.out.ra HD_.out.l c u HE.out).mono ?_
        rintro e we ⟨rfl, ha, hk⟩
        refine ⟨_, rfl, ?_⟩
        have HE_ := Lib.hid (HD_.out.read ha HLE.out)
        clear ha hk
        refine hK.out _ _ ((blk_cell HE_.out.x 1).trans rfl) (fun hHeld => ?_)
        clear hK K
        refine norm_ (a' := ?_) ?_ ?_
        rotate_left
        · show Act.put _ (some 44) _ = _
          simp only [Act.put, List.setIfInBounds_toArray, List.set_cons_zero, List.set_cons_succ, i64_w, i32_w]
          rfl
        refine one_ (i := 4) (N := some 45) #[true, true, true, true, true, false, false, false] rfl rfl (by kernel_rfl) (by decide) (fun K hK => ?_)
        refine value_ (v := ?_) (w1 := ?_) (by rfl) rfl ?_ ?_
        rotate_left
        rotate_left
        · go_simp
          first | (apply And.intro <;> rfl) | rfl
        have hbb := Lib.hid (below_alloc (Below.refl we.heap.size we) (.cells #[.string c.f0, .string c.f1, .int .i64 c.f2, .int .i64 c.f3] 43))
        refine hK.out _ _ (pw_cell_below hbb.out hHeld) (fun hHeld => ?_)
        clear hK K
        refine norm_ (a' := ?_) ?_ ?_
        rotate_left
        · show Act.put _ (some 45) _ = _
          simp only [Act.put, List.setIfInBounds_toArray, List.set_cons_zero, List.set_cons_succ, i64_w, i32_w]
          rfl
        clear hbb
        refine one_ (i := 5) (N := some 46) #[true, true, true, true, true, true, false, false] rfl rfl (by kernel_rfl) (by decide) (fun K hK => ?_)
        refine Kd.R_append_step k43 (w0 := w) (W := we) w.heap.size (by rfl) (.tmp 42) (.tmp 45) 22 43 (.agg #[(.string ⟨#[]⟩), (.string ⟨#[]⟩), (.int .i64 0), (.int .i64 0)]) 48 rfl Try.underlying22 info43 rfl (by decide) (by omega) v1 xs c [.string c.f0, .string c.f1, .int .i64 c.f2, .int .i64 c.f3] (fun k => g5 < k) (fun _ => False) rfl rfl ?aP (fun _ hk => hk.elim) ?aF HE_.out.r1 HE_.out.b ?aS ?aL ?_
        case aP => first | exact k43_mkM _ _ _ _ | rfl
        case aF => intro k_ hk_; have := blk_lt HE_.out.x; omega
        case aS => exact HE_.out.b.size
        case aL => have := HLEN.out; omega
        intro v' w5 hr hb hg hat
        obtain ⟨A', c', rfl⟩ := Kd.R_slice hr
        have hx5 := (keep_of HE_.out.r1 hg g5 (Nat.le_refl _) (blk_lt HE_.out.x)).trans HE_.out.x
        have HF_ := Lib.hid (HE_.out.put1 hr hb hg)
        have HX_ := Lib.hid hx5
        clear hr hb hg hat hx5
        refine hK.out _ _ ((blk_cell HX_.out 1).trans rfl) (fun hHeld => ?_)
        clear hK K
        refine norm_ (a' := ?_) ?_ ?_
        rotate_left
        · show Act.put _ (some 46) _ = _
          simp only [Act.put, List.setIfInBounds_toArray, List.set_cons_zero, List.set_cons_succ, i64_w, i32_w]
          rfl
        obtain ⟨nn, hnn⟩ : ∃ nn, nn = (xs ++ [c]).length := ⟨_, rfl⟩
        rw [← hnn] at HF_ ⊢
        clear hnn
        refine pure_ (i := 6) (N := some 47) (v := ?_) (a' := ?_) #[true, true, true, true, true, true, true, false] rfl rfl (by kernel_rfl) (fun _ _ _ h => h) (Or.inl ⟨by rfl, ?_⟩) ?_ ?_
        rotate_left
        · intro w'
          go_simp
          with_reducible rfl
        rotate_left
        · simp only [Act.put, List.setIfInBounds_toArray, List.set_cons_zero, List.set_cons_succ, i64_w, i32_w]
          rfl
        refine last_ (i := 7) (N := none) #[true, true, true, true, true, true, true, true] rfl rfl (by kernel_rfl) (by decide) (fun K hK => ?_)
        have fx := blk_frozen HX_.out 1
        refine skip_ (w1 := ?_) (by rfl) rfl ?_ ?_
        rotate_left
        · go_simp
          rfl
        refine hK.out _ _ ?_
        clear hK K fx hHeld HX_
        refine done_ (by kernel_rfl) ?_
        have HD4 := HF_
        clear HF_ HE_ HD_
        generalize w5.setCell ⟨g5, 1, none⟩ (.slice A' nn c') = w6 at HD4 ⊢
        generalize Value.slice A' nn c' = v' at HD4 ⊢
        go_wp2_with fail
        go_roundw
        case rel => exact ⟨k + 1, u, v', xs ++ [c], by omega, by (first | rfl | (simp; done) | go_num), HD4, Lib.hid (by have := HXl.out; simp; omega), HDe2⟩
        case measure => (try rw [hw2]); clear hw1 hw2; show n - ((k : Int) + 1).toNat < n - (k : Int).toNat; omega
      · have y1 : wr.cell? ⟨gr, 1, none⟩ = some (.bool true) := by have := (blk_cell HDr.out.i.1 1).trans rfl; rw [hb] at this; exact this
        have HDe2 := Lib.hid (show decLeaf n s2 = (xs, s) by
          rw [HDe.out]
          obtain ⟨m, hm⟩ : ∃ m, n - k = m + 1 := ⟨n - k - 1, by omega⟩
          rw [hm, decLeaf, if_pos hb]
          simp)
        clear hb
        go_wp2_with fail
        go_meet
        exact ⟨v1, by rw [HDe2.out]; exact HDr⟩
    · have HDe2 := Lib.hid (show decLeaf n s2 = (xs, s) by
        rw [HDe.out, show n - k = 0 by omega]
        simp [decLeaf])
      have hlti : ¬ (k : Int) < (n : Int) := by omega
      go_wp2_with fail
      go_meet
      exact ⟨v1, by rw [HDe2.out]; exact HDr⟩
  case rest =>
  obtain ⟨v, HDz⟩ := hcut
  clear HD3 x0
  obtain ⟨X, st, hX⟩ : ∃ X st, decLeaf n s2 = (X, st) := ⟨_, _, rfl⟩
  have HDy := Lib.hid (show DS w wc gr g5 st true v X (.slice none 0 0) [] (.slice none 0 0) [] by have := HDz.out; rw [hX] at this; exact this)
  have HDc := Lib.hid (show decN l = ⟨1, X, [], [], st⟩ by have := HDEC.out; rw [hX] at this; exact this)
  have HXle := Lib.hid (show X.length ≤ 255 ∧ ∀ c ∈ X, c.f0.size ≤ 255 ∧ c.f1.size ≤ 255 by have h := decLeaf_le n s2; rw [hX] at h; exact ⟨Nat.le_trans h.1 N1.out, h.2⟩)
  have HM := Lib.hid (show mild X [] [] = true by
    unfold mild
    simp only [Bool.and_eq_true, decide_eq_true_eq, List.all_eq_true]
    refine ⟨⟨⟨by have := HXle.out.1; omega, by simp⟩, by simp⟩, fun c hc => ?_⟩
    have := HXle.out.2 c hc
    omega)
  clear hX HDz HDEC
  have y0 : wc.cell? ⟨gr, 0, none⟩ = some (.string (ofL st.l)) := (blk_cell HDy.out.i.1 0).trans rfl
  have z0 := (blk_cell HDy.out.z 0).trans rfl
  have z1 := (blk_cell HDy.out.z 1).trans rfl
  have z2 := (blk_cell HDy.out.z 2).trans rfl
  have z3 := (blk_cell HDy.out.z 3).trans rfl
  have fz0 := blk_frozen HDy.out.z 0
  have fz1 := blk_frozen HDy.out.z 1
  have fz2 := blk_frozen HDy.out.z 2
  have fz3 := blk_frozen HDy.out.z 3
  have hg5 := HDy.out.o2
  obtain ⟨A, ca, rfl⟩ := Kd.R_slice HDy.out.r1
  have x0 := (blk_cell HDy.out.x 0).trans rfl
  have x1 := (blk_cell HDy.out.x 1).trans rfl
  have x2 := (blk_cell HDy.out.x 2).trans rfl
  have x3 := (blk_cell HDy.out.x 3).trans rfl
  cases hb : st.b
  · have y1 : wc.cell? ⟨gr, 1, none⟩ = some (.bool false) := by have := (blk_cell HDy.out.i.1 1).trans rfl; rw [hb] at this; exact this
    have HBb := Lib.hid hb
    clear hb
    by_cases hl0 : st.l = []
    · rw [hl0] at y0
      have y0' : wc.cell? ⟨gr, 0, none⟩ = some (.string ⟨#[]⟩) := y0
      have HL0' := Lib.hid hl0
      have HNV : Hid (NV.ok ⟨true, A, ca, X, none, 0, [], none, 0, []⟩ wc) := Lib.hid ⟨(Kd.R_reads' HDy.out.r1).2.2, (Kd.R_reads' HDy.out.r1).2.1, (zero_ok wc).r2, Nat.le_refl _, (zero_ok wc).r3, Nat.le_refl _⟩
      clear y0 hl0
      cases hc : checkB true X [] []
      · have HR : Hid ((if checkB true X [] [] = true then 0 else 2 : Int) = 2) := Lib.hid (by rw [hc]; rfl)
        have HCK := Lib.hid (show Calls Try.prog 15 #[.agg #[.bool true, .slice A X.length ca, .slice none 0 0, .slice none 0 0]] wc (fun e w' => e = .returned (.int .i64 2) ∧ Below wc.heap.size wc w') from nv_checksT (v := ⟨true, A, ca, X, none, 0, [], none, 0, []⟩) HNV.out rfl HM.out 2 HR.out)
        have HC := Lib.hid hc
        clear hc
        go_wp2_with (first
          | (go_at_call 15
             (with_reducible refine HCK.out.mono ?_)
             rintro e wk ⟨rfl, hbk⟩
             have HDk := Lib.hid (HDy.out.read (HDy.out.ra.below hbk) (Nat.le_refl _))
             clear hbk y1 y0' x0 x1 x2 x3 z0 z1 z2 z3 fz0 fz1 fz2 fz3
             have z0 := (blk_cell HDk.out.z 0).trans rfl
             have z1 := (blk_cell HDk.out.z 1).trans rfl
             have z2 := (blk_cell HDk.out.z 2).trans rfl
             have z3 := (blk_cell HDk.out.z 3).trans rfl
             have fz0 := blk_frozen HDk.out.z 0
             have fz1 := blk_frozen HDk.out.z 1
             have fz2 := blk_frozen HDk.out.z 2
             have fz3 := blk_frozen HDk.out.z 3))
        have q0 := blk_put HDk.out.z 0 (.bool false) rfl
        have q1 := blk_put q0 1 (.slice none 0 0) rfl
        have q2 := blk_put q1 2 (.slice none 0 0) rfl
        have q3 := blk_put q2 3 (.slice none 0 0) rfl
        refine bodyPost_ret (results_ct rfl _ _ (w.heap.size) 26 #[.bool false, .slice none 0 0, .slice none 0 0, .slice none 0 0] (0, 0) _ rfl q3 Try.underlying26 rfl (by kernel_rfl)) rfl ?_
        refine ⟨zeroNV, 5, rfl, zero_ok _, below4 HDk.out.b (Nat.le_refl _) _ _ _ _, .inr ⟨rfl, fun hg => ?_⟩⟩
        have hg2 := hg.2
        rw [HDc.out] at hg2
        revert hg2
        show ¬ _
        simp only [Bool.not_eq_true]
        unfold DN.good DN.leaf
        simp [HC.out]
      · have HR : Hid ((if checkB true X [] [] = true then 0 else 2 : Int) = 0) := Lib.hid (by rw [hc]; rfl)
        have HCK := Lib.hid (show Calls Try.prog 15 #[.agg #[.bool true, .slice A X.length ca, .slice none 0 0, .slice none 0 0]] wc (fun e w' => e = .returned (.int .i64 0) ∧ Below wc.heap.size wc w') from nv_checksT (v := ⟨true, A, ca, X, none, 0, [], none, 0, []⟩) HNV.out rfl HM.out 0 HR.out)
        have HC := Lib.hid hc
        clear hc
        go_wp2_with (first
          | (go_at_call 15
             (with_reducible refine HCK.out.mono ?_)
             rintro e wk ⟨rfl, hbk⟩
             have HDk := Lib.hid (HDy.out.read (HDy.out.ra.below hbk) (Nat.le_refl _))
             clear hbk y1 y0' x0 x1 x2 x3 z0 z1 z2 z3 fz0 fz1 fz2 fz3
             have x0 := (blk_cell HDk.out.x 0).trans rfl
             have x1 := (blk_cell HDk.out.x 1).trans rfl
             have x2 := (blk_cell HDk.out.x 2).trans rfl
             have x3 := (blk_cell HDk.out.x 3).trans rfl
             have z0 := (blk_cell HDk.out.z 0).trans rfl
             have z1 := (blk_cell HDk.out.z 1).trans rfl
             have z2 := (blk_cell HDk.out.z 2).trans rfl
             have z3 := (blk_cell HDk.out.z 3).trans rfl
             have fz0 := blk_frozen HDk.out.z 0
             have fz1 := blk_frozen HDk.out.z 1
             have fz2 := blk_frozen HDk.out.z 2
             have fz3 := blk_frozen HDk.out.z 3))
        have q0 := blk_put HDk.out.z 0 (.bool true) rfl
        have q1 := blk_put q0 1 (.slice A X.length ca) rfl
        have q2 := blk_put q1 2 (.slice none 0 0) rfl
        have q3 := blk_put q2 3 (.slice none 0 0) rfl
        refine bodyPost_ret (results_ct rfl _ _ (w.heap.size) 26 #[.bool true, .slice A X.length ca, .slice none 0 0, .slice none 0 0] (0, 0) _ rfl q3 Try.underlying26 rfl (by kernel_rfl)) rfl ?_
        have hr := R_four (a := .bool true) (b := .slice A X.length ca) (c := .slice none 0 0) (f := .slice none 0 0) HDk.out.r1 (show w.heap.size ≤ g5 by omega)
        refine ⟨⟨true, A, ca, X, none, 0, [], none, 0, []⟩, 0, rfl, ⟨(Kd.R_reads' hr).2.2, (Kd.R_reads' hr).2.1, (zero_ok _).r2, Nat.le_refl _, (zero_ok _).r3, Nat.le_refl _⟩, below4 HDk.out.b (Nat.le_refl _) _ _ _ _, .inl ⟨rfl, HL0.out, ?_⟩⟩
        rw [HDc.out]
        refine ⟨?_, rfl, rfl, rfl, rfl⟩
        unfold DN.good DN.leaf
        simp [HC.out, HBb.out, HL0'.out]
    · have hne : ((ofL st.l).toList == []) = false := by
        rw [ByteArray.toList_eq, ofL_toList]
        cases h : st.l
        · exact absurd h hl0
        · rfl
      have hne2 : ¬ ((ofL st.l).toList = []) := fun e => by rw [e] at hne; simp at hne
      have HL0' := Lib.hid hl0
      clear hl0
      go_wp2
      have q0 := blk_put HDy.out.z 0 (.bool false) rfl
      have q1 := blk_put q0 1 (.slice none 0 0) rfl
      have q2 := blk_put q1 2 (.slice none 0 0) rfl
      have q3 := blk_put q2 3 (.slice none 0 0) rfl
      refine bodyPost_ret (results_ct rfl _ _ (w.heap.size) 26 #[.bool false, .slice none 0 0, .slice none 0 0, .slice none 0 0] (0, 0) _ rfl q3 Try.underlying26 rfl (by kernel_rfl)) rfl ?_
      refine ⟨zeroNV, 5, rfl, zero_ok _, below4 HDy.out.b (Nat.le_refl _) _ _ _ _, .inr ⟨rfl, fun hg => ?_⟩⟩
      have hg2 := hg.2
      rw [HDc.out] at hg2
      revert hg2
      show ¬ _
      simp only [Bool.not_eq_true]
      unfold DN.good DN.leaf
      simp [HL0'.out]
  · have y1 : wc.cell? ⟨gr, 1, none⟩ = some (.bool true) := by have := (blk_cell HDy.out.i.1 1).trans rfl; rw [hb] at this; exact this
    have HBb := Lib.hid hb
    clear hb
    go_wp2
    have q0 := blk_put HDy.out.z 0 (.bool false) rfl
    have q1 := blk_put q0 1 (.slice none 0 0) rfl
    have q2 := blk_put q1 2 (.slice none 0 0) rfl
    have q3 := blk_put q2 3 (.slice none 0 0) rfl
    refine bodyPost_ret (results_ct rfl _ _ (w.heap.size) 26 #[.bool false, .slice none 0 0, .slice none 0 0, .slice none 0 0] (0, 0) _ rfl q3 Try.underlying26 rfl (by kernel_rfl)) rfl ?_
    refine ⟨zeroNV, 5, rfl, zero_ok _, below4 HDy.out.b (Nat.le_refl _) _ _ _ _, .inr ⟨rfl, fun hg => ?_⟩⟩
    have hg2 := hg.2
    rw [HDc.out] at hg2
    revert hg2
    show ¬ _
    simp only [Bool.not_eq_true]
    unfold DN.good DN.leaf
    simp [HBb.out]
set_option maxHeartbeats 4000000 in
set_option maxRecDepth 100000 in
theorem decode_br (l : List UInt8) (w : World) (hl : l.length ≤ 500) (kd n d0 : Nat) (hkd : kd ≠ 1) (s1 s2 s3 : RS) (e1 : rByte ⟨l, false⟩ = (kd, s1)) (e2 : rByte s1 = (n, s2)) (e3 : rFour s2 = (d0, s3)) :
    Calls Try.prog 21 #[.string (ofL l)] w (DecP l w) := by
  have E1 := Lib.hid e1
  have E2 := Lib.hid e2
  have E3 := Lib.hid e3
  have L1 := Lib.hid (show s1.l.length ≤ l.length by have h : (rByte ⟨l, false⟩).2.l.length ≤ l.length := rTake_l 1 _; rw [e1] at h; simp only at h; omega)
  have L2 := Lib.hid (show s2.l.length ≤ s1.l.length by have h : (rByte s1).2.l.length ≤ s1.l.length := rTake_l 1 _; rw [e2] at h; exact h)
  have L3 := Lib.hid (show s3.l.length ≤ s2.l.length by have h : (rFour s2).2.l.length ≤ s2.l.length := rTake_l 4 _; rw [e3] at h; exact h)
  have N1 := Lib.hid (show n ≤ 255 by have h := rByte_le s1; rw [e2] at h; exact h)
  have HL0 := Lib.hid hl
  have HKD := Lib.hid hkd
  have HD := Lib.hid (DS.mk0 w l (by omega))
  have HDEC := Lib.hid (show decN l = ⟨kd, [], (decBr n s3).1.1, (d0 : Int) :: (decBr n s3).1.2, (decBr n s3).2⟩ by unfold decN; simp only [e1, e2, e3]; rw [if_neg hkd])
  have hk1 : ((kd : Int) == 1) = false := beq_eq_false_iff_ne.2 (by omega)
  clear e1 e2 e3 hkd
  have hlen : ¬ ((ofL l).size > 500) := by rw [ofL_size]; omega
  have hleni : ¬ (500 < ((ofL l).size : Int)) := by rw [ofL_size]; omega
  clear hl
  go_enter Try.func21, Try.ntmps21
  go_upto_region 6 with (first
    | (go_at_call 40
       (with_reducible refine (byte_call HD.out.ra HD.out.l kd s1 E1.out).mono ?_)
       rintro e w1 ⟨rfl, ha, hk⟩
       have HD1 := Lib.hid (HD.out.read ha L1.out)
       clear ha hk)
    | (go_at_call 40
       (with_reducible refine (byte_call HD1.out.ra HD1.out.l n s2 E2.out).mono ?_)
       rintro e w2 ⟨rfl, ha, hk⟩
       have HD2 := Lib.hid (HD1.out.read ha L2.out)
       clear ha hk))
  have x0 := (blk_cell HD2.out.x 0).trans rfl
  have f0 := blk_frozen HD2.out.x 0
  go_upto_region 7 with fail
  have HD3 := Lib.hid (HD2.out.mark false)
  clear x0 f0 HD HD1 HD2 hlen hleni
  generalize w2.setCell ⟨w.heap.size + 1 + 1, 0, none⟩ (.bool false) = w3 at HD3 ⊢
  have hgr : w.heap.size < w.heap.size + 1 := by omega
  generalize w.heap.size + 1 + 1 = g5 at HD3 ⊢
  generalize w.heap.size + 1 = gr at HD3 hgr ⊢
  have x0 := (blk_cell HD3.out.x 0).trans rfl
  go_upto_region 8 with fail
  clear x0
  obtain ⟨v3, hv3⟩ : ∃ v : Value, v = .slice none 0 0 := ⟨_, rfl⟩
  obtain ⟨ds, hds⟩ : ∃ d : List Int, d = [] := ⟨_, rfl⟩
  have HD4 := Lib.hid (show DS w w3 gr g5 s2 false (.slice none 0 0) [] (.slice none 0 0) [] v3 ds by rw [hv3, hds]; exact HD3.out)
  have HDS := Lib.hid hds
  have HLEN0 := Lib.hid (show ds.length ≤ 300 by rw [hds]; simp)
  clear hv3 hds HD3
  have HD_ := Lib.hid HD4.out.drew
  refine start_ (n := 8) (S := fun w' => w'.cell? ⟨g5, 3, none⟩ = some v3) (ds := [7]) #[false, false, false, false, false, false, false, false] (by kernel_rfl) rfl rfl ((blk_cell HD_.out.x 3).trans rfl) (fun hHeld => ?_)
  generalize w3.drew = wd at HD_ hHeld ⊢
  refine pure_ (i := 0) (N := some 25) (v := ?_) (a' := ?_) #[true, false, false, false, false, false, false, false] rfl rfl (by kernel_rfl) (fun _ _ _ h => h) (Or.inl ⟨by rfl, ?_⟩) ?_ ?_
  rotate_left
  · intro w'
    go_simp
    with_reducible rfl
  rotate_left
  · simp only [Act.put, List.setIfInBounds_toArray, List.set_cons_zero, List.set_cons_succ, i64_w, i32_w]
    rfl
  refine pure_ (i := 2) (N := some 27) (v := ?_) (a' := ?_) #[true, false, true, false, false, false, false, false] rfl rfl (by kernel_rfl) (fun _ _ _ h => h) (Or.inl ⟨by rfl, ?_⟩) ?_ ?_
  rotate_left
  · intro w'
    go_simp
    with_reducible rfl
  rotate_left
  · simp only [Act.put, List.setIfInBounds_toArray, List.set_cons_zero, List.set_cons_succ, i64_w, i32_w]
    rfl
  refine take_ (i := 1) (N := some 26) (v := ?_) (a' := ?_) #[true, true, true, false, false, false, false, false] rfl rfl (by kernel_rfl) (fun _ _ _ h => h) (Or.inl ⟨by rfl, ?_⟩) hHeld ?_ ?_
  rotate_left
  · rintro w' s0
    go_simp
    with_reducible rfl
  rotate_left
  · simp only [Act.put, List.setIfInBounds_toArray, List.set_cons_zero, List.set_cons_succ, i64_w, i32_w]
    rfl
  refine one_ (i := 3) (N := some 28) #[true, true, true, true, false, false, false, false] rfl rfl (by kernel_rfl) (by decide) (fun K hK => ?_)
  refine goes_ Try.func41 (by kernel_rfl) rfl #[.pointer (some ⟨gr, 0, none⟩)] (by rfl) rfl rfl (by first | rfl | (simp only [List.map_toArray, List.map_cons, List.map_nil]; rfl)) ?_
  with_reducible refine (four_call HD_.out.ra HD_.out.l d0 s3 E3.out).mono ?_
  rintro e we ⟨rfl, ha, hk⟩
  refine ⟨_, rfl, ?_⟩
  have HE_ := Lib.hid (HD_.out.read ha L3.out)
  clear ha hk
  refine hK.out _ _ ((blk_cell HE_.out.x 3).trans rfl) (fun hHeld => ?_)
  clear hK K
  refine norm_ (a' := ?_) ?_ ?_
  rotate_left
  · show Act.put _ (some 28) _ = _
    simp only [Act.put, List.setIfInBounds_toArray, List.set_cons_zero, List.set_cons_succ, i64_w, i32_w]
    rfl
  refine one_ (i := 4) (N := some 29) #[true, true, true, true, true, false, false, false] rfl rfl (by kernel_rfl) (by decide) (fun K hK => ?_)
  refine value_ (v := ?_) (w1 := ?_) (by rfl) rfl ?_ ?_
  rotate_left
  rotate_left
  · go_simp
    first | (apply And.intro <;> rfl) | rfl
  have hbb := Lib.hid (below_alloc (Below.refl we.heap.size we) (.cells #[.int .i64 (d0 : Int)] 3))
  refine hK.out _ _ (pw_cell_below hbb.out hHeld) (fun hHeld => ?_)
  clear hK K
  refine norm_ (a' := ?_) ?_ ?_
  rotate_left
  · show Act.put _ (some 29) _ = _
    simp only [Act.put, List.setIfInBounds_toArray, List.set_cons_zero, List.set_cons_succ, i64_w, i32_w]
    rfl
  clear hbb
  refine one_ (i := 5) (N := some 30) #[true, true, true, true, true, true, false, false] rfl rfl (by kernel_rfl) (by decide) (fun K hK => ?_)
  refine Kd.R_append_step (Kd.int .i64) (w0 := w) (W := we) w.heap.size (by rfl) (.tmp 26) (.tmp 29) 24 3 (.int .i64 0) 8 rfl Try.underlying24 info3 rfl (by decide) (by omega) v3 ds (d0 : Int) [.int .i64 (d0 : Int)] (fun k => g5 < k) (fun _ => False) rfl rfl ?aP (fun _ hk => hk.elim) ?aF HE_.out.r3 HE_.out.b ?aS ?aL ?_
  case aP => first | exact k43_mkM _ _ _ _ | rfl
  case aF => intro k_ hk_; have := blk_lt HE_.out.x; omega
  case aS => exact HE_.out.b.size
  case aL => have := HLEN0.out; omega
  intro v' w5 hr hb hg hat
  obtain ⟨A', c', rfl⟩ := Kd.R_slice hr
  have hx5 := (keep_of HE_.out.r3 hg g5 (Nat.le_refl _) (blk_lt HE_.out.x)).trans HE_.out.x
  have HF_ := Lib.hid (HE_.out.put3 hr hb hg)
  have HX_ := Lib.hid hx5
  clear hr hb hg hat hx5
  refine hK.out _ _ ((blk_cell HX_.out 3).trans rfl) (fun hHeld => ?_)
  clear hK K
  refine norm_ (a' := ?_) ?_ ?_
  rotate_left
  · show Act.put _ (some 30) _ = _
    simp only [Act.put, List.setIfInBounds_toArray, List.set_cons_zero, List.set_cons_succ, i64_w, i32_w]
    rfl
  obtain ⟨nn, hnn⟩ : ∃ nn, nn = (ds ++ [(d0 : Int)]).length := ⟨_, rfl⟩
  rw [← hnn] at HF_ ⊢
  clear hnn
  refine pure_ (i := 6) (N := some 31) (v := ?_) (a' := ?_) #[true, true, true, true, true, true, true, false] rfl rfl (by kernel_rfl) (fun _ _ _ h => h) (Or.inl ⟨by rfl, ?_⟩) ?_ ?_
  rotate_left
  · intro w'
    go_simp
    with_reducible rfl
  rotate_left
  · simp only [Act.put, List.setIfInBounds_toArray, List.set_cons_zero, List.set_cons_succ, i64_w, i32_w]
    rfl
  refine last_ (i := 7) (N := none) #[true, true, true, true, true, true, true, true] rfl rfl (by kernel_rfl) (by decide) (fun K hK => ?_)
  have fx := blk_frozen HX_.out 3
  refine skip_ (w1 := ?_) (by rfl) rfl ?_ ?_
  rotate_left
  · go_simp
    rfl
  refine hK.out _ _ ?_
  clear hK K fx hHeld HX_
  refine done_ (by kernel_rfl) ?_
  have HD5 := HF_
  clear HF_ HE_ HD_
  generalize w5.setCell ⟨g5, 3, none⟩ (.slice A' nn c') = w4 at HD5 ⊢
  generalize Value.slice A' nn c' = v' at HD5 ⊢
  have HDS5 := Lib.hid (show ds ++ [(d0 : Int)] = [(d0 : Int)] by rw [HDS.out]; rfl)
  have HD6 := Lib.hid (show DS w w4 gr g5 s3 false (.slice none 0 0) [] (.slice none 0 0) [] v' [(d0 : Int)] by have := HD5.out; rw [HDS5.out] at this; exact this)
  clear HD5 HD4 HDS HDS5 HLEN0
  go_upto_block 0 with fail
  go_cut [] (fun wc => ∃ v2 v3, Hid (DS w wc gr g5 (decBr n s3).2 false (.slice none 0 0) [] v2 (decBr n s3).1.1 v3 ((d0 : Int) :: (decBr n s3).1.2)))
  case first =>
    go_wp2_with fail
    go_loopw [33] (fun i wr => ∃ (k : Nat) (s : RS) (v2 : Value) (ks : List ByteArray) (v3 : Value) (ds : List Int), k ≤ n ∧ i = .int .i64 k ∧ Hid (DS w wr gr g5 s false (.slice none 0 0) [] v2 ks v3 ds) ∧ Hid (ks.length ≤ k ∧ ds.length ≤ k + 1) ∧ Hid ((decBr n s3).1.1 = ks ++ (decBr (n - k) s).1.1 ∧ (d0 : Int) :: (decBr n s3).1.2 = ds ++ (decBr (n - k) s).1.2 ∧ (decBr n s3).2 = (decBr (n - k) s).2)) (fun i _ => n - (intOf i).toNat)
    case atStart => exact ⟨0, s3, _, [], v', [(d0 : Int)], Nat.zero_le _, rfl, HD6, Lib.hid ⟨Nat.le_refl _, by simp⟩, Lib.hid ⟨rfl, rfl, rfl⟩⟩
    case round =>
    obtain ⟨k, s, v2, ks, v3, ds, hk, rfl, HDr, HXl, HDe⟩ := hrel
    by_cases hlt : k < n
    · have hlti : (k : Int) < (n : Int) := by omega
      cases hb : s.b
      · obtain ⟨c, u, ecu⟩ : ∃ c u, rText s = (c, u) := ⟨_, _, rfl⟩
        obtain ⟨f, x, efx⟩ : ∃ f x, rFour u = (f, x) := ⟨_, _, rfl⟩
        have HE := Lib.hid ecu
        have HE2 := Lib.hid efx
        have HLE := Lib.hid (show u.l.length ≤ s.l.length by have h := rText_l s; rw [ecu] at h; exact h)
        have HLE2 := Lib.hid (show x.l.length ≤ u.l.length by have h : (rFour u).2.l.length ≤ u.l.length := rTake_l 4 _; rw [efx] at h; exact h)
        have HLEN := Lib.hid (show ks.length ≤ 300 by have := HXl.out.1; have := N1.out; omega)
        have HLEN2 := Lib.hid (show ds.length ≤ 300 by have := HXl.out.2; have := N1.out; omega)
        have HDe2 := Lib.hid (show (decBr n s3).1.1 = (ks ++ [ofL c]) ++ (decBr (n - (k + 1)) x).1.1 ∧ (d0 : Int) :: (decBr n s3).1.2 = (ds ++ [(f : Int)]) ++ (decBr (n - (k + 1)) x).1.2 ∧ (decBr n s3).2 = (decBr (n - (k + 1)) x).2 by
          obtain ⟨h1, h2, h3⟩ := HDe.out
          rw [h1, h2, h3]
          obtain ⟨m, hm⟩ : ∃ m, n - k = m + 1 := ⟨n - k - 1, by omega⟩
          rw [hm, decBr, if_neg (by rw [hb]; simp), ecu]
          simp only
          rw [efx, show n - (k + 1) = m by omega]
          simp)
        have hw1 : IntKind.i64.wrap ((k : Int) + 1) = (k : Int) + 1 := IntWalk.i64_in _ (by have := N1.out; omega)
        have hw2 : wrap64 ((k : Int) + 1) = (k : Int) + 1 := (i64_w _).symm.trans hw1
        have y1 : wr.cell? ⟨gr, 1, none⟩ = some (.bool false) := by have := (blk_cell HDr.out.i.1 1).trans rfl; rw [hb] at this; exact this
        have x0 : wr.cell? ⟨g5, 0, none⟩ = some (.bool false) := (blk_cell HDr.out.x 0).trans rfl
        clear ecu efx hb HDe
        go_upto_region 14 with fail
        clear y1 x0
        have HD_ := Lib.hid HDr.out.drew
        refine start_ (n := 8) (S := fun w' => w'.cell? ⟨g5, 2, none⟩ = some v2) (ds := [7]) #[false, false, false, false, false, false, false, false] (by kernel_rfl) rfl rfl ((blk_cell HD_.out.x 2).trans rfl) (fun hHeld => ?_)
        generalize wr.drew = wd at HD_ hHeld ⊢
        refine pure_ (i := 0) (N := some 48) (v := ?_) (a' := ?_) #[true, false, false, false, false, false, false, false] rfl rfl (by kernel_rfl) (fun _ _ _ h => h) (Or.inl ⟨by rfl, ?_⟩) ?_ ?_
        rotate_left
        · intro w'
          go_simp
          with_reducible rfl
        rotate_left
        · simp only [Act.put, List.setIfInBounds_toArray, List.set_cons_zero, List.set_cons_succ, i64_w, i32_w]
          rfl
        refine pure_ (i := 2) (N := some 50) (v := ?_) (a' := ?_) #[true, false, true, false, false, false, false, false] rfl rfl (by kernel_rfl) (fun _ _ _ h => h) (Or.inl ⟨by rfl, ?_⟩) ?_ ?_
        rotate_left
        · intro w'
          go_simp
          with_reducible rfl
        rotate_left
        · simp only [Act.put, List.setIfInBounds_toArray, List.set_cons_zero, List.set_cons_succ, i64_w, i32_w]
          rfl
        refine take_ (i := 1) (N := some 49) (v := ?_) (a' := ?_) #[true, true, true, false, false, false, false, false] rfl rfl (by kernel_rfl) (fun _ _ _ h => h) (Or.inl ⟨by rfl, ?_⟩) hHeld ?_ ?_
        rotate_left
        · rintro w' s0
          go_simp
          with_reducible rfl
        rotate_left
        · simp only [Act.put, List.setIfInBounds_toArray, List.set_cons_zero, List.set_cons_succ, i64_w, i32_w]
          rfl
        refine one_ (i := 3) (N := some 51) #[true, true, true, true, false, false, false, false] rfl rfl (by kernel_rfl) (by decide) (fun K hK => ?_)
        refine goes_ Try.func43 (by kernel_rfl) rfl #[.pointer (some ⟨gr, 0, none⟩)] (by rfl) rfl rfl (by first | rfl | (simp only [List.map_toArray, List.map_cons, List.map_nil]; rfl)) ?_
        with_reducible refine (text_call HD_.out.ra HD_.out.l c u HE.out).mono ?_
        rintro e we ⟨rfl, ha, hk⟩
        refine ⟨_, rfl, ?_⟩
        have HE_ := Lib.hid (HD_.out.read ha HLE.out)
        clear ha hk
        refine hK.out _ _ ((blk_cell HE_.out.x 2).trans rfl) (fun hHeld => ?_)
        clear hK K
        refine norm_ (a' := ?_) ?_ ?_
        rotate_left
        · show Act.put _ (some 51) _ = _
          simp only [Act.put, List.setIfInBounds_toArray, List.set_cons_zero, List.set_cons_succ, i64_w, i32_w]
          rfl
        refine one_ (i := 4) (N := some 52) #[true, true, true, true, true, false, false, false] rfl rfl (by kernel_rfl) (by decide) (fun K hK => ?_)
        refine value_ (v := ?_) (w1 := ?_) (by rfl) rfl ?_ ?_
        rotate_left
        rotate_left
        · go_simp
          first | (apply And.intro <;> rfl) | rfl
        have hbb := Lib.hid (below_alloc (Below.refl we.heap.size we) (.cells #[.string (ofL c)] 9))
        refine hK.out _ _ (pw_cell_below hbb.out hHeld) (fun hHeld => ?_)
        clear hK K
        refine norm_ (a' := ?_) ?_ ?_
        rotate_left
        · show Act.put _ (some 52) _ = _
          simp only [Act.put, List.setIfInBounds_toArray, List.set_cons_zero, List.set_cons_succ, i64_w, i32_w]
          rfl
        clear hbb
        refine one_ (i := 5) (N := some 53) #[true, true, true, true, true, true, false, false] rfl rfl (by kernel_rfl) (by decide) (fun K hK => ?_)
        refine Kd.R_append_step Kd.string (w0 := w) (W := we) w.heap.size (by rfl) (.tmp 49) (.tmp 52) 23 9 (.string ⟨#[]⟩) 16 rfl Try.underlying23 info9 rfl (by decide) (by omega) v2 ks (ofL c) [.string (ofL c)] (fun k => g5 < k) (fun _ => False) rfl rfl ?aP (fun _ hk => hk.elim) ?aF HE_.out.r2 HE_.out.b ?aS ?aL ?_
        case aP => first | exact k43_mkM _ _ _ _ | rfl
        case aF => intro k_ hk_; have := blk_lt HE_.out.x; omega
        case aS => exact HE_.out.b.size
        case aL => have := HLEN.out; omega
        intro v' w5 hr hb hg hat
        obtain ⟨A', c', rfl⟩ := Kd.R_slice hr
        have hx5 := (keep_of HE_.out.r2 hg g5 (Nat.le_refl _) (blk_lt HE_.out.x)).trans HE_.out.x
        have HF_ := Lib.hid (HE_.out.put2 hr hb hg)
        have HX_ := Lib.hid hx5
        clear hr hb hg hat hx5
        refine hK.out _ _ ((blk_cell HX_.out 2).trans rfl) (fun hHeld => ?_)
        clear hK K
        refine norm_ (a' := ?_) ?_ ?_
        rotate_left
        · show Act.put _ (some 53) _ = _
          simp only [Act.put, List.setIfInBounds_toArray, List.set_cons_zero, List.set_cons_succ, i64_w, i32_w]
          rfl
        obtain ⟨nn, hnn⟩ : ∃ nn, nn = (ks ++ [(ofL c)]).length := ⟨_, rfl⟩
        rw [← hnn] at HF_ ⊢
        clear hnn
        refine pure_ (i := 6) (N := some 54) (v := ?_) (a' := ?_) #[true, true, true, true, true, true, true, false] rfl rfl (by kernel_rfl) (fun _ _ _ h => h) (Or.inl ⟨by rfl, ?_⟩) ?_ ?_
        rotate_left
        · intro w'
          go_simp
          with_reducible rfl
        rotate_left
        · simp only [Act.put, List.setIfInBounds_toArray, List.set_cons_zero, List.set_cons_succ, i64_w, i32_w]
          rfl
        refine last_ (i := 7) (N := none) #[true, true, true, true, true, true, true, true] rfl rfl (by kernel_rfl) (by decide) (fun K hK => ?_)
        have fx := blk_frozen HX_.out 2
        refine skip_ (w1 := ?_) (by rfl) rfl ?_ ?_
        rotate_left
        · go_simp
          rfl
        refine hK.out _ _ ?_
        clear hK K fx hHeld HX_
        refine done_ (by kernel_rfl) ?_
        have HD7 := HF_
        clear HF_ HE_ HD_
        generalize w5.setCell ⟨g5, 2, none⟩ (.slice A' nn c') = w6 at HD7 ⊢
        generalize Value.slice A' nn c' = v' at HD7 ⊢
        generalize v' = v2' at HD7 ⊢
        go_upto_region 15 with fail
        have HD_ := Lib.hid HD7.out.drew
        refine start_ (n := 8) (S := fun w' => w'.cell? ⟨g5, 3, none⟩ = some v3) (ds := [7]) #[false, false, false, false, false, false, false, false] (by kernel_rfl) rfl rfl ((blk_cell HD_.out.x 3).trans rfl) (fun hHeld => ?_)
        generalize w6.drew = wd at HD_ hHeld ⊢
        refine pure_ (i := 0) (N := some 55) (v := ?_) (a' := ?_) #[true, false, false, false, false, false, false, false] rfl rfl (by kernel_rfl) (fun _ _ _ h => h) (Or.inl ⟨by rfl, ?_⟩) ?_ ?_
        rotate_left
        · intro w'
          go_simp
          with_reducible rfl
        rotate_left
        · simp only [Act.put, List.setIfInBounds_toArray, List.set_cons_zero, List.set_cons_succ, i64_w, i32_w]
          rfl
        refine pure_ (i := 2) (N := some 57) (v := ?_) (a' := ?_) #[true, false, true, false, false, false, false, false] rfl rfl (by kernel_rfl) (fun _ _ _ h => h) (Or.inl ⟨by rfl, ?_⟩) ?_ ?_
        rotate_left
        · intro w'
          go_simp
          with_reducible rfl
        rotate_left
        · simp only [Act.put, List.setIfInBounds_toArray, List.set_cons_zero, List.set_cons_succ, i64_w, i32_w]
          rfl
        refine take_ (i := 1) (N := some 56) (v := ?_) (a' := ?_) #[true, true, true, false, false, false, false, false] rfl rfl (by kernel_rfl) (fun _ _ _ h => h) (Or.inl ⟨by rfl, ?_⟩) hHeld ?_ ?_
        rotate_left
        · rintro w' s0
          go_simp
          with_reducible rfl
        rotate_left
        · simp only [Act.put, List.setIfInBounds_toArray, List.set_cons_zero, List.set_cons_succ, i64_w, i32_w]
          rfl
        refine one_ (i := 3) (N := some 58) #[true, true, true, true, false, false, false, false] rfl rfl (by kernel_rfl) (by decide) (fun K hK => ?_)
        refine goes_ Try.func41 (by kernel_rfl) rfl #[.pointer (some ⟨gr, 0, none⟩)] (by rfl) rfl rfl (by first | rfl | (simp only [List.map_toArray, List.map_cons, List.map_nil]; rfl)) ?_
        with_reducible refine (four_call HD_.out.ra HD_.out.l f x HE2.out).mono ?_
        rintro e we ⟨rfl, ha, hk⟩
        refine ⟨_, rfl, ?_⟩
        have HE_ := Lib.hid (HD_.out.read ha HLE2.out)
        clear ha hk
        refine hK.out _ _ ((blk_cell HE_.out.x 3).trans rfl) (fun hHeld => ?_)
        clear hK K
        refine norm_ (a' := ?_) ?_ ?_
        rotate_left
        · show Act.put _ (some 58) _ = _
          simp only [Act.put, List.setIfInBounds_toArray, List.set_cons_zero, List.set_cons_succ, i64_w, i32_w]
          rfl
        refine one_ (i := 4) (N := some 59) #[true, true, true, true, true, false, false, false] rfl rfl (by kernel_rfl) (by decide) (fun K hK => ?_)
        refine value_ (v := ?_) (w1 := ?_) (by rfl) rfl ?_ ?_
        rotate_left
        rotate_left
        · go_simp
          first | (apply And.intro <;> rfl) | rfl
        have hbb := Lib.hid (below_alloc (Below.refl we.heap.size we) (.cells #[.int .i64 (f : Int)] 3))
        refine hK.out _ _ (pw_cell_below hbb.out hHeld) (fun hHeld => ?_)
        clear hK K
        refine norm_ (a' := ?_) ?_ ?_
        rotate_left
        · show Act.put _ (some 59) _ = _
          simp only [Act.put, List.setIfInBounds_toArray, List.set_cons_zero, List.set_cons_succ, i64_w, i32_w]
          rfl
        clear hbb
        refine one_ (i := 5) (N := some 60) #[true, true, true, true, true, true, false, false] rfl rfl (by kernel_rfl) (by decide) (fun K hK => ?_)
        refine Kd.R_append_step (Kd.int .i64) (w0 := w) (W := we) w.heap.size (by rfl) (.tmp 56) (.tmp 59) 24 3 (.int .i64 0) 8 rfl Try.underlying24 info3 rfl (by decide) (by omega) v3 ds (f : Int) [.int .i64 (f : Int)] (fun k => g5 < k) (fun _ => False) rfl rfl ?aP (fun _ hk => hk.elim) ?aF HE_.out.r3 HE_.out.b ?aS ?aL ?_
        case aP => first | exact k43_mkM _ _ _ _ | rfl
        case aF => intro k_ hk_; have := blk_lt HE_.out.x; omega
        case aS => exact HE_.out.b.size
        case aL => have := HLEN2.out; omega
        intro v' w5 hr hb hg hat
        obtain ⟨A', c', rfl⟩ := Kd.R_slice hr
        have hx5 := (keep_of HE_.out.r3 hg g5 (Nat.le_refl _) (blk_lt HE_.out.x)).trans HE_.out.x
        have HF_ := Lib.hid (HE_.out.put3 hr hb hg)
        have HX_ := Lib.hid hx5
        clear hr hb hg hat hx5
        refine hK.out _ _ ((blk_cell HX_.out 3).trans rfl) (fun hHeld => ?_)
        clear hK K
        refine norm_ (a' := ?_) ?_ ?_
        rotate_left
        · show Act.put _ (some 60) _ = _
          simp only [Act.put, List.setIfInBounds_toArray, List.set_cons_zero, List.set_cons_succ, i64_w, i32_w]
          rfl
        obtain ⟨nn, hnn⟩ : ∃ nn, nn = (ds ++ [(f : Int)]).length := ⟨_, rfl⟩
        rw [← hnn] at HF_ ⊢
        clear hnn
        refine pure_ (i := 6) (N := some 61) (v := ?_) (a' := ?_) #[true, true, true, true, true, true, true, false] rfl rfl (by kernel_rfl) (fun _ _ _ h => h) (Or.inl ⟨by rfl, ?_⟩) ?_ ?_
        rotate_left
        · intro w'
          go_simp
          with_reducible rfl
        rotate_left
        · simp only [Act.put, List.setIfInBounds_toArray, List.set_cons_zero, List.set_cons_succ, i64_w, i32_w]
          rfl
        refine last_ (i := 7) (N := none) #[true, true, true, true, true, true, true, true] rfl rfl (by kernel_rfl) (by decide) (fun K hK => ?_)
        have fx := blk_frozen HX_.out 3
        refine skip_ (w1 := ?_) (by rfl) rfl ?_ ?_
        rotate_left
        · go_simp
          rfl
        refine hK.out _ _ ?_
        clear hK K fx hHeld HX_
        refine done_ (by kernel_rfl) ?_
        have HD8 := HF_
        clear HF_ HE_ HD_
        generalize w5.setCell ⟨g5, 3, none⟩ (.slice A' nn c') = w7 at HD8 ⊢
        generalize Value.slice A' nn c' = v' at HD8 ⊢
        go_wp2_with fail
        go_roundw
        case rel => exact ⟨k + 1, x, v2', ks ++ [ofL c], v', ds ++ [(f : Int)], by omega, by (first | rfl | (simp; done) | go_num), HD8, Lib.hid (by have := HXl.out; simp; omega), HDe2⟩
        case measure => (try rw [hw2]); clear hw1 hw2; show n - ((k : Int) + 1).toNat < n - (k : Int).toNat; omega
      · have y1 : wr.cell? ⟨gr, 1, none⟩ = some (.bool true) := by have := (blk_cell HDr.out.i.1 1).trans rfl; rw [hb] at this; exact this
        have HDe2 := Lib.hid (show (decBr n s3).1.1 = ks ∧ (d0 : Int) :: (decBr n s3).1.2 = ds ∧ (decBr n s3).2 = s by
          obtain ⟨h1, h2, h3⟩ := HDe.out
          rw [h1, h2, h3]
          obtain ⟨m, hm⟩ : ∃ m, n - k = m + 1 := ⟨n - k - 1, by omega⟩
          rw [hm, decBr, if_pos hb]
          simp)
        clear hb
        go_wp2_with fail
        go_meet
        exact ⟨v2, v3, by rw [HDe2.out.1, HDe2.out.2.1, HDe2.out.2.2]; exact HDr⟩
    · have HDe2 := Lib.hid (show (decBr n s3).1.1 = ks ∧ (d0 : Int) :: (decBr n s3).1.2 = ds ∧ (decBr n s3).2 = s by
        obtain ⟨h1, h2, h3⟩ := HDe.out
        rw [h1, h2, h3, show n - k = 0 by omega]
        simp [decBr])
      have hlti : ¬ (k : Int) < (n : Int) := by omega
      go_wp2_with fail
      go_meet
      exact ⟨v2, v3, by rw [HDe2.out.1, HDe2.out.2.1, HDe2.out.2.2]; exact HDr⟩
  case rest =>
  obtain ⟨v2, v3, HDz⟩ := hcut
  clear HD6
  obtain ⟨X, Y, st, hX⟩ : ∃ X Y st, decBr n s3 = ((X, Y), st) := ⟨_, _, _, rfl⟩
  have HDy := Lib.hid (show DS w wc gr g5 st false (.slice none 0 0) [] v2 X v3 ((d0 : Int) :: Y) by have := HDz.out; rw [hX] at this; exact this)
  have HDc := Lib.hid (show decN l = ⟨kd, [], X, (d0 : Int) :: Y, st⟩ by have := HDEC.out; rw [hX] at this; exact this)
  have HXle := Lib.hid (show X.length ≤ 255 ∧ Y.length = X.length by have h := decBr_le n s3; rw [hX] at h; exact ⟨Nat.le_trans h.1 N1.out, h.2.1⟩)
  obtain ⟨D, hD⟩ : ∃ D, D = (d0 : Int) :: Y := ⟨_, rfl⟩
  rw [← hD] at HDy HDc
  have HM := Lib.hid (show mild [] X D = true by
    unfold mild
    simp only [Bool.and_eq_true, decide_eq_true_eq, List.all_eq_true]
    have h1 := HXle.out.1
    have h2 := HXle.out.2
    refine ⟨⟨⟨by simp, by omega⟩, by rw [hD]; simp; omega⟩, fun c hc => by simp at hc⟩)
  clear hX HDz HDEC hD
  have y0 : wc.cell? ⟨gr, 0, none⟩ = some (.string (ofL st.l)) := (blk_cell HDy.out.i.1 0).trans rfl
  have z0 := (blk_cell HDy.out.z 0).trans rfl
  have z1 := (blk_cell HDy.out.z 1).trans rfl
  have z2 := (blk_cell HDy.out.z 2).trans rfl
  have z3 := (blk_cell HDy.out.z 3).trans rfl
  have fz0 := blk_frozen HDy.out.z 0
  have fz1 := blk_frozen HDy.out.z 1
  have fz2 := blk_frozen HDy.out.z 2
  have fz3 := blk_frozen HDy.out.z 3
  have hg5 := HDy.out.o2
  obtain ⟨A2, c2, rfl⟩ := Kd.R_slice HDy.out.r2
  obtain ⟨A3, c3, rfl⟩ := Kd.R_slice HDy.out.r3
  have x0 := (blk_cell HDy.out.x 0).trans rfl
  have x1 := (blk_cell HDy.out.x 1).trans rfl
  have x2 := (blk_cell HDy.out.x 2).trans rfl
  have x3 := (blk_cell HDy.out.x 3).trans rfl
  cases hb : st.b
  · have y1 : wc.cell? ⟨gr, 1, none⟩ = some (.bool false) := by have := (blk_cell HDy.out.i.1 1).trans rfl; rw [hb] at this; exact this
    have HBb := Lib.hid hb
    clear hb
    by_cases hl0 : st.l = []
    · rw [hl0] at y0
      have y0' : wc.cell? ⟨gr, 0, none⟩ = some (.string ⟨#[]⟩) := y0
      have HL0' := Lib.hid hl0
      clear y0 hl0
      by_cases hk2 : kd = 2
      · subst hk2
        have HNV : Hid (NV.ok ⟨false, none, 0, [], A2, c2, X, A3, c3, D⟩ wc) := Lib.hid ⟨(zero_ok wc).r1, Nat.le_refl _, (Kd.R_reads' HDy.out.r2).2.2, (Kd.R_reads' HDy.out.r2).2.1, (Kd.R_reads' HDy.out.r3).2.2, (Kd.R_reads' HDy.out.r3).2.1⟩
        cases hc : checkB false [] X D
        · have HCK := Lib.hid (show Calls Try.prog 15 #[.agg #[.bool false, .slice none 0 0, .slice A2 X.length c2, .slice A3 D.length c3]] wc (fun e w' => e = .returned (.int .i64 2) ∧ Below wc.heap.size wc w') from nv_checks (v := ⟨false, none, 0, [], A2, c2, X, A3, c3, D⟩) HNV.out HM.out 2 (by rw [show checkB false [] X D = false from hc]; rfl))
          have HC := Lib.hid hc
          clear hc
          go_wp2_with (first
            | (go_at_call 15
               (with_reducible refine HCK.out.mono ?_)
               rintro e wk ⟨rfl, hbk⟩
               have HDk := Lib.hid (HDy.out.read (HDy.out.ra.below hbk) (Nat.le_refl _))
               clear hbk y1 y0' x0 x1 x2 x3 z0 z1 z2 z3 fz0 fz1 fz2 fz3
               have z0 := (blk_cell HDk.out.z 0).trans rfl
               have z1 := (blk_cell HDk.out.z 1).trans rfl
               have z2 := (blk_cell HDk.out.z 2).trans rfl
               have z3 := (blk_cell HDk.out.z 3).trans rfl
               have fz0 := blk_frozen HDk.out.z 0
               have fz1 := blk_frozen HDk.out.z 1
               have fz2 := blk_frozen HDk.out.z 2
               have fz3 := blk_frozen HDk.out.z 3))
          have q0 := blk_put HDk.out.z 0 (.bool false) rfl
          have q1 := blk_put q0 1 (.slice none 0 0) rfl
          have q2 := blk_put q1 2 (.slice none 0 0) rfl
          have q3 := blk_put q2 3 (.slice none 0 0) rfl
          refine bodyPost_ret (results_ct rfl _ _ (w.heap.size) 26 #[.bool false, .slice none 0 0, .slice none 0 0, .slice none 0 0] (0, 0) _ rfl q3 Try.underlying26 rfl (by kernel_rfl)) rfl ?_
          refine ⟨zeroNV, 5, rfl, zero_ok _, below4 HDk.out.b (Nat.le_refl _) _ _ _ _, .inr ⟨rfl, fun hg => ?_⟩⟩
          have hg2 := hg.2
          rw [HDc.out] at hg2
          revert hg2
          show ¬ _
          simp only [Bool.not_eq_true]
          unfold DN.good DN.leaf
          simp [HC.out]
        · have HCK := Lib.hid (show Calls Try.prog 15 #[.agg #[.bool false, .slice none 0 0, .slice A2 X.length c2, .slice A3 D.length c3]] wc (fun e w' => e = .returned (.int .i64 0) ∧ Below wc.heap.size wc w') from nv_checks (v := ⟨false, none, 0, [], A2, c2, X, A3, c3, D⟩) HNV.out HM.out 0 (by rw [show checkB false [] X D = true from hc]; rfl))
          have HC := Lib.hid hc
          clear hc
          go_wp2_with (first
            | (go_at_call 15
               (with_reducible refine HCK.out.mono ?_)
               rintro e wk ⟨rfl, hbk⟩
               have HDk := Lib.hid (HDy.out.read (HDy.out.ra.below hbk) (Nat.le_refl _))
               clear hbk y1 y0' x0 x1 x2 x3 z0 z1 z2 z3 fz0 fz1 fz2 fz3
               have x0 := (blk_cell HDk.out.x 0).trans rfl
               have x1 := (blk_cell HDk.out.x 1).trans rfl
               have x2 := (blk_cell HDk.out.x 2).trans rfl
               have x3 := (blk_cell HDk.out.x 3).trans rfl
               have z0 := (blk_cell HDk.out.z 0).trans rfl
               have z1 := (blk_cell HDk.out.z 1).trans rfl
               have z2 := (blk_cell HDk.out.z 2).trans rfl
               have z3 := (blk_cell HDk.out.z 3).trans rfl
               have fz0 := blk_frozen HDk.out.z 0
               have fz1 := blk_frozen HDk.out.z 1
               have fz2 := blk_frozen HDk.out.z 2
               have fz3 := blk_frozen HDk.out.z 3))
          have q0 := blk_put HDk.out.z 0 (.bool false) rfl
          have q1 := blk_put q0 1 (.slice none 0 0) rfl
          have q2 := blk_put q1 2 (.slice A2 X.length c2) rfl
          have q3 := blk_put q2 3 (.slice A3 D.length c3) rfl
          refine bodyPost_ret (results_ct rfl _ _ (w.heap.size) 26 #[.bool false, .slice none 0 0, .slice A2 X.length c2, .slice A3 D.length c3] (0, 0) _ rfl q3 Try.underlying26 rfl (by kernel_rfl)) rfl ?_
          have hr2 := R_four (a := .bool false) (b := .slice none 0 0) (c := .slice A2 X.length c2) (f := .slice A3 D.length c3) HDk.out.r2 (show w.heap.size ≤ g5 by omega)
          have hr3 := R_four (a := .bool false) (b := .slice none 0 0) (c := .slice A2 X.length c2) (f := .slice A3 D.length c3) HDk.out.r3 (show w.heap.size ≤ g5 by omega)
          refine ⟨⟨false, none, 0, [], A2, c2, X, A3, c3, D⟩, 0, rfl, ⟨(zero_ok _).r1, Nat.le_refl _, (Kd.R_reads' hr2).2.2, (Kd.R_reads' hr2).2.1, (Kd.R_reads' hr3).2.2, (Kd.R_reads' hr3).2.1⟩, below4 HDk.out.b (Nat.le_refl _) _ _ _ _, .inl ⟨rfl, HL0.out, ?_⟩⟩
          rw [HDc.out]
          refine ⟨?_, rfl, rfl, rfl, rfl⟩
          unfold DN.good DN.leaf
          simp [HC.out, HBb.out, HL0'.out]
      · have hk2i : ((kd : Int) != 2) = true := by simp; omega
        have hk2j : ((kd : Int) == 2) = false := beq_eq_false_iff_ne.2 (by omega)
        have HK2 := Lib.hid hk2
        clear hk2
        go_wp2
        have q0 := blk_put HDy.out.z 0 (.bool false) rfl
        have q1 := blk_put q0 1 (.slice none 0 0) rfl
        have q2 := blk_put q1 2 (.slice none 0 0) rfl
        have q3 := blk_put q2 3 (.slice none 0 0) rfl
        refine bodyPost_ret (results_ct rfl _ _ (w.heap.size) 26 #[.bool false, .slice none 0 0, .slice none 0 0, .slice none 0 0] (0, 0) _ rfl q3 Try.underlying26 rfl (by kernel_rfl)) rfl ?_
        refine ⟨zeroNV, 5, rfl, zero_ok _, below4 HDy.out.b (Nat.le_refl _) _ _ _ _, .inr ⟨rfl, fun hg => ?_⟩⟩
        have hg2 := hg.2
        rw [HDc.out] at hg2
        revert hg2
        show ¬ _
        simp only [Bool.not_eq_true]
        unfold DN.good DN.leaf
        simp [HK2.out, HKD.out]
    · have hne : ((ofL st.l).toList == []) = false := by
        rw [ByteArray.toList_eq, ofL_toList]
        cases h : st.l
        · exact absurd h hl0
        · rfl
      have hne2 : ¬ ((ofL st.l).toList = []) := fun e => by rw [e] at hne; simp at hne
      have HL0' := Lib.hid hl0
      clear hl0
      go_wp2
      have q0 := blk_put HDy.out.z 0 (.bool false) rfl
      have q1 := blk_put q0 1 (.slice none 0 0) rfl
      have q2 := blk_put q1 2 (.slice none 0 0) rfl
      have q3 := blk_put q2 3 (.slice none 0 0) rfl
      refine bodyPost_ret (results_ct rfl _ _ (w.heap.size) 26 #[.bool false, .slice none 0 0, .slice none 0 0, .slice none 0 0] (0, 0) _ rfl q3 Try.underlying26 rfl (by kernel_rfl)) rfl ?_
      refine ⟨zeroNV, 5, rfl, zero_ok _, below4 HDy.out.b (Nat.le_refl _) _ _ _ _, .inr ⟨rfl, fun hg => ?_⟩⟩
      have hg2 := hg.2
      rw [HDc.out] at hg2
      revert hg2
      show ¬ _
      simp only [Bool.not_eq_true]
      unfold DN.good DN.leaf
      simp [HL0'.out]
  · have y1 : wc.cell? ⟨gr, 1, none⟩ = some (.bool true) := by have := (blk_cell HDy.out.i.1 1).trans rfl; rw [hb] at this; exact this
    have HBb := Lib.hid hb
    clear hb
    go_wp2
    have q0 := blk_put HDy.out.z 0 (.bool false) rfl
    have q1 := blk_put q0 1 (.slice none 0 0) rfl
    have q2 := blk_put q1 2 (.slice none 0 0) rfl
    have q3 := blk_put q2 3 (.slice none 0 0) rfl
    refine bodyPost_ret (results_ct rfl _ _ (w.heap.size) 26 #[.bool false, .slice none 0 0, .slice none 0 0, .slice none 0 0] (0, 0) _ rfl q3 Try.underlying26 rfl (by kernel_rfl)) rfl ?_
    refine ⟨zeroNV, 5, rfl, zero_ok _, below4 HDy.out.b (Nat.le_refl _) _ _ _ _, .inr ⟨rfl, fun hg => ?_⟩⟩
    have hg2 := hg.2
    rw [HDc.out] at hg2
    revert hg2
    show ¬ _
    simp only [Bool.not_eq_true]
    unfold DN.good DN.leaf
    simp [HBb.out]
set_option maxHeartbeats 4000000 in
set_option maxRecDepth 100000 in
theorem decode_long (l : List UInt8) (w : World) (hl : ¬ l.length ≤ 500) (hl2 : l.length ≤ 1000000) : Calls Try.prog 21 #[.string (ofL l)] w (DecP l w) := by
  have HL := Lib.hid hl
  have hlen : (ofL l).size > 500 := by rw [ofL_size]; omega
  have hleni : 500 < ((ofL l).size : Int) := by rw [ofL_size]; omega
  have HB0 := Lib.hid (below_alloc (Below.refl w.heap.size w) (.cells #[.bool false, .slice none 0 0, .slice none 0 0, .slice none 0 0] 26))
  have HZ0 := Lib.hid (heap_alloc_new w (.cells #[.bool false, .slice none 0 0, .slice none 0 0, .slice none 0 0] 26))
  clear hl hl2
  go_enter Try.func21, Try.ntmps21
  go_wp2
  have q0 := blk_put HZ0.out 0 (.bool false) rfl
  have q1 := blk_put q0 1 (.slice none 0 0) rfl
  have q2 := blk_put q1 2 (.slice none 0 0) rfl
  have q3 := blk_put q2 3 (.slice none 0 0) rfl
  first
    | (refine bodyPost_ret (results_ct rfl _ _ (w.heap.size) 26 #[.bool false, .slice none 0 0, .slice none 0 0, .slice none 0 0] (0, 0) _ rfl q3 Try.underlying26 rfl (by kernel_rfl)) rfl ?_
       exact ⟨zeroNV, 5, rfl, zero_ok _, below4 HB0.out (Nat.le_refl _) _ _ _ _, .inr ⟨rfl, fun hg => HL.out hg.1⟩⟩)
    | (refine bodyPost_ret (results_ct rfl _ _ (w.heap.size) 26 #[.bool false, .slice none 0 0, .slice none 0 0, .slice none 0 0] (0, 0) _ rfl HZ0.out Try.underlying26 rfl (by kernel_rfl)) rfl ?_
       exact ⟨zeroNV, 5, rfl, zero_ok _, HB0.out, .inr ⟨rfl, fun hg => HL.out hg.1⟩⟩)
/-- slot.Decode: the node that is read, if it is one. -/
theorem decode_call (l : List UInt8) (w : World) (hl : l.length ≤ 1000000) : Calls Try.prog 21 #[.string (ofL l)] w (DecP l w) := by
  by_cases h : l.length ≤ 500
  · obtain ⟨kd, s1, e1⟩ : ∃ k s, rByte ⟨l, false⟩ = (k, s) := ⟨_, _, rfl⟩
    obtain ⟨n, s2, e2⟩ : ∃ k s, rByte s1 = (k, s) := ⟨_, _, rfl⟩
    by_cases hk : kd = 1
    · subst hk
      exact decode_leaf l w h n s1 s2 e1 e2
    · obtain ⟨d0, s3, e3⟩ : ∃ k s, rFour s2 = (k, s) := ⟨_, _, rfl⟩
      exact decode_br l w h kd n d0 hk s1 s2 s3 e1 e2 e3
  · exact decode_long l w h hl
end Go.Proofs.Ytbkcoddcgfclaaa.SP
