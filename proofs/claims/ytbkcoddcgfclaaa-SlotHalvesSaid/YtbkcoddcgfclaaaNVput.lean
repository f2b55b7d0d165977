/- Find, Put, Cut, Encode over a leaf in a variable. -/
import Derived.Test.YtbkcoddcgfclaaaPutW
import Derived.Test.YtbkcoddcgfclaaaSlotPutP
set_option linter.unusedSimpArgs false
set_option linter.unusedVariables false
namespace Go.Proofs.Ytbkcoddcgfclaaa.SP
open Go.RowKit Go.Proofs.Ytbkcoddcgfclaaa.MSlot Go.Proofs.Ytbkcoddcgfclaaa.Ext Go.Proofs.YtbkcoddcgfclaaaW.PrintWords Go.Proofs.YtbkcoddcgfclaaaW.PrintLast Go.Proofs.YtbkcoddcgfclaaaW.PrintMore

/-- The value of a node. -/
abbrev NV.val (v : NV) : Value := .agg #[.bool v.leaf, .slice v.A1 v.xs.length v.c1, .slice v.A2 v.ks.length v.c2, .slice v.A3 v.ds.length v.c3]
theorem find_node {A1 : Option Addr} {c1 : Nat} {xs : List S43} {A2 : Option Addr} {c2 : Nat} {ks : List ByteArray} {A3 : Option Addr} {c3 : Nat} {ds : List Int} (k : ByteArray) {W : World} (h : Ext.Node W A1 c1 xs A2 c2 ks A3 c3 ds) (hr : Rise xs) (hn : xs.length ≤ 100000) :
    Calls Try.prog 19 #[.agg #[.bool true, .slice A1 xs.length c1, .slice A2 ks.length c2, .slice A3 ds.length c3], .string k] W fun e w' => e = .returned (.tuple #[.int .i64 (posK xs k : Int), .bool (hasK xs k)]) ∧ Below W.heap.size W w' := by
  refine slot_Find.calls true A1 c1 xs A2 c2 ks A3 c3 ds k _ _ W h.r1 h.l1 h.r2 h.l2 h.r3 h.l3 ?_
  unfold Ext.slot_Find.f
  rw [if_pos ⟨rfl, by omega, hr⟩]
theorem nv_find {v : NV} {w : World} (k : ByteArray) (h : v.ok w) (hl : v.leaf = true) (hr : Rise v.xs) (hn : v.xs.length ≤ 100000) (p : Nat) (b : Bool) (hp : posK v.xs k = p) (hb : hasK v.xs k = b) :
    Calls Try.prog 19 #[v.val, .string k] w fun e w' => e = .returned (.tuple #[.int .i64 (p : Int), .bool b]) ∧ Below w.heap.size w w' := by
  subst hp hb
  have := find_node k h hr hn
  unfold NV.val
  rw [hl]
  exact this
theorem nv_put {v : NV} {w : World} (c : S43) (h : v.ok w) (hl : v.leaf = true) (hr : Rise v.xs) (hn : v.xs.length ≤ 100000) :
    Calls Try.prog 18 #[v.val, .agg #[.string c.f0, .string c.f1, .int .i64 c.f2, .int .i64 c.f3]] w fun e w' =>
      ∃ m : NV, e = .returned m.val ∧ Hid (m.leaf = true ∧ m.xs = putN v.xs c ∧ m.ks = v.ks ∧ m.ds = v.ds) ∧ m.ok w' ∧ Below w.heap.size w w' := by
  obtain ⟨_, _, _, _, _, _, _, hq, _⟩ := put_parts v.xs c hr
  have := put_walk (hasK v.xs c.f0) (posK v.xs c.f0) (putQ v.xs c.f0) rfl v.A1 v.c1 v.xs v.A2 v.c2 v.ks v.A3 v.c3 v.ds c w h hq hn (fun W hW => find_node c.f0 hW hr hn)
  unfold NV.val
  rw [hl]
  refine this.mono ?_
  rintro e w' ⟨v1, rfl, hr1, hb⟩
  obtain ⟨A1, c1, rfl, l1, q1⟩ := Kd.R_reads hr1
  have hb' := hb
  exact ⟨⟨true, A1, c1, putN v.xs c, v.A2, v.c2, v.ks, v.A3, v.c3, v.ds⟩, rfl, Lib.hid ⟨rfl, rfl, rfl, rfl⟩, ⟨q1, l1, Kd.C_below h.r2 hb, h.l2, Kd.C_below h.r3 hb, h.l3⟩, hb⟩
theorem nv_cut {v : NV} {w : World} (p : Nat) (h : v.ok w) (hl : v.leaf = true) (hp : p < v.xs.length) (hn : v.xs.length ≤ 100000) :
    Calls Try.prog 20 #[v.val, .int .i64 (p : Int)] w fun e w' =>
      ∃ m : NV, e = .returned m.val ∧ Hid (m.leaf = true ∧ m.xs = v.xs.take p ++ v.xs.drop (p + 1) ∧ m.ks = v.ks ∧ m.ds = v.ds) ∧ m.ok w' ∧ Below w.heap.size w w' := by
  have := cut_walk p (p + 1) rfl v.A1 v.c1 v.xs v.A2 v.c2 v.ks v.A3 v.c3 v.ds w h hp hn
  unfold NV.val
  rw [hl]
  refine this.mono ?_
  rintro e w' ⟨v1, rfl, hr1, hb⟩
  obtain ⟨A1, c1, rfl, l1, q1⟩ := Kd.R_reads hr1
  exact ⟨⟨true, A1, c1, v.xs.take p ++ v.xs.drop (p + 1), v.A2, v.c2, v.ks, v.A3, v.c3, v.ds⟩, rfl, Lib.hid ⟨rfl, rfl, rfl, rfl⟩, ⟨q1, l1, Kd.C_below h.r2 hb, h.l2, Kd.C_below h.r3 hb, h.l3⟩, hb⟩
/-- Check, whatever it says. -/
theorem nv_checks {v : NV} {w : World} (h : v.ok w) (hm : mild v.xs v.ks v.ds = true) (r : Int) (hr : (if checkB v.leaf v.xs v.ks v.ds = true then 0 else 2 : Int) = r) :
    Calls Try.prog 15 #[v.val] w fun e w' => e = .returned (.int .i64 r) ∧ Below w.heap.size w w' := by
  refine slot_Check.calls v.leaf v.A1 v.c1 v.xs v.A2 v.c2 v.ks v.A3 v.c3 v.ds r w h.r1 h.l1 h.r2 h.l2 h.r3 h.l3 ?_
  unfold Ext.slot_Check.f
  rw [if_pos hm, hr]
theorem nv_encode {v : NV} {w : World} (h : v.ok w) (hm : mild v.xs v.ks v.ds = true) :
    Calls Try.prog 17 #[v.val] w fun e w' => e = .returned (.tuple #[.string (encodeN v.leaf v.xs v.ks v.ds).1, .int .i64 (encodeN v.leaf v.xs v.ks v.ds).2]) ∧ Below w.heap.size w w' := by
  refine slot_Encode.calls v.leaf v.A1 v.c1 v.xs v.A2 v.c2 v.ks v.A3 v.c3 v.ds _ _ w h.r1 h.l1 h.r2 h.l2 h.r3 h.l3 ?_
  unfold Ext.slot_Encode.f
  rw [if_pos hm]
theorem mild_small {xs : List S43} {ks : List ByteArray} {ds : List Int} (h : small xs ks = true) (hd : ds.length ≤ 1000000000) : mild xs ks ds = true := by
  obtain ⟨h1, h2, h3, h4⟩ := small_of h
  unfold mild
  simp only [Bool.and_eq_true, decide_eq_true_eq, List.all_eq_true]
  refine ⟨⟨⟨by omega, by omega⟩, by omega⟩, fun c hc => ?_⟩
  have := h3 c hc
  omega
/-! ### the same of a leaf, its mark written out -/
abbrev NV.valT (v : NV) : Value := .agg #[.bool true, .slice v.A1 v.xs.length v.c1, .slice v.A2 v.ks.length v.c2, .slice v.A3 v.ds.length v.c3]
theorem NV.val_T {v : NV} (h : v.leaf = true) : v.val = v.valT := by unfold NV.val NV.valT; rw [h]
/-- A leaf that lies in a box. -/
def NV.atT (v : NV) (W : World) (g : Nat) : Prop := W.heap[g]? = some (.cells #[.bool true, .slice v.A1 v.xs.length v.c1, .slice v.A2 v.ks.length v.c2, .slice v.A3 v.ds.length v.c3] 26 (0, 0)) ∧ v.ok W
theorem NV.atT_below {v : NV} {W W' : World} {g : Nat} (h : v.atT W g) (hb : Below W.heap.size W W') : v.atT W' g := ⟨blk_below h.1 hb, v.ok_below h.2 hb⟩
theorem NV.at_T {v : NV} {W : World} {g : Nat} (hl : v.leaf = true) (h : v.at W g) : v.atT W g := by
  obtain ⟨h1, h2⟩ := h
  rw [hl] at h1
  exact ⟨h1, h2⟩
theorem nv_findT {v : NV} {w : World} (k : ByteArray) (h : v.ok w) (hl : v.leaf = true) (hr : Rise v.xs) (hn : v.xs.length ≤ 100000) (p : Nat) (b : Bool) (hp : posK v.xs k = p) (hb : hasK v.xs k = b) :
    Calls Try.prog 19 #[v.valT, .string k] w fun e w' => e = .returned (.tuple #[.int .i64 (p : Int), .bool b]) ∧ Below w.heap.size w w' := by
  rw [← NV.val_T hl]
  exact nv_find k h hl hr hn p b hp hb
theorem nv_putT {v : NV} {w : World} (c : S43) (h : v.ok w) (hl : v.leaf = true) (hr : Rise v.xs) (hn : v.xs.length ≤ 100000) :
    Calls Try.prog 18 #[v.valT, .agg #[.string c.f0, .string c.f1, .int .i64 c.f2, .int .i64 c.f3]] w fun e w' =>
      ∃ m : NV, e = .returned m.valT ∧ Hid (m.leaf = true ∧ m.xs = putN v.xs c ∧ m.ks = v.ks ∧ m.ds = v.ds) ∧ m.ok w' ∧ Below w.heap.size w w' := by
  rw [← NV.val_T hl]
  refine (nv_put c h hl hr hn).mono ?_
  rintro e w' ⟨m, rfl, hm, h1, h2⟩
  exact ⟨m, by rw [NV.val_T hm.out.1], hm, h1, h2⟩
theorem nv_cutT {v : NV} {w : World} (p : Nat) (h : v.ok w) (hl : v.leaf = true) (hp : p < v.xs.length) (hn : v.xs.length ≤ 100000) :
    Calls Try.prog 20 #[v.valT, .int .i64 (p : Int)] w fun e w' =>
      ∃ m : NV, e = .returned m.valT ∧ Hid (m.leaf = true ∧ m.xs = v.xs.take p ++ v.xs.drop (p + 1) ∧ m.ks = v.ks ∧ m.ds = v.ds) ∧ m.ok w' ∧ Below w.heap.size w w' := by
  rw [← NV.val_T hl]
  refine (nv_cut p h hl hp hn).mono ?_
  rintro e w' ⟨m, rfl, hm, h1, h2⟩
  exact ⟨m, by rw [NV.val_T hm.out.1], hm, h1, h2⟩
theorem nv_checksT {v : NV} {w : World} (h : v.ok w) (hl : v.leaf = true) (hm : mild v.xs v.ks v.ds = true) (r : Int) (hr : (if checkB true v.xs v.ks v.ds = true then 0 else 2 : Int) = r) :
    Calls Try.prog 15 #[v.valT] w fun e w' => e = .returned (.int .i64 r) ∧ Below w.heap.size w w' := by
  rw [← NV.val_T hl]
  exact nv_checks h hm r (by rw [hl]; exact hr)
theorem nv_encodeT {v : NV} {w : World} (h : v.ok w) (hl : v.leaf = true) (hm : mild v.xs v.ks v.ds = true) (t : ByteArray) (r : Int) (hr : encodeN true v.xs v.ks v.ds = (t, r)) :
    Calls Try.prog 17 #[v.valT] w fun e w' => e = .returned (.tuple #[.string t, .int .i64 r]) ∧ Below w.heap.size w w' := by
  rw [← NV.val_T hl]
  have := nv_encode h hm
  rw [hl, hr] at this
  exact this
theorem nv_sameT {u v : NV} {w : World} (hu : u.ok w) (hv : v.ok w) (h0 : u.leaf = true) (h1 : u.xs = v.xs) (h2 : u.ks = v.ks) (h3 : u.ds = v.ds) (hl : v.leaf = true) (hc : checkB true v.xs v.ks v.ds = true) :
    Calls Try.prog 13 #[u.valT, v.valT] w fun e w' => e = .returned (.bool true) ∧ Below w.heap.size w w' := by
  rw [← NV.val_T h0, ← NV.val_T hl]
  exact nv_same hu hv (h0.trans hl.symm) h1 h2 h3 (by rw [hl]; exact hc)
end Go.Proofs.Ytbkcoddcgfclaaa.SP
