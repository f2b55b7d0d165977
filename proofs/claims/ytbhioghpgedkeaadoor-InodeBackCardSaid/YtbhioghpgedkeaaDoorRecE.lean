/- field.Num and field.Text: the first field of a tag and a kind. -/
import Derived.Test.YtbhioghpgedkeaaDoorMKfx3
import Derived.Test.YtbhioghpgedkeaaDoorInG
import Derived.Test.YtbhioghpgedkeaaDoorWLast
import Derived.RangeFuncNested
import Derived.RangeFuncBound
import Derived.RangeFuncCalls
import Derived.RangeFuncLeaves
import Derived.Shelf.Abstract
import Derived.Shelf.RegionOpen
import Derived.OwnWalkIn
import Derived.TacticsInMore
import Derived.LoopNIn
import Derived.LoopIn
import Derived.Deep.WholeRow
import Derived.OneCell
set_option linter.unusedSimpArgs false
set_option linter.unusedVariables false
namespace Go.Proofs.YtbhioghpgedkeaaDoor.IN
open Go.RowKit Go.Proofs.YtbhioghpgedkeaaDoor.MIt Go.Proofs.YtbhioghpgedkeaaDoor.MKf Go.Proofs.YtbhioghpgedkeaaDoorW.PrintWords Go.Proofs.YtbhioghpgedkeaaDoorW.PrintLast Go.Proofs.YtbhioghpgedkeaaDoorW.PrintMore

def numF (tag n : Int) : List S75 := if 0 < n then [⟨tag, 0, n, ⟨#[]⟩⟩] else []
def textF (tag : Int) (s : ByteArray) : List S75 := [⟨tag, 1, 0, s⟩]
/-- A record lies in the variable B; its row is the call's own (from base on). -/
structure RecV (w : World) (base B : Nat) (v : Value) (xs : List S75) : Prop where
  box : w.heap[B]? = some (.cells #[v] 76 (0, 0))
  row : Kd.R k75 75 w base (fun _ => True) v xs
/-- Variables of other types stay as they are. -/
def Keeps (B : Nat) (w w' : World) : Prop := w.heap.size ≤ w'.heap.size ∧ ∀ k c t, k ≠ B → t ≠ 75 → w.heap[k]? = some (.cells c t (0, 0)) → w'.heap[k]? = some (.cells c t (0, 0))
theorem Keeps.refl (B : Nat) (w : World) : Keeps B w w := ⟨Nat.le_refl _, fun _ _ _ _ _ h => h⟩
theorem Keeps.trans {B : Nat} {w w' w'' : World} (h : Keeps B w w') (h' : Keeps B w' w'') : Keeps B w w'' := ⟨Nat.le_trans h.1 h'.1, fun k c t hk ht hh => h'.2 k c t hk ht (h.2 k c t hk ht hh)⟩
theorem own_ty {w : World} {base e sz n : Nat} {v : Value} {xs : List Value} (h : w.ownsRow base e sz v n xs) {k : Nat} (hk : v.ownBlock = some k) : ∃ c fr, w.heap[k]? = some (.cells c e fr) := by
  rcases h.2 with ⟨rfl, _⟩ | ⟨g, cap, cur, rfl, _, hh, _⟩
  · simp [Value.ownBlock] at hk
  · have : g = k := by simpa [Value.ownBlock] using hk
    subst this
    exact ⟨_, _, hh⟩
theorem RecV.ne {w : World} {base B : Nat} {v : Value} {xs : List S75} (h : RecV w base B v xs) {k t : Nat} {c : Array Value} {fr} (hk : w.heap[k]? = some (.cells c t fr)) (ht : t ≠ 75) : v.ownBlock ≠ some k := by
  intro e
  obtain ⟨inner, ho, _⟩ := h.row.2
  obtain ⟨c', fr', h'⟩ := own_ty ho e
  rw [hk] at h'
  injection h' with h'
  injection h' with _ h'
  exact ht h'
/-- Behind an append to the row, and the store of what it yields. -/
theorem RecV.put {w w1 : World} {base B : Nat} {v v1 : Value} {xs ys : List S75} (h : RecV w base B v xs) (hg : w.grownBy w1 v.ownBlock) (hr : Kd.R k75 75 w1 base (fun _ => True) v1 ys) (h1 : v1.cells = #[v1]) (hbB : base ≤ B) {w0 : World} (hB : Below base w0 w1) :
    RecV (w1.setCell ⟨B, 0, none⟩ v1) base B v1 ys ∧ Below base w0 (w1.setCell ⟨B, 0, none⟩ v1) ∧ Keeps B w (w1.setCell ⟨B, 0, none⟩ v1) := by
  have x1 := (hg.block B (lt_of_block h.box) (fun e_ => h.ne h.box (by decide) e_.symm)).trans h.box
  refine ⟨⟨?_, ?_⟩, hB.setCell (p := ⟨B, 0, none⟩) hbB v1, ?_, ?_⟩
  · exact blk_put x1 0 v1 rfl
  · exact Kd.R_mono (Kd.R_far (Kd.R_types hr x1 (by decide)) (p := ⟨B, 0, none⟩) (fun k hk => hk.2) v1) (fun _ hk => hk.1)
  · rw [World.size_setCell]; exact hg.size
  · intro k c t hk ht hh
    rw [Below.heap_setCell _ _ _ _ hk]
    exact (hg.block k (lt_of_block hh) (fun e_ => h.ne hh ht e_.symm)).trans hh
set_option maxHeartbeats 4000000 in
set_option maxRecDepth 100000 in
theorem num_call (base B : Nat) (v : Value) (xs : List S75) (tag n : Int) (w0 w : World) (hR : RecV w base B v xs) (hB : Below base w0 w) (hbB : base ≤ B) (hbase : base ≤ w.heap.size) (hl : xs.length ≤ 100) :
    Calls Tryd.prog 44 #[.pointer (some ⟨B, 0, none⟩), .int .i64 tag, .int .i64 n] w fun e w' => (∃ u, e = .returned u) ∧ ∃ v', RecV w' base B v' (xs ++ numF tag n) ∧ Below base w0 w' ∧ base ≤ w'.heap.size ∧ Keeps B w w' := by
  have HR := Lib.hid hR
  have HB := Lib.hid hB
  have b0 := (blk_cell hR.box 0).trans rfl
  have f0 := blk_frozen hR.box 0
  clear hR hB
  by_cases hn : 0 < n
  · have c1 : decide (n > 0) = true := decide_eq_true hn
    have e : numF tag n = [⟨tag, 0, n, ⟨#[]⟩⟩] := if_pos hn
    rw [e]
    clear e hn
    go_enter Tryd.func44, Tryd.ntmps44
    go_wp2_with (first | ((with_reducible refine gate_builtin (b := .append) (xs := #[.tmp 11, .tmp 15]) rfl ?_); at_builtin; refine Kd.R_append k75 (w0 := w0) base rfl (.tmp 11) (.tmp 15) 76 75 (.agg #[(.int .i64 0), (.int .i64 0), (.int .i64 0), (.string ⟨#[]⟩)]) 40 rfl Tryd.underlying76 info75 rfl (by decide) (by omega) v xs (⟨tag, 0, n, ⟨#[]⟩⟩ : S75) [.int .i64 tag, .int .i64 0, .int .i64 n, .string (⟨#[]⟩ : ByteArray)] (fun _ => True) (fun _ => False) rfl rfl ?aP (fun _ hk => hk.elim) ?aF ?aO ?aB ?aS ?aL ?_; (case aP => exact k75_mkM _ _ _ (⟨tag, 0, n, ⟨#[]⟩⟩ : S75)); (case aB => exact HB.out); (case aF => exact (fun _ _ => trivial)); (case aO => exact HR.out.row); (case aS => exact hbase); (case aL => omega); intro v1 w1 ho1_ hb1_ hg1_ _; have HO1 := Lib.hid ho1_; have HB1 := Lib.hid hb1_; have HG1 := Lib.hid hg1_; clear ho1_ hb1_ hg1_; obtain ⟨Ao, co, eo⟩ := Kd.R_slice HO1.out; rw [List.length_append, List.length_cons, List.length_nil, Nat.zero_add] at eo; subst eo; have x1 := (HG1.out.block B (lt_of_block HR.out.box) (fun e_ => HR.out.ne HR.out.box (by decide) e_.symm)).trans HR.out.box; have b1 := (blk_cell x1 0).trans rfl; have f1 := blk_frozen x1 0))
    obtain ⟨r1, r2, r3⟩ := HR.out.put HG1.out HO1.out rfl hbB HB1.out
    have hz := HG1.out.size
    go_end0
    exact ⟨⟨_, rfl⟩, _, r1, r2, by rw [World.size_setCell]; omega, r3⟩
  · have c1 : decide (n > 0) = false := decide_eq_false hn
    have e : numF tag n = [] := if_neg hn
    rw [e, List.append_nil]
    clear e hn
    go_enter Tryd.func44, Tryd.ntmps44
    go_wp2
    go_end0
    exact ⟨⟨_, rfl⟩, _, HR.out, HB.out, hbase, Keeps.refl _ _⟩
set_option maxHeartbeats 4000000 in
set_option maxRecDepth 100000 in
theorem text_call (base B : Nat) (v : Value) (xs : List S75) (tag : Int) (s : ByteArray) (w0 w : World) (hR : RecV w base B v xs) (hB : Below base w0 w) (hbB : base ≤ B) (hbase : base ≤ w.heap.size) (hl : xs.length ≤ 100) :
    Calls Tryd.prog 45 #[.pointer (some ⟨B, 0, none⟩), .int .i64 tag, .string s] w fun e w' => (∃ u, e = .returned u) ∧ ∃ v', RecV w' base B v' (xs ++ textF tag s) ∧ Below base w0 w' ∧ base ≤ w'.heap.size ∧ Keeps B w w' := by
  have HR := Lib.hid hR
  have HB := Lib.hid hB
  have b0 := (blk_cell hR.box 0).trans rfl
  have f0 := blk_frozen hR.box 0
  clear hR hB
  unfold textF
  go_enter Tryd.func45, Tryd.ntmps45
  go_wp2_with (first | ((with_reducible refine gate_builtin (b := .append) (xs := #[.tmp 9, .tmp 13]) rfl ?_); at_builtin; refine Kd.R_append k75 (w0 := w0) base rfl (.tmp 9) (.tmp 13) 76 75 (.agg #[(.int .i64 0), (.int .i64 0), (.int .i64 0), (.string ⟨#[]⟩)]) 40 rfl Tryd.underlying76 info75 rfl (by decide) (by omega) v xs (⟨tag, 1, 0, s⟩ : S75) [.int .i64 tag, .int .i64 1, .int .i64 0, .string s] (fun _ => True) (fun _ => False) rfl rfl ?aP (fun _ hk => hk.elim) ?aF ?aO ?aB ?aS ?aL ?_; (case aP => exact k75_mkM _ _ _ (⟨tag, 1, 0, s⟩ : S75)); (case aB => exact HB.out); (case aF => exact (fun _ _ => trivial)); (case aO => exact HR.out.row); (case aS => exact hbase); (case aL => omega); intro v1 w1 ho1_ hb1_ hg1_ _; have HO1 := Lib.hid ho1_; have HB1 := Lib.hid hb1_; have HG1 := Lib.hid hg1_; clear ho1_ hb1_ hg1_; obtain ⟨Ao, co, eo⟩ := Kd.R_slice HO1.out; rw [List.length_append, List.length_cons, List.length_nil, Nat.zero_add] at eo; subst eo; have x1 := (HG1.out.block B (lt_of_block HR.out.box) (fun e_ => HR.out.ne HR.out.box (by decide) e_.symm)).trans HR.out.box; have b1 := (blk_cell x1 0).trans rfl; have f1 := blk_frozen x1 0))
  obtain ⟨r1, r2, r3⟩ := HR.out.put HG1.out HO1.out rfl hbB HB1.out
  have hz := HG1.out.size
  go_end0
  exact ⟨⟨_, rfl⟩, _, r1, r2, by rw [World.size_setCell]; omega, r3⟩
end Go.Proofs.YtbhioghpgedkeaaDoor.IN
namespace Go.Proofs.YtbhioghpgedkeaaDoor.IN
open Go.RowKit Go.Proofs.YtbhioghpgedkeaaDoor.MIt Go.Proofs.YtbhioghpgedkeaaDoor.MKf Go.Proofs.YtbhioghpgedkeaaDoorW.PrintWords Go.Proofs.YtbhioghpgedkeaaDoorW.PrintLast Go.Proofs.YtbhioghpgedkeaaDoorW.PrintMore

def archOk (a : AV) : Bool := szB a.sz && (stB a.v && (a.v != 0))
def archRec (a : AV) : List S75 := (numF 2 a.sz ++ textF 3 (strOfNums a.s)) ++ numF 5 a.v
def archE (a : AV) : List S75 × Int := if archOk a then (archRec a, 0) else ([], 2)
theorem stamp1_f (a : Int) : inode_stamp.f 2 [a] = some (stB a) := by
  have e0 : rd [a] 0 = a := rfl
  have w1 : wrap64 (0 + 1) = 1 := by decide +kernel
  have h0 : ∀ x : Int, stB x = (if x < 0 then false else if x > 1099511627776 then false else true) := by
    intro x
    unfold stB
    by_cases p : x < 0
    · rw [if_pos p]; simp; omega
    · rw [if_neg p]
      by_cases q : x > 1099511627776
      · rw [if_pos q]; simp; omega
      · rw [if_neg q]; simp; omega
  unfold inode_stamp.f
  simp only [inode_stamp.l0, e0, w1, List.length_cons, List.length_nil, h0]
  simp only [show ((0 : Int) < ((0 + 1 : Nat) : Int)) from by decide, show ¬ ((1 : Int) < ((0 + 1 : Nat) : Int)) from by decide, show (0 : Int) ≤ 0 from by decide, if_true, if_false]
  repeat' split
  all_goals rfl
theorem isA.keeps {W W' : World} {g B : Nat} {a : AV} (h : isA W g a) (hk : Keeps B W W') (hg : g ≠ B) : isA W' g a := hk.2 g _ 26 hg (by decide) h
theorem isI.keeps {W W' : World} {g B : Nat} {n : IV} (h : isI W g n) (hk : Keeps B W W') (hg : g ≠ B) : isI W' g n := hk.2 g _ 24 hg (by decide) h
theorem dg_reads {W : World} {g o : Nat} {s : List Int} (hs : s.length = 32) (h : W.rangeAt g o (dg s)) : ReadsInt W .u8 (some ⟨g, o, none⟩) 32 s := by
  refine ⟨hs, by decide, fun _ => ⟨_, rfl, fun j hj => ?_⟩⟩
  have hj' : j < s.length := by omega
  have := h j (.int .u8 s[j]) (by simp [dg, hj'])
  rw [Addr.add_mid]
  rw [List.getD_eq_getElem?_getD, List.getElem?_eq_getElem hj']
  exact this
theorem dg_string {W : World} {g o : Nat} {s : List Int} (hs : s.length = 32) (h : W.rangeAt g o (dg s)) : (convert 79 9 (.slice (some ⟨g, o, none⟩) 32 32)).run Tryd.prog W = .ok (.string (strOfNums s)) W :=
  string_of_reads Tryd.underlying79 Tryd.underlying5 Tryd.underlying9 (dg_reads hs h)
theorem rec_new (w w5 : World) (hb : Below w.heap.size w w5) : RecV (w5.alloc (.cells #[.slice none 0 0] 76)) w.heap.size w5.heap.size (.slice none 0 0) [] ∧ Below w.heap.size w (w5.alloc (.cells #[.slice none 0 0] 76)) :=
  ⟨⟨heap_alloc_new _ _, Kd.R_nil _ _ _ _ _⟩, below_then hb hb.size (below_alloc (Below.refl _ _) _)⟩
set_option maxHeartbeats 4000000 in
set_option maxRecDepth 100000 in
theorem encA_call (a : AV) (ha : a.s.length = 32) (w : World) : Calls Tryd.prog 19 #[.agg (ac a).toArray] w fun e w' => ∃ v, e = .returned (.tuple #[v, .int .i64 (archE a).2]) ∧ Kd.R k75 75 w' w.heap.size (fun _ => True) v (archE a).1 ∧ Below w.heap.size w w' := by
  have HM := Lib.hid ha
  clear ha
  obtain ⟨ys, Ny0⟩ : ∃ ys, ys = ([a.v] : List Int) := ⟨_, rfl⟩
  have Ny := Lib.hid Ny0
  have HT := Lib.hid (show inode_stamp.f 2 ys = some (stB a.v) by rw [Ny0, stamp1_f])
  clear Ny0
  cases hz : szB a.sz
  · have hf : archE a = ([], 2) := by unfold archE archOk; rw [hz]; rfl
    rw [hf]
    clear hf HT
    have HS := Lib.hid (show inode_size.f a.sz = some false by rw [size_f, hz])
    go_enter Tryd.func19, Tryd.ntmps19
    go_upto_region 1 with (first | ((with_reducible refine gate_dst (N := 1) rfl ?_); refine box_event ?hg (N := 1) ?hd (cs := (ac a).toArray) (t := 26) ?hr ?_; (case hd => rfl); (case hg => rfl); (case hr => first | (go_simp; done) | (go_simp; rfl)); intro ga hg_ w1 hbox_ hb_; have HA := Lib.hid hbox_; have HAb := Lib.hid hb_; have HAg := Lib.hid hg_; clear hbox_ hb_ hg_))
    have d1 := isA.sz HA.out
    have d0 := isA.v HA.out
    go_wp2_with (first | (go_at_call 42; (with_reducible refine (inode_size.calls a.sz false _ HS.out).mono ?_); rintro e w2 ⟨rfl, ⟨nd, rfl⟩⟩))
    go_ret2
    exact ⟨_, rfl, Kd.R_nil _ _ _ _ _, by repeat (first | (with_reducible first | exact HX.out | exact HAb.out | apply below_alloc | apply pw_below_drewN | apply below_drew1) | exact HX.out | exact HAb.out)⟩
  have HS := Lib.hid (show inode_size.f a.sz = some true by rw [size_f, hz])
  cases ht : stB a.v
  · have hf : archE a = ([], 2) := by unfold archE archOk; rw [hz, ht]; rfl
    rw [hf]
    clear hf
    rw [ht] at HT
    go_enter Tryd.func19, Tryd.ntmps19
    go_upto_region 1 with (first | ((with_reducible refine gate_dst (N := 1) rfl ?_); refine box_event ?hg (N := 1) ?hd (cs := (ac a).toArray) (t := 26) ?hr ?_; (case hd => rfl); (case hg => rfl); (case hr => first | (go_simp; done) | (go_simp; rfl)); intro ga hg_ w1 hbox_ hb_; have HA := Lib.hid hbox_; have HAb := Lib.hid hb_; have HAg := Lib.hid hg_; clear hbox_ hb_ hg_))
    have d1 := isA.sz HA.out
    have d0 := isA.v HA.out
    go_wp2_with (first | (go_at_call 42; (with_reducible refine (inode_size.calls a.sz true _ HS.out).mono ?_); rintro e w2 ⟨rfl, ⟨nd, rfl⟩⟩) | ((with_reducible refine gate_dst (N := 12) rfl ?_); (try (refine gate_guard (by rfl) ?_; dsimp only)); refine Kd.R_lit (Kd.int .i64) _ 3 ?hg (N := 12) ?hd (xs := ([a.v] : List Int)) (inner := [.int .i64 a.v]) (ok := fun _ => True) (okp := fun _ => True) ?hr ?hp (fun _ hk => hk) trivial (Below.refl _ _) (Nat.le_refl _) (by simp) ?_; (case hd => rfl); (case hg => rfl); (case hr => first | (go_simp; done) | (go_simp; rfl)); (case hp => exact (Reps.one (show Kd.M (Kd.int .i64) _ _ _ a.v [.int .i64 a.v] from rfl) (Reps.none _ _))); intro vs w10 ho11 hb hg_ hnew_; clear hg_ hnew_; rw [← Ny.out] at ho11; have HO := Lib.hid ho11; have HC := Lib.hid (blk_below (g := ga) (o := .cells (ac a).toArray 26 (0, 0)) (by (with_reducible repeat (first | refine blk_drewN ?_ _ | refine blk_drew ?_ | refine blk_alloc ?_ _)); exact HA.out) hb); have HX := Lib.hid (below_step (by repeat (first | (with_reducible first | exact HAb.out | apply below_alloc | apply pw_below_drewN | apply below_drew1) | exact HAb.out)) hb); clear hb ho11; obtain ⟨Ao12, co12, eo12⟩ := Kd.R_slice HO.out; subst eo12; have d0' := isA.v HC.out) | (go_at_call 43; (with_reducible refine (inode_stamp.calls 2 _ _ ys _ _ ?side1 ?side2 HT.out).mono ?_); (case side1 => exact (Kd.R_reads' HO.out).2.2); (case side2 => exact (Kd.R_reads' HO.out).2.1); rintro e w' ⟨rfl, ⟨nd2, rfl⟩⟩))
    go_ret2
    exact ⟨_, rfl, Kd.R_nil _ _ _ _ _, by repeat (first | (with_reducible first | exact HX.out | apply below_alloc | apply pw_below_drewN | apply below_drew1) | exact HX.out)⟩
  rw [ht] at HT
  cases hv : (a.v == 0)
  rotate_left
  · have hf : archE a = ([], 2) := by unfold archE archOk; rw [hz, ht, show (a.v != 0) = false by unfold bne; rw [hv]; rfl]; rfl
    rw [hf]
    clear hf
    go_enter Tryd.func19, Tryd.ntmps19
    go_upto_region 1 with (first | ((with_reducible refine gate_dst (N := 1) rfl ?_); refine box_event ?hg (N := 1) ?hd (cs := (ac a).toArray) (t := 26) ?hr ?_; (case hd => rfl); (case hg => rfl); (case hr => first | (go_simp; done) | (go_simp; rfl)); intro ga hg_ w1 hbox_ hb_; have HA := Lib.hid hbox_; have HAb := Lib.hid hb_; have HAg := Lib.hid hg_; clear hbox_ hb_ hg_))
    have d1 := isA.sz HA.out
    have d0 := isA.v HA.out
    go_wp2_with (first | (go_at_call 42; (with_reducible refine (inode_size.calls a.sz true _ HS.out).mono ?_); rintro e w2 ⟨rfl, ⟨nd, rfl⟩⟩) | ((with_reducible refine gate_dst (N := 12) rfl ?_); (try (refine gate_guard (by rfl) ?_; dsimp only)); refine Kd.R_lit (Kd.int .i64) _ 3 ?hg (N := 12) ?hd (xs := ([a.v] : List Int)) (inner := [.int .i64 a.v]) (ok := fun _ => True) (okp := fun _ => True) ?hr ?hp (fun _ hk => hk) trivial (Below.refl _ _) (Nat.le_refl _) (by simp) ?_; (case hd => rfl); (case hg => rfl); (case hr => first | (go_simp; done) | (go_simp; rfl)); (case hp => exact (Reps.one (show Kd.M (Kd.int .i64) _ _ _ a.v [.int .i64 a.v] from rfl) (Reps.none _ _))); intro vs w10 ho11 hb hg_ hnew_; clear hg_ hnew_; rw [← Ny.out] at ho11; have HO := Lib.hid ho11; have HC := Lib.hid (blk_below (g := ga) (o := .cells (ac a).toArray 26 (0, 0)) (by (with_reducible repeat (first | refine blk_drewN ?_ _ | refine blk_drew ?_ | refine blk_alloc ?_ _)); exact HA.out) hb); have HX := Lib.hid (below_step (by repeat (first | (with_reducible first | exact HAb.out | apply below_alloc | apply pw_below_drewN | apply below_drew1) | exact HAb.out)) hb); clear hb ho11; obtain ⟨Ao12, co12, eo12⟩ := Kd.R_slice HO.out; subst eo12; have d0' := isA.v HC.out) | (go_at_call 43; (with_reducible refine (inode_stamp.calls 2 _ _ ys _ _ ?side1 ?side2 HT.out).mono ?_); (case side1 => exact (Kd.R_reads' HO.out).2.2); (case side2 => exact (Kd.R_reads' HO.out).2.1); rintro e w' ⟨rfl, ⟨nd2, rfl⟩⟩))
    go_ret2
    exact ⟨_, rfl, Kd.R_nil _ _ _ _ _, by repeat (first | (with_reducible first | exact HX.out | apply below_alloc | apply pw_below_drewN | apply below_drew1) | exact HX.out)⟩
  have hf : archE a = (archRec a, 0) := by unfold archE archOk; rw [hz, ht, show (a.v != 0) = true by unfold bne; rw [hv]; rfl]; rfl
  rw [hf]
  clear hf
  go_enter Tryd.func19, Tryd.ntmps19
  go_upto_region 1 with (first | ((with_reducible refine gate_dst (N := 1) rfl ?_); refine box_event ?hg (N := 1) ?hd (cs := (ac a).toArray) (t := 26) ?hr ?_; (case hd => rfl); (case hg => rfl); (case hr => first | (go_simp; done) | (go_simp; rfl)); intro ga hg_ w1 hbox_ hb_; have HA := Lib.hid hbox_; have HAb := Lib.hid hb_; have HAg := Lib.hid hg_; clear hbox_ hb_ hg_))
  have d1 := isA.sz HA.out
  have d0 := isA.v HA.out
  go_upto_region 4 with (first | (go_at_call 42; (with_reducible refine (inode_size.calls a.sz true _ HS.out).mono ?_); rintro e w2 ⟨rfl, ⟨nd, rfl⟩⟩) | ((with_reducible refine gate_dst (N := 12) rfl ?_); (try (refine gate_guard (by rfl) ?_; dsimp only)); refine Kd.R_lit (Kd.int .i64) _ 3 ?hg (N := 12) ?hd (xs := ([a.v] : List Int)) (inner := [.int .i64 a.v]) (ok := fun _ => True) (okp := fun _ => True) ?hr ?hp (fun _ hk => hk) trivial (Below.refl _ _) (Nat.le_refl _) (by simp) ?_; (case hd => rfl); (case hg => rfl); (case hr => first | (go_simp; done) | (go_simp; rfl)); (case hp => exact (Reps.one (show Kd.M (Kd.int .i64) _ _ _ a.v [.int .i64 a.v] from rfl) (Reps.none _ _))); intro vs w10 ho11 hb hg_ hnew_; clear hg_ hnew_; rw [← Ny.out] at ho11; have HO := Lib.hid ho11; have HC := Lib.hid (blk_below (g := ga) (o := .cells (ac a).toArray 26 (0, 0)) (by (with_reducible repeat (first | refine blk_drewN ?_ _ | refine blk_drew ?_ | refine blk_alloc ?_ _)); exact HA.out) hb); have HX := Lib.hid (below_step (by repeat (first | (with_reducible first | exact HAb.out | apply below_alloc | apply pw_below_drewN | apply below_drew1) | exact HAb.out)) hb); clear hb ho11; obtain ⟨Ao12, co12, eo12⟩ := Kd.R_slice HO.out; subst eo12; have d0' := isA.v HC.out) | (go_at_call 43; (with_reducible refine (inode_stamp.calls 2 _ _ ys _ _ ?side1 ?side2 HT.out).mono ?_); (case side1 => exact (Kd.R_reads' HO.out).2.2); (case side2 => exact (Kd.R_reads' HO.out).2.1); rintro e w' ⟨rfl, ⟨nd2, rfl⟩⟩))
  have HY := Lib.hid (show Below w.heap.size w (w10.drewN nd2) from pw_below_drewN HX.out _)
  have HR := Lib.hid (show RecV ((w10.drewN nd2).alloc (.cells #[.slice none 0 0] 76)) w.heap.size w10.heap.size (.slice none 0 0) [] from (rec_new w (w10.drewN nd2) HY.out).1)
  have HB := Lib.hid (rec_new w (w10.drewN nd2) HY.out).2
  have HA1 := Lib.hid (show isA ((w10.drewN nd2).alloc (.cells #[.slice none 0 0] 76)) ga a from blk_alloc (blk_drewN HC.out _) _)
  have hne : ga ≠ w10.heap.size := Nat.ne_of_lt (lt_of_block HC.out)
  have hbB : w.heap.size ≤ w10.heap.size := HY.out.size
  have hbase : w.heap.size ≤ ((w10.drewN nd2).alloc (.cells #[.slice none 0 0] 76)).heap.size := by rw [World.size_alloc]; exact Nat.le_succ_of_le hbB
  clear HO HC HX HY HA HAb HAg d0 d1 d0' HS HT Ny
  generalize (w10.drewN nd2).alloc (.cells #[.slice none 0 0] 76) = w11 at HR HB HA1 hbase ⊢
  generalize w10.heap.size = B at HR hne hbB ⊢
  have d1 := isA.sz HA1.out
  have hl0 : (numF 2 a.sz).length ≤ 1 := by unfold numF; split <;> simp
  go_upto_region 5 with (first | (go_at_call 44; (with_reducible refine (num_call _ _ _ [] 2 a.sz _ _ HR.out HB.out hbB hbase (by decide)).mono ?_); rintro e w12 ⟨⟨u1, rfl⟩, v1, hr_, hb_, hs_, hk_⟩; have HR2 := Lib.hid hr_; have HB2 := Lib.hid hb_; have hbase2 := hs_; have HA2 := Lib.hid (isA.keeps HA1.out hk_ hne); clear hr_ hb_ hs_ hk_))
  have hcv := dg_string HM.out (isA.sum HA2.out)
  go_upto_region 6 with (first | (go_at_call 45; (with_reducible refine (text_call _ _ _ ([] ++ numF 2 a.sz) 3 (strOfNums a.s) _ _ HR2.out HB2.out hbB hbase2 (by simp; omega)).mono ?_); rintro e w13 ⟨⟨u2, rfl⟩, v2, hr_, hb_, hs_, hk_⟩; have HR3 := Lib.hid hr_; have HB3 := Lib.hid hb_; have hbase3 := hs_; have HA3 := Lib.hid (isA.keeps HA2.out hk_ hne); clear hr_ hb_ hs_ hk_))
  clear hcv
  have d0 := isA.v HA3.out
  go_upto_region 7 with (first | (go_at_call 44; (with_reducible refine (num_call _ _ _ ([] ++ numF 2 a.sz ++ textF 3 (strOfNums a.s)) 5 a.v _ _ HR3.out HB3.out hbB hbase3 (by simp [textF]; omega)).mono ?_); rintro e w14 ⟨⟨u3, rfl⟩, v3, hr_, hb_, hs_, hk_⟩; have HR4 := Lib.hid hr_; have HB4 := Lib.hid hb_; have hbase4 := hs_; have HA4 := Lib.hid (isA.keeps HA3.out hk_ hne); clear hr_ hb_ hs_ hk_))
  have x0 := (blk_cell HR4.out.box 0).trans rfl
  go_wp2
  go_ret2
  exact ⟨_, rfl, HR4.out.row, HB4.out⟩
end Go.Proofs.YtbhioghpgedkeaaDoor.IN
namespace Go.Proofs.YtbhioghpgedkeaaDoor.IN
open Go.RowKit Go.Proofs.YtbhioghpgedkeaaDoor.MIt Go.Proofs.YtbhioghpgedkeaaDoor.MKf Go.Proofs.YtbhioghpgedkeaaDoorW.PrintWords Go.Proofs.YtbhioghpgedkeaaDoorW.PrintLast Go.Proofs.YtbhioghpgedkeaaDoorW.PrintMore

end Go.Proofs.YtbhioghpgedkeaaDoor.IN
namespace Go.Proofs.YtbhioghpgedkeaaDoor.IN
open Go.RowKit Go.Shelf Go.Proofs.YtbhioghpgedkeaaDoor.MIt Go.Proofs.YtbhioghpgedkeaaDoor.MKf Go.Proofs.YtbhioghpgedkeaaDoorW.PrintWords Go.Proofs.YtbhioghpgedkeaaDoorW.PrintLast Go.Proofs.YtbhioghpgedkeaaDoorW.PrintMore
attribute [local go_sem] Oper.semAt_some

def fc (x : S75) : List Value := [.int .i64 x.f0, .int .i64 x.f1, .int .i64 x.f2, .string x.f3]
/-- All variables that hold something stay as they are. -/
def Same75 (W W' : World) : Prop := ∀ (k : Nat) (c : Array Value) (t : TypeId) (fr : Nat × Nat), W.heap[k]? = some (Obj.cells c t fr) → W'.heap[k]? = some (Obj.cells c t fr)
theorem same75_t {A B C : World} (h : Same75 A B) (k : Same75 B C) : Same75 A C := fun i c t fr hh => k i c t fr (h i c t fr hh)
theorem same75_b {w : World} (W : World) (l : Nat) (o o' : Obj) (_ : w.heap.size ≤ l) (h : W.heap[l]? = some o) (hc : o.isCells = false) (_ : o.isWalk = false) : Same75 W (W.putObj l o') := by
  intro k c t fr hh
  have hne : k ≠ l := by
    rintro rfl
    rw [h] at hh
    injection hh with hh
    subst hh
    cases hc
  exact ((grownBy_putObj' W l o').block k (lt_of_block hh) (fun e => hne (Option.some.inj e))).trans hh
theorem Same75.cell {W W' : World} (h : Same75 W W') {p : Addr} {v : Value} (hp : W.cell? p = some v) : W'.cell? p = some v := by
  unfold World.cell? at hp ⊢
  cases hh : W.heap[p.block]? with
  | none => rw [hh] at hp; cases hp
  | some o =>
    cases o with
    | cells c t fr => rw [hh] at hp; rw [h _ _ _ _ hh]; exact hp
    | _ => rw [hh] at hp; cases hp
theorem Same75.C {W W' : World} (h : Same75 W W') {A : Option Addr} {n : Nat} {xs : List S75} (hC : Kd.C k75 W A n xs) : Kd.C k75 W' A n xs :=
  ⟨hC.1, hC.2.1, fun hn => by
    obtain ⟨ad, e, hc⟩ := hC.2.2 hn
    refine ⟨ad, e, fun j p hj => ?_⟩
    obtain ⟨c, hs, hr, hcell⟩ := hc j p hj
    refine ⟨c, hs, ?_, fun i u hu => h.cell (hcell i u hu)⟩
    rw [k75_open hr]
    exact k75_mk _ _⟩
theorem grown_of_below {w w' : World} (h : Below w.heap.size w w') : w.grownBy w' none := ⟨h.os, h.tape, h.output, h.size, fun k hk _ => h.block k hk⟩
def ixOf : Value → Nat
  | .int _ i => i.toNat
  | _ => 0
def isF (tag kind : Int) (x : S75) : Bool := x.f0 == tag && x.f1 == kind
theorem at75 {W : World} {A : Option Addr} {p : List S75} {x : S75} {r : List S75} (h : Kd.C k75 W A (p ++ x :: r).length (p ++ x :: r)) : ∃ ad, A = some ad ∧ W.cell? (ad.add (p.length * 4)) = some (.int .i64 x.f0) ∧ W.cell? ⟨(ad.add (p.length * 4)).block, (ad.add (p.length * 4)).off + 1, none⟩ = some (.int .i64 x.f1) ∧ W.cell? ⟨(ad.add (p.length * 4)).block, (ad.add (p.length * 4)).off + 2, none⟩ = some (.int .i64 x.f2) ∧ W.cell? ⟨(ad.add (p.length * 4)).block, (ad.add (p.length * 4)).off + 3, none⟩ = some (.string x.f3) := by
  have := at_T75 h (p.length : Int) (by omega) (by simp; omega)
  have e : rd_T75 (p ++ x :: r) (p.length : Int) = x := by unfold rd_T75; simp
  rw [e, Int.toNat_natCast] at this
  exact this
set_option maxHeartbeats 4000000 in
set_option maxRecDepth 100000 in
theorem of1_in (n : Nat) (hn : 1 ≤ n) (l Bl Bt Bk : Nat) (A : Option Addr) (cap : Nat) (L : List S75) (tag kind : Int) (hL : L.length ≤ 1000) (J Jx : List S75 → World → Prop) (B0 : Nat) (hJ : AbidesFrom B0 J)
    (hY : ∀ pre x W, J pre W → pre.length < (L.filter (isF tag kind)).length → YieldAt Fence.wide (n - 1) Tryd.prog l #[.agg (fc x).toArray] W fun e W' =>
      (e = .returned (.bool true) ∧ J (pre ++ [x]) W' ∧ Same75 W W') ∨ (e = .returned (.bool false) ∧ Jx (pre ++ [x]) W'))
    (W : World) (hBl : W.cell? ⟨Bl, 0, none⟩ = some (.slice A L.length cap)) (hBt : W.cell? ⟨Bt, 0, none⟩ = some (.int .i64 tag)) (hBk : W.cell? ⟨Bk, 0, none⟩ = some (.int .i64 kind)) (hC : Kd.C k75 W A L.length L) (h0 : J [] W) :
    CallsIn Fence.wide n Tryd.prog 101 #[.func (.yield l) #[] #[], .pointer (some ⟨Bl, 0, none⟩), .pointer (some ⟨Bt, 0, none⟩), .pointer (some ⟨Bk, 0, none⟩)] W fun e W' => (∃ v, e = .returned v) ∧
      ((∃ ys, ys = L.filter (isF tag kind) ∧ J ys W') ∨ (∃ pre, pre <+: L.filter (isF tag kind) ∧ Jx pre W')) := by
  have step : ∀ (pre : List S75) (A A' : World), J pre A → Below A.heap.size A A' → J pre A' := fun pre A A' h hb => hJ pre A A' none h (grown_of_below hb) (fun r e => by cases e)
  have STEP := Lib.hid step
  clear step
  refine callsIn_of_wp Tryd.func101 rfl trivial ?_ rfl
  simp only [Tryd.ntmps101, List.size_toArray, List.length_cons, List.length_nil, Nat.reduceAdd, Nat.reduceSub, Array.replicate_succ, Array.replicate_zero, List.push_toArray, List.append_toArray, List.nil_append, List.cons_append]
  gi_wp2
  gi_loopw [9] (fun p wr => ∃ (pl r : List S75), p = .int .i64 (pl.length : Int) ∧ L = pl ++ r ∧ J (pl.filter (isF tag kind)) wr ∧ Hid (wr.cell? ⟨Bl, 0, none⟩ = some (.slice A L.length cap) ∧ wr.cell? ⟨Bt, 0, none⟩ = some (.int .i64 tag) ∧ wr.cell? ⟨Bk, 0, none⟩ = some (.int .i64 kind) ∧ Kd.C k75 wr A L.length L))
    (fun p _ => L.length - ixOf p)
  case atStart => exact ⟨[], L, rfl, rfl, h0, Lib.hid ⟨hBl, hBt, hBk, hC⟩⟩
  case round =>
    obtain ⟨pl, r, rfl, hLr, hJs, HR⟩ := hrel
    cases r with
    | nil =>
      have c1 : decide ((pl.length : Int) < (L.length : Int)) = false := by rw [hLr]; simp
      gi_wp2
      go_end0
      have e : L = pl := by rw [hLr]; simp
      exact ⟨⟨_, rfl⟩, .inl ⟨_, by rw [e], hJs⟩⟩
    | cons x r =>
      have hlen : L.length = pl.length + (r.length + 1) := by rw [hLr]; simp
      have hp9 : pl.length ≤ 1000 := by omega
      have c1 : decide ((pl.length : Int) < (L.length : Int)) = true := by simp; omega
      have c2 : ((pl.length : Int) < (L.length : Int)) = True := by simp; omega
      have c3 : (pl.length < L.length) = True := by simp; omega
      have HLEN := Lib.hid hlen
      clear hlen
      have hfil : ∀ b, isF tag kind x = b → (pl ++ [x]).filter (isF tag kind) = pl.filter (isF tag kind) ++ (if b then [x] else []) := fun b hb => by
        rw [List.filter_append, List.filter_cons, hb]
        cases b <;> rfl
      obtain ⟨ad, hA, e0, e1, e2, e3⟩ := at75 (hLr ▸ HR.out.2.2.2)
      subst hA
      have HL := Lib.hid hLr
      clear hLr
      cases q0 : (x.f0 == tag)
      · have hF : isF tag kind x = false := by unfold isF; rw [q0]; rfl
        have hb2 : Below wr.heap.size wr (wr.alloc (.cells #[.int .i64 x.f0, .int .i64 x.f1, .int .i64 x.f2, .string x.f3] 75)) := below_alloc (Below.refl _ _) _
        have hJ2 := STEP.out _ wr (wr.alloc (.cells #[.int .i64 x.f0, .int .i64 x.f1, .int .i64 x.f2, .string x.f3] 75)) hJs hb2
        have HR2 := Lib.hid (show (wr.alloc (.cells #[.int .i64 x.f0, .int .i64 x.f1, .int .i64 x.f2, .string x.f3] 75)).cell? ⟨Bl, 0, none⟩ = some (.slice (some ad) L.length cap) ∧ (wr.alloc (.cells #[.int .i64 x.f0, .int .i64 x.f1, .int .i64 x.f2, .string x.f3] 75)).cell? ⟨Bt, 0, none⟩ = some (.int .i64 tag) ∧ (wr.alloc (.cells #[.int .i64 x.f0, .int .i64 x.f1, .int .i64 x.f2, .string x.f3] 75)).cell? ⟨Bk, 0, none⟩ = some (.int .i64 kind) ∧ Kd.C k75 (wr.alloc (.cells #[.int .i64 x.f0, .int .i64 x.f1, .int .i64 x.f2, .string x.f3] 75)) (some ad) L.length L from ⟨pw_cell_below hb2 HR.out.1, pw_cell_below hb2 HR.out.2.1, pw_cell_below hb2 HR.out.2.2.1, Kd.C_below HR.out.2.2.2 hb2⟩)
        have b2 := HR2.out.2.1
        have b3 := HR2.out.2.2.1
        clear hb2
        gi_wp2_with ((with_reducible refine And.intro ?_ ?_); (intro f_ h_; cases h_))
        go_roundw
        case rel => exact ⟨pl ++ [x], r, by simp, by rw [HL.out]; simp, by rw [hfil false hF]; simpa using hJ2, HR2⟩
        case measure => have := HLEN.out; simp only [ixOf]; omega
      cases q1 : (x.f1 == kind)
      · have hF : isF tag kind x = false := by unfold isF; rw [q0, q1]; rfl
        have hb2 : Below wr.heap.size wr (wr.alloc (.cells #[.int .i64 x.f0, .int .i64 x.f1, .int .i64 x.f2, .string x.f3] 75)) := below_alloc (Below.refl _ _) _
        have hJ2 := STEP.out _ wr (wr.alloc (.cells #[.int .i64 x.f0, .int .i64 x.f1, .int .i64 x.f2, .string x.f3] 75)) hJs hb2
        have HR2 := Lib.hid (show (wr.alloc (.cells #[.int .i64 x.f0, .int .i64 x.f1, .int .i64 x.f2, .string x.f3] 75)).cell? ⟨Bl, 0, none⟩ = some (.slice (some ad) L.length cap) ∧ (wr.alloc (.cells #[.int .i64 x.f0, .int .i64 x.f1, .int .i64 x.f2, .string x.f3] 75)).cell? ⟨Bt, 0, none⟩ = some (.int .i64 tag) ∧ (wr.alloc (.cells #[.int .i64 x.f0, .int .i64 x.f1, .int .i64 x.f2, .string x.f3] 75)).cell? ⟨Bk, 0, none⟩ = some (.int .i64 kind) ∧ Kd.C k75 (wr.alloc (.cells #[.int .i64 x.f0, .int .i64 x.f1, .int .i64 x.f2, .string x.f3] 75)) (some ad) L.length L from ⟨pw_cell_below hb2 HR.out.1, pw_cell_below hb2 HR.out.2.1, pw_cell_below hb2 HR.out.2.2.1, Kd.C_below HR.out.2.2.2 hb2⟩)
        have b2 := HR2.out.2.1
        have b3 := HR2.out.2.2.1
        clear hb2
        gi_wp2_with ((with_reducible refine And.intro ?_ ?_); (intro f_ h_; cases h_))
        go_roundw
        case rel => exact ⟨pl ++ [x], r, by simp, by rw [HL.out]; simp, by rw [hfil false hF]; simpa using hJ2, HR2⟩
        case measure => have := HLEN.out; simp only [ixOf]; omega
      · have hF : isF tag kind x = true := by unfold isF; rw [q0, q1]; rfl
        have hlt : (pl.filter (isF tag kind)).length < (L.filter (isF tag kind)).length := by rw [HL.out, List.filter_append, List.filter_cons, if_pos hF]; simp
        have hb2 : Below wr.heap.size wr (wr.alloc (.cells #[.int .i64 x.f0, .int .i64 x.f1, .int .i64 x.f2, .string x.f3] 75)) := below_alloc (Below.refl _ _) _
        have hJ2 := STEP.out _ wr (wr.alloc (.cells #[.int .i64 x.f0, .int .i64 x.f1, .int .i64 x.f2, .string x.f3] 75)) hJs hb2
        have HR2 := Lib.hid (show (wr.alloc (.cells #[.int .i64 x.f0, .int .i64 x.f1, .int .i64 x.f2, .string x.f3] 75)).cell? ⟨Bl, 0, none⟩ = some (.slice (some ad) L.length cap) ∧ (wr.alloc (.cells #[.int .i64 x.f0, .int .i64 x.f1, .int .i64 x.f2, .string x.f3] 75)).cell? ⟨Bt, 0, none⟩ = some (.int .i64 tag) ∧ (wr.alloc (.cells #[.int .i64 x.f0, .int .i64 x.f1, .int .i64 x.f2, .string x.f3] 75)).cell? ⟨Bk, 0, none⟩ = some (.int .i64 kind) ∧ Kd.C k75 (wr.alloc (.cells #[.int .i64 x.f0, .int .i64 x.f1, .int .i64 x.f2, .string x.f3] 75)) (some ad) L.length L from ⟨pw_cell_below hb2 HR.out.1, pw_cell_below hb2 HR.out.2.1, pw_cell_below hb2 HR.out.2.2.1, Kd.C_below HR.out.2.2.2 hb2⟩)
        have b2 := HR2.out.2.1
        have b3 := HR2.out.2.2.1
        clear hb2
        obtain ⟨fn, tmps, assign, body, hy, hR⟩ := hY _ x _ hJ2 hlt
        replace hy : (Instr.yield l #[.agg #[.int .i64 x.f0, .int .i64 x.f1, .int .i64 x.f2, .string x.f3]]).run Tryd.prog (wr.alloc (.cells #[.int .i64 x.f0, .int .i64 x.f1, .int .i64 x.f2, .string x.f3] 75)) = .ok (.round l fn tmps assign body) (wr.alloc (.cells #[.int .i64 x.f0, .int .i64 x.f1, .int .i64 x.f2, .string x.f3] 75)) := hy
        gi_wp2
        refine hR.mono ?_
        rintro e W3 (⟨rfl, hJ3, hk3⟩ | ⟨rfl, hJx3⟩)
        · have HR3 := Lib.hid (show W3.cell? ⟨Bl, 0, none⟩ = some (.slice (some ad) L.length cap) ∧ W3.cell? ⟨Bt, 0, none⟩ = some (.int .i64 tag) ∧ W3.cell? ⟨Bk, 0, none⟩ = some (.int .i64 kind) ∧ Kd.C k75 W3 (some ad) L.length L from ⟨hk3.cell HR2.out.1, hk3.cell HR2.out.2.1, hk3.cell HR2.out.2.2.1, hk3.C HR2.out.2.2.2⟩)
          gi_wp2
          go_roundw
          case rel => exact ⟨pl ++ [x], r, by simp, by rw [HL.out]; simp, by rw [hfil true hF]; exact hJ3, HR3⟩
          case measure => have := HLEN.out; simp only [ixOf]; omega
        · gi_wp2
          refine bodyPost_ret (results_none rfl _ _ _) rfl ?_
          exact ⟨⟨_, rfl⟩, .inr ⟨_, ⟨r.filter (isF tag kind), by rw [HL.out, List.filter_append, List.filter_cons, if_pos hF]; simp⟩, hJx3⟩⟩
end Go.Proofs.YtbhioghpgedkeaaDoor.IN
namespace Go.Proofs.YtbhioghpgedkeaaDoor.IN
open Go.RowKit Go.Shelf Go.Proofs.YtbhioghpgedkeaaDoor.MIt Go.Proofs.YtbhioghpgedkeaaDoor.MKf Go.Proofs.YtbhioghpgedkeaaDoorW.PrintWords Go.Proofs.YtbhioghpgedkeaaDoorW.PrintLast Go.Proofs.YtbhioghpgedkeaaDoorW.PrintMore
attribute [local go_sem] Oper.semAt_some

def numOf (L : List S75) (tag : Int) : Int × Bool := match L.filter (isF tag 0) with
  | x :: _ => (x.f2, true)
  | [] => (0, false)
def textOf (L : List S75) (tag : Int) : ByteArray × Bool := match L.filter (isF tag 1) with
  | x :: _ => (x.f3, true)
  | [] => (⟨#[]⟩, false)
theorem cells_grown {B : Nat} {W W' : World} {row : Option Nat} {k : Nat} {c : Array Value} {t : TypeId} {fr : Nat × Nat} (h : W.heap[k]? = some (.cells c t fr)) (hg : W.grownBy W' row) (hr : ∀ r, row = some r → B ≤ r ∧ ∃ o : Obj, W.heap[r]? = some o ∧ o.isCells = false) : W'.heap[k]? = some (.cells c t fr) := by
  refine (hg.block k (lt_of_block h) (fun e => ?_)).trans h
  obtain ⟨_, o, ho, hc⟩ := hr k e.symm
  rw [h] at ho
  injection ho with ho
  subst ho
  cases hc
theorem same75_alloc (W : World) (o : Obj) : Same75 W (W.alloc o) := fun k c t fr hh => (Below.heap_alloc W o k (lt_of_block hh)).trans hh
set_option maxHeartbeats 1000000 in
theorem of_in (n : Nat) (v : Value) (tag kind : Int) (w : World) (hv : ∃ A m c, v = .slice A m c) :
    CallsIn Fence.wide n Tryd.prog 90 #[v, .int .i64 tag, .int .i64 kind] w fun e w' => e = .returned (.func (.func 101) #[] #[.pointer (some ⟨w.heap.size, 0, none⟩), .pointer (some ⟨w.heap.size + 1, 0, none⟩), .pointer (some ⟨w.heap.size + 1 + 1, 0, none⟩)]) ∧ w' = ((w.alloc (.cells #[v] 34)).alloc (.cells #[.int .i64 tag] 3)).alloc (.cells #[.int .i64 kind] 3) := by
  obtain ⟨A, m, c, rfl⟩ := hv
  refine callsIn_of_wp Tryd.func90 rfl trivial ?_ rfl
  simp only [Tryd.ntmps90, List.size_toArray, List.length_cons, List.length_nil, Nat.reduceAdd, Nat.reduceSub, Array.replicate_succ, Array.replicate_zero, List.push_toArray, List.append_toArray, List.nil_append, List.cons_append]
  gi_wp2
  go_ret
  exact ⟨rfl, rfl⟩
theorem five (w : World) (a b c d e : Obj) : (((((w.alloc a).alloc b).alloc c).alloc d).alloc e).heap[w.heap.size]? = some a ∧ (((((w.alloc a).alloc b).alloc c).alloc d).alloc e).heap[w.heap.size + 1]? = some b ∧ (((((w.alloc a).alloc b).alloc c).alloc d).alloc e).heap[w.heap.size + 1 + 1]? = some c ∧ (((((w.alloc a).alloc b).alloc c).alloc d).alloc e).heap[w.heap.size + 1 + 1 + 1]? = some d ∧ (((((w.alloc a).alloc b).alloc c).alloc d).alloc e).heap[w.heap.size + 1 + 1 + 1 + 1]? = some e ∧ Below w.heap.size w (((((w.alloc a).alloc b).alloc c).alloc d).alloc e) ∧ (((((w.alloc a).alloc b).alloc c).alloc d).alloc e).heap.size = w.heap.size + 5 := by
  have h1 := World.alloc_heap_new w a
  have h2 := World.alloc_heap_new (w.alloc a) b
  have h3 := World.alloc_heap_new ((w.alloc a).alloc b) c
  have h4 := World.alloc_heap_new (((w.alloc a).alloc b).alloc c) d
  have h5 := World.alloc_heap_new ((((w.alloc a).alloc b).alloc c).alloc d) e
  simp only [World.size_alloc] at h2 h3 h4 h5
  refine ⟨blk_alloc (blk_alloc (blk_alloc (blk_alloc h1 _) _) _) _, blk_alloc (blk_alloc (blk_alloc h2 _) _) _, blk_alloc (blk_alloc h3 _) _, blk_alloc h4 _, h5, ?_, by simp⟩
  · exact (((((Below.refl _ w).alloc (Nat.le_refl _) _).alloc (by simp) _).alloc (by simp; omega) _).alloc (by simp; omega) _).alloc (by simp; omega) _
theorem of_stops (n : Nat) (hn : 1 ≤ n) (Bl Bt Bk : Nat) (A : Option Addr) (cap : Nat) (L : List S75) (tag kind : Int) (hL : L.length ≤ 1000) (w : World)
    (hBl : w.cell? ⟨Bl, 0, none⟩ = some (.slice A L.length cap)) (hBt : w.cell? ⟨Bt, 0, none⟩ = some (.int .i64 tag)) (hBk : w.cell? ⟨Bk, 0, none⟩ = some (.int .i64 kind)) (hC : Kd.C k75 w A L.length L) :
    SeqStopsK Fence.wide n Tryd.prog 101 #[.pointer (some ⟨Bl, 0, none⟩), .pointer (some ⟨Bt, 0, none⟩), .pointer (some ⟨Bk, 0, none⟩)] (fun x : S75 => #[Value.agg (fc x).toArray]) Same75 (fun ys => ys = L.filter (isF tag kind)) (fun pre => pre <+: L.filter (isF tag kind)) (L.filter (isF tag kind)).length w := fun l J Jx W hW hJ _ hY h0 =>
  of1_in n hn l Bl Bt Bk A cap L tag kind hL J Jx _ hJ hY W (pw_cell_below hW hBl) (pw_cell_below hW hBt) (pw_cell_below hW hBk) (Kd.C_below hC hW) h0
set_option maxRecDepth 100000 in
set_option maxHeartbeats 4000000 in
theorem num_in (n : Nat) (hn : 3 ≤ n) (A : Option Addr) (cap : Nat) (L : List S75) (tag : Int) (hL : L.length ≤ 1000) (w : World) (hC : Kd.C k75 w A L.length L) :
    CallsIn Fence.wide n Tryd.prog 71 #[.slice A L.length cap, .int .i64 tag] w fun e W' => e = .returned (.tuple #[.int .i64 (numOf L tag).1, .bool (numOf L tag).2]) ∧ Below w.heap.size w W' := by
  have h1 : 1 ≤ n := by omega
  refine callsIn_of_wp_marks Tryd.func71 rfl trivial ?_ rfl
  simp only [Tryd.ntmps71, List.size_toArray, List.length_cons, List.length_nil, Nat.reduceAdd, Nat.reduceSub, Array.replicate_succ, Array.replicate_zero, List.push_toArray, List.append_toArray, List.nil_append, List.cons_append]
  gi_wp2_with (refine ⟨trivial, ?_⟩; gi_at_call 90; refine (of_in (n - 1) (.slice A L.length cap) tag 0 _ ⟨A, _, cap, rfl⟩).mono ?_; rintro e w' ⟨rfl, rfl⟩)
  obtain ⟨W5, hW5⟩ : ∃ W5, W5 = ((((w.alloc (.cells #[.int .i64 0] 3)).alloc (.cells #[.bool false] 4)).alloc (.cells #[.slice A L.length cap] 34)).alloc (.cells #[.int .i64 tag] 3)).alloc (.cells #[.int .i64 0] 3) := ⟨_, rfl⟩
  rw [← hW5]
  obtain ⟨k1, k2, k3, k4, k5, hB, hz⟩ := five w (.cells #[.int .i64 0] 3) (.cells #[.bool false] 4) (.cells #[.slice A L.length cap] 34) (.cells #[.int .i64 tag] 3) (.cells #[.int .i64 0] 3)
  rw [← hW5] at k1 k2 k3 k4 k5 hB hz
  clear hW5
  have hC5 : Kd.C k75 W5 A L.length L := Kd.C_below hC hB
  refine wpIn_rangeFunc_ownH rfl h1 (gf := 101) (lb := #[.pointer (some ⟨w.heap.size + 1 + 1, 0, none⟩), .pointer (some ⟨w.heap.size + 1 + 1 + 1, 0, none⟩), .pointer (some ⟨w.heap.size + 1 + 1 + 1 + 1, 0, none⟩)]) rfl trivial (enters_of Tryd.func101 (by kernel_rfl) rfl)
    (of_stops (n - 1) (by omega) _ _ _ A cap L tag 0 hL W5 (cell_of_one k3) (cell_of_one k4) (cell_of_one k5) hC5) same75_t (fun W l o o' hl => same75_b (w := W5) W l o o' hl) (Below.refl _ _) (fun _ => rfl)
    (fun pre W => pre = [] ∧ W.heap[w.heap.size]? = some (.cells #[.int .i64 0] 3 (0, 0)) ∧ W.heap[w.heap.size + 1]? = some (.cells #[.bool false] 4 (0, 0)) ∧ Below w.heap.size w W)
    (fun c pre W => c = .ret ∧ ∃ x, pre = [x] ∧ W.heap[w.heap.size]? = some (.cells #[.int .i64 x.f2] 3 (0, 0)) ∧ W.heap[w.heap.size + 1]? = some (.cells #[.bool true] 4 (0, 0)) ∧ Below w.heap.size w W)
    (fun s A_ B_ row hs hg hr => ⟨hs.1, cells_grown hs.2.1 hg hr, cells_grown hs.2.2.1 hg hr, ownFrom_below (β := Unit) (Nat.le_refl _) (by omega) () A_ B_ row hs.2.2.2 hg hr⟩)
    (fun c s A_ B_ row hs hg hr => by
      obtain ⟨e, x, e2, q1, q2, q3⟩ := hs
      exact ⟨e, x, e2, cells_grown q1 hg hr, cells_grown q2 hg hr, ownFrom_below (β := Unit) (Nat.le_refl _) (by omega) () A_ B_ row q3 hg hr⟩)
    ⟨rfl, k1, k2, hB⟩
    (fun x a' W => ∃ g, W.heap[g]? = some (.cells (fc x).toArray 75 (0, 0)) ∧ a' = { tmps := #[.slice A L.length cap, .int .i64 tag, undef, undef, .pointer (some ⟨w.heap.size, 0, none⟩), .pointer (some ⟨w.heap.size + 1, 0, none⟩), .pointer (some ⟨g, 0, none⟩), .slice A L.length cap, .int .i64 tag, .func (.func 101) #[] #[.pointer (some ⟨w.heap.size + 1 + 1, 0, none⟩), .pointer (some ⟨w.heap.size + 1 + 1 + 1, 0, none⟩), .pointer (some ⟨w.heap.size + 1 + 1 + 1 + 1, 0, none⟩)], .agg (fc x).toArray, undef, undef], defers := [] })
    (fun x a' s A_ B_ row hs hg hr => by
      obtain ⟨g, q1, q2⟩ := hs
      exact ⟨g, cells_grown q1 hg hr, q2⟩)
    ?assign ?body ?done ?stop
  case assign =>
    intro l pre x W K hi hK
    have HK := Lib.hid hK
    have HI := Lib.hid hi
    clear hK hi k1 k2 k3 k4 k5 hB hz hC5
    unfold fc
    gi_wp2
    obtain ⟨i1, i2, i3, i4⟩ := HI.out
    exact HK.out _ _ ((KeepsOthers.alloc _ _).from _) (same75_alloc _ _) ⟨i1, same75_alloc _ _ _ _ _ _ i2, same75_alloc _ _ _ _ _ _ i3, i4.alloc i4.size _⟩ ⟨_, heap_alloc_new _ _, rfl⟩
  case body =>
    rintro l pre x a' W hl hr ⟨rfl, i2, i3, i4⟩ ⟨g, hg, rfl⟩ hlen
    have e2 : W.cell? ⟨g, 2, none⟩ = some (.int .i64 x.f2) := (blk_cell hg 2).trans rfl
    have x1 := cell_of_one i2
    have f1 := free_of_one i2
    have x2 := cell_of_one i3
    have f2 := free_of_one i3
    have I2 := Lib.hid i2
    have I3 := Lib.hid i3
    have I4 := Lib.hid i4
    clear k1 k2 k3 k4 k5 hB hz hC5 i2 i3 i4 hr hl hlen
    gi_wp2
    refine ⟨((KeepsOthers.setCell _ _ _).trans (KeepsOthers.setCell _ _ _)).from _, rfl, x, rfl, ?_, ?_, ?_⟩
    · rw [Below.heap_setCell _ _ _ _ (show w.heap.size ≠ w.heap.size + 1 by omega)]
      exact one_setCell I2.out
    · refine one_setCell (v := .bool false) ?_
      rw [Below.heap_setCell _ _ _ _ (show w.heap.size + 1 ≠ w.heap.size by omega)]
      exact I3.out
    · exact (I4.out.setCell (p := ⟨w.heap.size, 0, none⟩) (Nat.le_refl _) _).setCell (p := ⟨w.heap.size + 1, 0, none⟩) (by show _ ≤ w.heap.size + 1; omega) _
  case done =>
    rintro D xs W hD hS ⟨rfl, i2, i3, i4⟩ hK
    have hv : numOf L tag = (0, false) := by unfold numOf; rw [← hS]
    have x1 := cell_of_one i2
    have f1 := free_of_one i2
    have x2 := cell_of_one i3
    have f2 := free_of_one i3
    have I2 := Lib.hid i2
    have I3 := Lib.hid i3
    have I4 := Lib.hid i4
    have HD := Lib.hid (show w.heap.size + 5 ≤ D by omega)
    clear k1 k2 k3 k4 k5 hB hC5 i2 i3 i4 hz hD
    gi_wp2
    have hK1 := (KeepsOthers.setCell W ⟨w.heap.size, 0, none⟩ (.int .i64 0)).same D _ hK rfl
    have hK' := (KeepsOthers.setCell _ ⟨w.heap.size + 1, 0, none⟩ (.bool false)).same D _ hK1 rfl
    have c1 : ((W.setCell ⟨w.heap.size, 0, none⟩ (.int .i64 0)).setCell ⟨w.heap.size + 1, 0, none⟩ (.bool false)).heap[w.heap.size]? = some (.cells #[.int .i64 0] 3 (0, 0)) := by
      rw [Below.heap_setCell _ _ _ _ (show w.heap.size ≠ w.heap.size + 1 by omega)]
      exact one_setCell I2.out
    have c2 : ((W.setCell ⟨w.heap.size, 0, none⟩ (.int .i64 0)).setCell ⟨w.heap.size + 1, 0, none⟩ (.bool false)).heap[w.heap.size + 1]? = some (.cells #[.bool false] 4 (0, 0)) := by
      refine one_setCell (v := .bool false) ?_
      rw [Below.heap_setCell _ _ _ _ (show w.heap.size + 1 ≠ w.heap.size by omega)]
      exact I3.out
    have hbe := (I4.out.setCell (p := ⟨w.heap.size, 0, none⟩) (Nat.le_refl _) (.int .i64 0)).setCell (p := ⟨w.heap.size + 1, 0, none⟩) (by show _ ≤ w.heap.size + 1; omega) (.bool false)
    refine ⟨by simp, .inl ⟨_, _, rfl, run_takeDeferred hK', ?_⟩⟩
    have hcg : ∀ {k : Nat} {c : Array Value} {t : TypeId} {fr : Nat × Nat} {X : World}, X.heap[k]? = some (.cells c t fr) → X.heap[D]? = some (.deferred (some [])) → (X.putObj D (.deferred none)).heap[k]? = some (.cells c t fr) := fun h hd => cells_grown (B := 0) h (grownBy_putObj' _ D (.deferred none)) (fun r e => by cases e; exact ⟨Nat.zero_le _, _, hd, rfl⟩)
    have y1 := cell_of_one (hcg c1 hK')
    have y2 := cell_of_one (hcg c2 hK')
    refine ⟨.tuple #[.int .i64 0, .bool false], ?_, by rw [hv], hbe.trans (belowK_b (w := w) (Nat.le_refl _) _ D _ _ (by have := HD.out; omega) hK' rfl rfl)⟩
    simp [results, Tryd.f71, go_sem, y1, y2]
  case stop =>
    rintro D c pre W hD hpre ⟨rfl, x, rfl, i2, i3, i4⟩ hK
    obtain ⟨rest, hrest⟩ := hpre
    have hv : numOf L tag = (x.f2, true) := by unfold numOf; rw [← hrest]; rfl
    have HD := Lib.hid (show w.heap.size + 5 ≤ D by omega)
    have c1 := i2
    have c2 := i3
    have hK' := hK
    clear k1 k2 k3 k4 k5 hB hC5 hz hD i2 i3
    gi_wp2
    refine ⟨by simp, .inl ⟨_, _, rfl, run_takeDeferred hK', ?_⟩⟩
    have hcg : ∀ {k : Nat} {c : Array Value} {t : TypeId} {fr : Nat × Nat} {X : World}, X.heap[k]? = some (.cells c t fr) → X.heap[D]? = some (.deferred (some [])) → (X.putObj D (.deferred none)).heap[k]? = some (.cells c t fr) := fun h hd => cells_grown (B := 0) h (grownBy_putObj' _ D (.deferred none)) (fun r e => by cases e; exact ⟨Nat.zero_le _, _, hd, rfl⟩)
    have y1 := cell_of_one (hcg c1 hK')
    have y2 := cell_of_one (hcg c2 hK')
    refine ⟨.tuple #[.int .i64 x.f2, .bool true], ?_, by rw [hv], i4.trans (belowK_b (w := w) (Nat.le_refl _) _ D _ _ (by have := HD.out; omega) hK' rfl rfl)⟩
    simp [results, Tryd.f71, go_sem, y1, y2]
set_option maxRecDepth 100000 in
set_option maxHeartbeats 4000000 in
theorem text_in (n : Nat) (hn : 3 ≤ n) (A : Option Addr) (cap : Nat) (L : List S75) (tag : Int) (hL : L.length ≤ 1000) (w : World) (hC : Kd.C k75 w A L.length L) :
    CallsIn Fence.wide n Tryd.prog 70 #[.slice A L.length cap, .int .i64 tag] w fun e W' => e = .returned (.tuple #[.string (textOf L tag).1, .bool (textOf L tag).2]) ∧ Below w.heap.size w W' := by
  have h1 : 1 ≤ n := by omega
  refine callsIn_of_wp_marks Tryd.func70 rfl trivial ?_ rfl
  simp only [Tryd.ntmps70, List.size_toArray, List.length_cons, List.length_nil, Nat.reduceAdd, Nat.reduceSub, Array.replicate_succ, Array.replicate_zero, List.push_toArray, List.append_toArray, List.nil_append, List.cons_append]
  gi_wp2_with (refine ⟨trivial, ?_⟩; gi_at_call 90; refine (of_in (n - 1) (.slice A L.length cap) tag 1 _ ⟨A, _, cap, rfl⟩).mono ?_; rintro e w' ⟨rfl, rfl⟩)
  obtain ⟨W5, hW5⟩ : ∃ W5, W5 = ((((w.alloc (.cells #[.string ⟨#[]⟩] 9)).alloc (.cells #[.bool false] 4)).alloc (.cells #[.slice A L.length cap] 34)).alloc (.cells #[.int .i64 tag] 3)).alloc (.cells #[.int .i64 1] 3) := ⟨_, rfl⟩
  rw [← hW5]
  obtain ⟨k1, k2, k3, k4, k5, hB, hz⟩ := five w (.cells #[.string ⟨#[]⟩] 9) (.cells #[.bool false] 4) (.cells #[.slice A L.length cap] 34) (.cells #[.int .i64 tag] 3) (.cells #[.int .i64 1] 3)
  rw [← hW5] at k1 k2 k3 k4 k5 hB hz
  clear hW5
  have hC5 : Kd.C k75 W5 A L.length L := Kd.C_below hC hB
  refine wpIn_rangeFunc_ownH rfl h1 (gf := 101) (lb := #[.pointer (some ⟨w.heap.size + 1 + 1, 0, none⟩), .pointer (some ⟨w.heap.size + 1 + 1 + 1, 0, none⟩), .pointer (some ⟨w.heap.size + 1 + 1 + 1 + 1, 0, none⟩)]) rfl trivial (enters_of Tryd.func101 (by kernel_rfl) rfl)
    (of_stops (n - 1) (by omega) _ _ _ A cap L tag 1 hL W5 (cell_of_one k3) (cell_of_one k4) (cell_of_one k5) hC5) same75_t (fun W l o o' hl => same75_b (w := W5) W l o o' hl) (Below.refl _ _) (fun _ => rfl)
    (fun pre W => pre = [] ∧ W.heap[w.heap.size]? = some (.cells #[.string ⟨#[]⟩] 9 (0, 0)) ∧ W.heap[w.heap.size + 1]? = some (.cells #[.bool false] 4 (0, 0)) ∧ Below w.heap.size w W)
    (fun c pre W => c = .ret ∧ ∃ x, pre = [x] ∧ W.heap[w.heap.size]? = some (.cells #[.string x.f3] 9 (0, 0)) ∧ W.heap[w.heap.size + 1]? = some (.cells #[.bool true] 4 (0, 0)) ∧ Below w.heap.size w W)
    (fun s A_ B_ row hs hg hr => ⟨hs.1, cells_grown hs.2.1 hg hr, cells_grown hs.2.2.1 hg hr, ownFrom_below (β := Unit) (Nat.le_refl _) (by omega) () A_ B_ row hs.2.2.2 hg hr⟩)
    (fun c s A_ B_ row hs hg hr => by
      obtain ⟨e, x, e2, q1, q2, q3⟩ := hs
      exact ⟨e, x, e2, cells_grown q1 hg hr, cells_grown q2 hg hr, ownFrom_below (β := Unit) (Nat.le_refl _) (by omega) () A_ B_ row q3 hg hr⟩)
    ⟨rfl, k1, k2, hB⟩
    (fun x a' W => ∃ g, W.heap[g]? = some (.cells (fc x).toArray 75 (0, 0)) ∧ a' = { tmps := #[.slice A L.length cap, .int .i64 tag, undef, undef, .pointer (some ⟨w.heap.size, 0, none⟩), .pointer (some ⟨w.heap.size + 1, 0, none⟩), .pointer (some ⟨g, 0, none⟩), .slice A L.length cap, .int .i64 tag, .func (.func 101) #[] #[.pointer (some ⟨w.heap.size + 1 + 1, 0, none⟩), .pointer (some ⟨w.heap.size + 1 + 1 + 1, 0, none⟩), .pointer (some ⟨w.heap.size + 1 + 1 + 1 + 1, 0, none⟩)], .agg (fc x).toArray, undef, undef], defers := [] })
    (fun x a' s A_ B_ row hs hg hr => by
      obtain ⟨g, q1, q2⟩ := hs
      exact ⟨g, cells_grown q1 hg hr, q2⟩)
    ?assign ?body ?done ?stop
  case assign =>
    intro l pre x W K hi hK
    have HK := Lib.hid hK
    have HI := Lib.hid hi
    clear hK hi k1 k2 k3 k4 k5 hB hz hC5
    unfold fc
    gi_wp2
    obtain ⟨i1, i2, i3, i4⟩ := HI.out
    exact HK.out _ _ ((KeepsOthers.alloc _ _).from _) (same75_alloc _ _) ⟨i1, same75_alloc _ _ _ _ _ _ i2, same75_alloc _ _ _ _ _ _ i3, i4.alloc i4.size _⟩ ⟨_, heap_alloc_new _ _, rfl⟩
  case body =>
    rintro l pre x a' W hl hr ⟨rfl, i2, i3, i4⟩ ⟨g, hg, rfl⟩ hlen
    have e2 : W.cell? ⟨g, 3, none⟩ = some (.string x.f3) := (blk_cell hg 3).trans rfl
    have x1 := cell_of_one i2
    have f1 := free_of_one i2
    have x2 := cell_of_one i3
    have f2 := free_of_one i3
    have I2 := Lib.hid i2
    have I3 := Lib.hid i3
    have I4 := Lib.hid i4
    clear k1 k2 k3 k4 k5 hB hz hC5 i2 i3 i4 hr hl hlen
    gi_wp2
    refine ⟨((KeepsOthers.setCell _ _ _).trans (KeepsOthers.setCell _ _ _)).from _, rfl, x, rfl, ?_, ?_, ?_⟩
    · rw [Below.heap_setCell _ _ _ _ (show w.heap.size ≠ w.heap.size + 1 by omega)]
      exact one_setCell I2.out
    · refine one_setCell (v := .bool false) ?_
      rw [Below.heap_setCell _ _ _ _ (show w.heap.size + 1 ≠ w.heap.size by omega)]
      exact I3.out
    · exact (I4.out.setCell (p := ⟨w.heap.size, 0, none⟩) (Nat.le_refl _) _).setCell (p := ⟨w.heap.size + 1, 0, none⟩) (by show _ ≤ w.heap.size + 1; omega) _
  case done =>
    rintro D xs W hD hS ⟨rfl, i2, i3, i4⟩ hK
    have hv : textOf L tag = (⟨#[]⟩, false) := by unfold textOf; rw [← hS]
    have x1 := cell_of_one i2
    have f1 := free_of_one i2
    have x2 := cell_of_one i3
    have f2 := free_of_one i3
    have I2 := Lib.hid i2
    have I3 := Lib.hid i3
    have I4 := Lib.hid i4
    have HD := Lib.hid (show w.heap.size + 5 ≤ D by omega)
    clear k1 k2 k3 k4 k5 hB hC5 i2 i3 i4 hz hD
    gi_wp2
    have hK1 := (KeepsOthers.setCell W ⟨w.heap.size, 0, none⟩ (.string ⟨#[]⟩)).same D _ hK rfl
    have hK' := (KeepsOthers.setCell _ ⟨w.heap.size + 1, 0, none⟩ (.bool false)).same D _ hK1 rfl
    have c1 : ((W.setCell ⟨w.heap.size, 0, none⟩ (.string ⟨#[]⟩)).setCell ⟨w.heap.size + 1, 0, none⟩ (.bool false)).heap[w.heap.size]? = some (.cells #[.string ⟨#[]⟩] 9 (0, 0)) := by
      rw [Below.heap_setCell _ _ _ _ (show w.heap.size ≠ w.heap.size + 1 by omega)]
      exact one_setCell I2.out
    have c2 : ((W.setCell ⟨w.heap.size, 0, none⟩ (.string ⟨#[]⟩)).setCell ⟨w.heap.size + 1, 0, none⟩ (.bool false)).heap[w.heap.size + 1]? = some (.cells #[.bool false] 4 (0, 0)) := by
      refine one_setCell (v := .bool false) ?_
      rw [Below.heap_setCell _ _ _ _ (show w.heap.size + 1 ≠ w.heap.size by omega)]
      exact I3.out
    have hbe := (I4.out.setCell (p := ⟨w.heap.size, 0, none⟩) (Nat.le_refl _) (.string ⟨#[]⟩)).setCell (p := ⟨w.heap.size + 1, 0, none⟩) (by show _ ≤ w.heap.size + 1; omega) (.bool false)
    refine ⟨by simp, .inl ⟨_, _, rfl, run_takeDeferred hK', ?_⟩⟩
    have hcg : ∀ {k : Nat} {c : Array Value} {t : TypeId} {fr : Nat × Nat} {X : World}, X.heap[k]? = some (.cells c t fr) → X.heap[D]? = some (.deferred (some [])) → (X.putObj D (.deferred none)).heap[k]? = some (.cells c t fr) := fun h hd => cells_grown (B := 0) h (grownBy_putObj' _ D (.deferred none)) (fun r e => by cases e; exact ⟨Nat.zero_le _, _, hd, rfl⟩)
    have y1 := cell_of_one (hcg c1 hK')
    have y2 := cell_of_one (hcg c2 hK')
    refine ⟨.tuple #[.string ⟨#[]⟩, .bool false], ?_, by rw [hv], hbe.trans (belowK_b (w := w) (Nat.le_refl _) _ D _ _ (by have := HD.out; omega) hK' rfl rfl)⟩
    simp [results, Tryd.f70, go_sem, y1, y2]
  case stop =>
    rintro D c pre W hD hpre ⟨rfl, x, rfl, i2, i3, i4⟩ hK
    obtain ⟨rest, hrest⟩ := hpre
    have hv : textOf L tag = (x.f3, true) := by unfold textOf; rw [← hrest]; rfl
    have HD := Lib.hid (show w.heap.size + 5 ≤ D by omega)
    have c1 := i2
    have c2 := i3
    have hK' := hK
    clear k1 k2 k3 k4 k5 hB hC5 hz hD i2 i3
    gi_wp2
    refine ⟨by simp, .inl ⟨_, _, rfl, run_takeDeferred hK', ?_⟩⟩
    have hcg : ∀ {k : Nat} {c : Array Value} {t : TypeId} {fr : Nat × Nat} {X : World}, X.heap[k]? = some (.cells c t fr) → X.heap[D]? = some (.deferred (some [])) → (X.putObj D (.deferred none)).heap[k]? = some (.cells c t fr) := fun h hd => cells_grown (B := 0) h (grownBy_putObj' _ D (.deferred none)) (fun r e => by cases e; exact ⟨Nat.zero_le _, _, hd, rfl⟩)
    have y1 := cell_of_one (hcg c1 hK')
    have y2 := cell_of_one (hcg c2 hK')
    refine ⟨.tuple #[.string x.f3, .bool true], ?_, by rw [hv], i4.trans (belowK_b (w := w) (Nat.le_refl _) _ D _ _ (by have := HD.out; omega) hK' rfl rfl)⟩
    simp [results, Tryd.f70, go_sem, y1, y2]
theorem fnum_call (A : Option Addr) (cap : Nat) (L : List S75) (tag : Int) (hL : L.length ≤ 1000) (w : World) (hC : Kd.C k75 w A L.length L) :
    Calls Tryd.prog 71 #[.slice A L.length cap, .int .i64 tag] w fun e W' => e = .returned (.tuple #[.int .i64 (numOf L tag).1, .bool (numOf L tag).2]) ∧ Below w.heap.size w W' :=
  callsIn_wide.1 (num_in 3 (Nat.le_refl _) A cap L tag hL w hC)
theorem ftext_call (A : Option Addr) (cap : Nat) (L : List S75) (tag : Int) (hL : L.length ≤ 1000) (w : World) (hC : Kd.C k75 w A L.length L) :
    Calls Tryd.prog 70 #[.slice A L.length cap, .int .i64 tag] w fun e W' => e = .returned (.tuple #[.string (textOf L tag).1, .bool (textOf L tag).2]) ∧ Below w.heap.size w W' :=
  callsIn_wide.1 (text_in 3 (Nat.le_refl _) A cap L tag hL w hC)
end Go.Proofs.YtbhioghpgedkeaaDoor.IN
