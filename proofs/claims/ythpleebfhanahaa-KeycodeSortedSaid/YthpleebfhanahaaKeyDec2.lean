/- The program's Decode: the parts of which these are the bytes, if they are. -/
import Derived.Test.YthpleebfhanahaaKeyDec
set_option linter.unusedSimpArgs false
set_option linter.unusedVariables false
namespace Go.Proofs.Ythpleebfhanahaa.KP
open Go.RowKit Go.Proofs.Ythpleebfhanahaa.MKey Go.Proofs.YthpleebfhanahaaW.PrintWords Go.Proofs.YthpleebfhanahaaW.PrintLast Go.Proofs.YthpleebfhanahaaW.PrintMore Go.Proofs.Ythpleebfhanahaa.Ext

theorem b8_head {c : UInt8} {x : List UInt8} {p : S45} {l : List S45} (hp : Good p) (h : b8 (c :: x) = bytesK (p :: l)) :
    ((c.toNat : Int) = 16 ∧ p.f0 = 1 ∧ b8 x = be8 (p.f1 + 9223372036854775808) ++ bytesK l) ∨ ((c.toNat : Int) = 32 ∧ p.f0 = 2 ∧ b8 x = b8 (escU p.f2.data.toList ++ [0, 1]) ++ bytesK l) := by
  rw [b8_cons, bytesK] at h
  rcases good_cases hp with ⟨p1, _⟩ | ⟨p1, _⟩
  · rw [good_num p1, List.cons_append] at h
    injection h with h1 h2
    exact .inl ⟨h1, p1, h2⟩
  · rw [good_text p1, List.cons_append] at h
    injection h with h1 h2
    exact .inr ⟨h1, p1, h2⟩
/-- What Decode answers from some bytes on, where out was read before. -/
def Reads (xs : List UInt8) (out : List S45) (m : List S45) (e : Int) : Prop :=
  (e = 0 ∧ m.length ≤ 16 ∧ ∃ l, m = out ++ l ∧ (∀ p ∈ l, Good p) ∧ b8 xs = bytesK l) ∨
    (m = [] ∧ e = 5 ∧ ∀ l, (∀ p ∈ l, Good p) → b8 xs = bytesK l → 16 < out.length + l.length)
theorem toList_ne (s : ByteArray) : s.toList = ([] : List UInt8) ↔ s.size = 0 := by
  rw [ByteArray.toList_eq]
  constructor
  · intro h
    have h5 : s.data.toList.length = 0 := by rw [h]; rfl
    exact h5
  · intro h
    have h5 : s.data.toList.length = 0 := h
    exact List.eq_nil_of_length_eq_zero h5
theorem be8_len (u : Int) : (be8 u).length = 8 := rfl
theorem dec_reads : ∀ (n : Nat) (s : ByteArray), s.size ≤ n → s.size ≤ 140 → ∀ (k : Nat) (out : List S45), out.length ≤ 16 → 2 * n + 20 ≤ k →
    ∃ m e, keycode_Decode.l0 k s out = some (m, e) ∧ Reads s.data.toList out m e := by
  intro n
  induction n with
  | zero =>
    intro s hn _ k out ho hk
    obtain ⟨j, rfl⟩ : ∃ j, k = j + 1 := ⟨k - 1, by omega⟩
    have h0 : s.toList = ([] : List UInt8) := (toList_ne s).2 (by omega)
    refine ⟨out, 0, by simp only [keycode_Decode.l0]; rw [if_pos h0], .inl ⟨rfl, ho, [], by simp, by simp, ?_⟩⟩
    rw [ByteArray.toList_eq] at h0
    rw [h0]
    rfl
  | succ n ih =>
    intro s hn hz k out ho hk
    obtain ⟨j, rfl⟩ : ∃ j, k = j + 2 := ⟨k - 2, by omega⟩
    by_cases h0 : s.size = 0
    · have h1 : s.toList = ([] : List UInt8) := (toList_ne s).2 h0
      refine ⟨out, 0, by simp only [keycode_Decode.l0]; rw [if_pos h1], .inl ⟨rfl, ho, [], by simp, by simp, ?_⟩⟩
      rw [ByteArray.toList_eq] at h1
      rw [h1]
      rfl
    · have h1 : ¬ s.toList = ([] : List UInt8) := fun e => h0 ((toList_ne s).1 e)
      obtain ⟨c, hc, hb⟩ := byte_list s (by omega)
      have hr : (s.extract 1 s.size).size = s.size - 1 := by rw [ByteArray.size_extract]; omega
      have hd := drop_str s 1
      obtain ⟨t, ht⟩ : ∃ t, t = s.extract 1 s.size := ⟨_, rfl⟩
      simp only [keycode_Decode.l0]
      rw [if_neg h1, if_pos (by omega), if_pos (by omega), ← ht, hb]
      rw [← ht] at hr hd
      rw [hc, ← hd]
      by_cases h16 : out.length = 16
      · rw [if_pos (by omega)]
        refine ⟨[], 5, rfl, .inr ⟨rfl, rfl, fun l hl hx => ?_⟩⟩
        cases l with
        | nil => simp [b8, bytesK] at hx
        | cons p l => simp; omega
      · rw [if_neg (by omega)]
        by_cases hm : (c.toNat : Int) = 16 ∧ 8 ≤ t.size
        · have c1 : (decide ((t.size : Int) ≥ 8)) = true := decide_eq_true (by omega)
          rw [if_pos hm.1, c1]
          simp only [keycode_Decode.j1]
          rw [if_pos trivial, number_eq j t (by omega) hm.2]
          simp only [Option.bind_some]
          rw [if_pos (by omega), if_pos (by omega)]
          have hV := V_rng t 0
          have hB := V_bytes t 0 (by omega)
          simp only [List.drop_zero, Nat.zero_add] at hB
          have hV0 : V t ((0 : Nat) : Int) = V t 0 := rfl
          rw [hV0] at hB
          have hd2 := drop_str t 8
          have hr2 : (t.extract 8 t.size).size = t.size - 8 := by rw [ByteArray.size_extract]; omega
          obtain ⟨m, e, hq, hR⟩ := ih (t.extract 8 t.size) (by omega) (by omega) j (out ++ [⟨1, V t 0 - 9223372036854775808, ⟨#[]⟩⟩]) (by simp; omega) (by omega)
          refine ⟨m, e, hq, ?_⟩
          rw [hd2] at hR
          obtain ⟨v, hv⟩ : ∃ v, v = V t 0 := ⟨_, rfl⟩
          rw [← hv] at hR hB hV
          have hg : Good ⟨1, v - 9223372036854775808, ⟨#[]⟩⟩ := ⟨⟨by simp, by simp only; omega, by show (0 : Nat) ≤ 150; omega⟩, by unfold whyP; rw [if_pos rfl, if_pos (show (⟨#[]⟩ : ByteArray).toList = [] from by rw [ByteArray.toList_eq])]⟩
          have hx : ∀ x, partB ⟨1, v - 9223372036854775808, ⟨#[]⟩⟩ ++ x = 16 :: (be8 v ++ x) := fun x => by
            rw [good_num rfl]
            show 16 :: be8 (v - 9223372036854775808 + 9223372036854775808) ++ x = _
            rw [Int.sub_add_cancel]
            rfl
          rcases hR with ⟨rfl, hlen, l, rfl, hl, hbl⟩ | ⟨rfl, rfl, hno⟩
          · refine .inl ⟨rfl, hlen, _ :: l, by rw [List.append_assoc]; rfl, fun p hp => ?_, ?_⟩
            · rcases List.mem_cons.1 hp with rfl | hp
              · exact hg
              · exact hl p hp
            · rw [b8_cons, bytesK, hx, ← hbl, hm.1, hB]
          · refine .inr ⟨rfl, rfl, fun l hl hbl => ?_⟩
            cases l with
            | nil => simp [b8, bytesK] at hbl
            | cons p l =>
              rcases b8_head (hl p (by simp)) hbl with ⟨_, p1, h2⟩ | ⟨h32, _⟩
              · rw [hB] at h2
                have h3 := (List.append_inj h2 rfl).2
                have := hno l (fun q hq => hl q (by simp [hq])) h3
                simp at this ⊢
                omega
              · omega
        · have c1 : (if (c.toNat : Int) = 16 then keycode_Decode.j1 (j + 1) t out (c.toNat : Int) (decide ((t.size : Int) ≥ 8)) else keycode_Decode.j1 (j + 1) t out (c.toNat : Int) false) = keycode_Decode.j1 (j + 1) t out (c.toNat : Int) false := by
            by_cases hc16 : (c.toNat : Int) = 16
            · rw [if_pos hc16, decide_eq_false (by omega)]
            · rw [if_neg hc16]
          rw [c1]
          clear c1
          simp only [keycode_Decode.j1]
          rw [if_neg (by simp)]
          by_cases h32 : (c.toNat : Int) = 32
          · rw [if_pos h32]
            unfold MKey.keycode_text.f Ext.keycode_text.f
            rw [if_pos (by omega)]
            simp only [Option.bind_some]
            obtain ⟨u, v, ok, hT⟩ : ∃ u v ok, txt t.data.toList [] 0 = (u, v, ok) := ⟨_, _, _, rfl⟩
            rw [hT]
            cases ok with
            | false =>
              refine ⟨[], 5, rfl, .inr ⟨rfl, rfl, fun l hl hbl => ?_⟩⟩
              cases l with
              | nil => simp [b8, bytesK] at hbl
              | cons p l =>
                exfalso
                rcases b8_head (hl p (by simp)) hbl with ⟨h3, _⟩ | ⟨_, _, h2⟩
                · omega
                · obtain ⟨y, hy⟩ := bytesK_b8 l (fun q hq => hl q (by simp [hq]))
                  rw [hy, ← b8_append] at h2
                  have h3 := b8_inj h2
                  simp only [List.append_assoc, List.cons_append, List.nil_append] at h3
                  rw [h3, txt_esc] at hT
                  simp at hT
            | true =>
              obtain ⟨w, rest, hw, hu, hv⟩ := txt_back _ _ (Nat.le_refl _) _ _ _ _ hT
              simp only [List.nil_append, Nat.zero_add] at hu hv
              have hsz : t.data.toList.length = t.size := rfl
              have hul : u.size = w.length := by rw [hu]; rfl
              have hlen := congrArg List.length hw
              simp only [List.length_append, List.length_cons, hsz] at hlen
              have hwl : w.length ≤ (escU w).length := by
                clear hw hu hv hlen hul hT
                induction w with
                | nil => simp
                | cons a w ihw => unfold escU; split <;> simp <;> omega
              simp only [if_true]
              by_cases h120 : (u.size : Int) > 120
              · rw [if_pos h120]
                refine ⟨[], 5, rfl, .inr ⟨rfl, rfl, fun l hl hbl => ?_⟩⟩
                cases l with
                | nil => simp [b8, bytesK] at hbl
                | cons p l =>
                  exfalso
                  rcases b8_head (hl p (by simp)) hbl with ⟨h3, _⟩ | ⟨_, p1, h2⟩
                  · omega
                  · obtain ⟨y, hy⟩ := bytesK_b8 l (fun q hq => hl q (by simp [hq]))
                    rw [hy, ← b8_append] at h2
                    have h3 := b8_inj h2
                    simp only [List.append_assoc, List.cons_append, List.nil_append] at h3
                    rw [hw] at h3
                    have h4 := (esc_ends _ _ _ _ h3).1
                    rcases good_cases (hl p (by simp)) with ⟨q1, _⟩ | ⟨_, _, q3⟩
                    · omega
                    · have : p.f2.size = w.length := by rw [h4]; rfl
                      omega
              · rw [if_neg h120]
                simp only [keycode_Text.f, Option.bind_some]
                have hvn : v.toNat = (escU w).length + 2 := by omega
                rw [if_pos (by omega), if_pos (by omega), if_pos (by omega), hvn]
                have hd2 := drop_str t ((escU w).length + 2)
                have hr2 : (t.extract ((escU w).length + 2) t.size).size = t.size - ((escU w).length + 2) := by rw [ByteArray.size_extract]; omega
                have hdr : t.data.toList.drop ((escU w).length + 2) = rest := by
                  rw [hw, List.drop_append]
                  simp
                obtain ⟨m, e, hq, hR⟩ := ih (t.extract ((escU w).length + 2) t.size) (by omega) (by omega) j (out ++ [⟨2, 0, u⟩]) (by simp; omega) (by omega)
                refine ⟨m, e, hq, ?_⟩
                rw [hd2, hdr] at hR
                have hg : Good ⟨2, 0, u⟩ := ⟨⟨by simp, by simp, by show u.size ≤ 150; omega⟩, by
                  unfold whyP
                  rw [if_neg (by simp), if_pos rfl, if_pos rfl, if_neg h120]⟩
                have hud : u.data.toList = w := by rw [hu]
                have hx : ∀ x, partB ⟨2, 0, u⟩ ++ x = 32 :: (b8 (escU w ++ [0, 1]) ++ x) := fun x => by
                  rw [good_text rfl, hud]; rfl
                have hb2 : b8 t.data.toList = b8 (escU w ++ [0, 1]) ++ b8 rest := by
                  rw [hw, ← b8_append]
                  simp
                rcases hR with ⟨rfl, hlen2, l, rfl, hl, hbl⟩ | ⟨rfl, rfl, hno⟩
                · refine .inl ⟨rfl, hlen2, _ :: l, by rw [List.append_assoc]; rfl, fun p hp => ?_, ?_⟩
                  · rcases List.mem_cons.1 hp with rfl | hp
                    · exact hg
                    · exact hl p hp
                  · rw [b8_cons, bytesK, hx, ← hbl, h32, hb2]
                · refine .inr ⟨rfl, rfl, fun l hl hbl => ?_⟩
                  cases l with
                  | nil => simp [b8, bytesK] at hbl
                  | cons p l =>
                    rcases b8_head (hl p (by simp)) hbl with ⟨h3, _⟩ | ⟨_, _, h2⟩
                    · omega
                    · obtain ⟨y, hy⟩ := bytesK_b8 l (fun q hq => hl q (by simp [hq]))
                      rw [hy, ← b8_append] at h2
                      have h3 := b8_inj h2
                      simp only [List.append_assoc, List.cons_append, List.nil_append] at h3
                      rw [hw] at h3
                      have h4 := (esc_ends _ _ _ _ h3).2
                      have := hno l (fun q hq => hl q (by simp [hq])) (by rw [h4, hy])
                      simp at this ⊢
                      omega
          · rw [if_neg h32]
            refine ⟨[], 5, rfl, .inr ⟨rfl, rfl, fun l hl hbl => ?_⟩⟩
            cases l with
            | nil => simp [b8, bytesK] at hbl
            | cons p l =>
              exfalso
              rcases b8_head (hl p (by simp)) hbl with ⟨h3, p1, h2⟩ | ⟨h3, _⟩
              · have h4 := congrArg List.length h2
                rw [b8_len, List.length_append, be8_len] at h4
                have hsz : t.data.toList.length = t.size := rfl
                omega
              · omega

/-! ### a key's bytes, once more -/
theorem encS_ok : ∀ (l : List S45) (acc : List Int) (s : ByteArray), encS l acc = (s, 0) ↔ (∀ p ∈ l, whyP p = 0) ∧ (acc ++ bytesK l).length ≤ 140 ∧ s = strOfNums (acc ++ bytesK l)
  | [], acc, s => by
    unfold encS
    simp only [bytesK, List.append_nil, List.not_mem_nil, false_imp_iff, implies_true, true_and]
    split
    · constructor
      · intro h; simp at h
      · intro ⟨h, _⟩; omega
    · constructor
      · intro h
        injection h with h1 _
        exact ⟨by omega, h1.symm⟩
      · intro ⟨_, h⟩
        rw [h]
  | p :: l, acc, s => by
    unfold encS
    by_cases hp : whyP p = 0
    · rw [if_pos hp, encS_ok l (acc ++ partB p) s, bytesK, List.append_assoc]
      simp [hp]
    · rw [if_neg hp]
      constructor
      · intro h
        injection h with _ h2
        exact absurd h2 hp
      · intro ⟨h, _⟩
        exact absurd (h p (by simp)) hp
theorem encK_ok (l : List S45) (s : ByteArray) : encK l = (s, 0) ↔ l.length ≤ 16 ∧ (∀ p ∈ l, whyP p = 0) ∧ (bytesK l).length ≤ 140 ∧ s = strOfNums (bytesK l) := by
  unfold encK
  split
  · constructor
    · intro h; simp at h
    · intro ⟨h, _⟩; omega
  · rw [encS_ok]
    simp only [List.nil_append]
    constructor
    · intro h; exact ⟨by omega, h⟩
    · intro h; exact h.2
/-- Decode answers the key whose bytes these are, or ErrForm, if there is none. -/
theorem dec_eq (s : ByteArray) (k : Nat) (hk : 320 ≤ k) : ∃ m e, keycode_Decode.f k s = some (m, e) ∧
    ((e = 0 ∧ (∀ p ∈ m, Good p) ∧ encK m = (s, 0)) ∨ (m = [] ∧ e = 5 ∧ ∀ l, (∀ p ∈ l, Good p) → encK l ≠ (s, 0))) := by
  unfold keycode_Decode.f
  by_cases h : (s.size : Int) > 140
  · rw [if_pos h]
    refine ⟨[], 5, rfl, .inr ⟨rfl, rfl, fun l _ hl => ?_⟩⟩
    obtain ⟨_, _, h1, h2⟩ := (encK_ok l s).1 hl
    have : s.size = (bytesK l).length := by rw [h2, nums_size]
    omega
  · rw [if_neg h]
    obtain ⟨m, e, hq, hR⟩ := dec_reads 140 s (by omega) (by omega) k [] (by simp) (by omega)
    refine ⟨m, e, hq, ?_⟩
    rcases hR with ⟨rfl, hlen, l, rfl, hl, hb⟩ | ⟨rfl, rfl, hno⟩
    · refine .inl ⟨rfl, hl, (encK_ok _ s).2 ⟨hlen, fun p hp => (hl p hp).2, ?_, ?_⟩⟩
      · rw [← hb, b8_len]
        show s.size ≤ 140
        omega
      · rw [← hb, str_data]
    · refine .inr ⟨rfl, rfl, fun l hl he => ?_⟩
      obtain ⟨h1, _, _, h2⟩ := (encK_ok l s).1 he
      obtain ⟨x, hx⟩ := bytesK_b8 l hl
      have h3 : b8 s.data.toList = bytesK l := by
        rw [h2, hx, str_b8]
      have := hno l hl h3
      simp at this
      omega
end Go.Proofs.Ythpleebfhanahaa.KP
