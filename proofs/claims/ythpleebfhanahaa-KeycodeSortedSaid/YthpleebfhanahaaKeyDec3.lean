/- The reference's Decode tells the same. -/
import Derived.Test.YthpleebfhanahaaKeyDec2
import Derived.Test.YthpleebfhanahaaMKeyx18
import Derived.Test.YthpleebfhanahaaMKeyx17
set_option linter.unusedSimpArgs false
set_option linter.unusedVariables false
namespace Go.Proofs.Ythpleebfhanahaa.KP
open Go.RowKit Go.Proofs.Ythpleebfhanahaa.MKey Go.Proofs.YthpleebfhanahaaW.PrintWords Go.Proofs.YthpleebfhanahaaW.PrintLast Go.Proofs.YthpleebfhanahaaW.PrintMore

theorem be8_b8 (u : Int) (h0 : 0 ≤ u) (h1 : u < 18446744073709551616) : ∃ z, 16 :: be8 u = b8 z := by
  refine ⟨(16 :: be8 u).map fun n => UInt8.ofNat n.toNat, ?_⟩
  have hr : ∀ n ∈ (16 :: be8 u), 0 ≤ n ∧ n < 256 := by
    intro n hn
    unfold be8 at hn
    simp only [List.mem_cons, List.not_mem_nil, or_false] at hn
    omega
  unfold b8
  rw [List.map_map]
  conv => lhs; rw [← List.map_id (16 :: be8 u)]
  apply List.map_congr_left
  intro n hn
  obtain ⟨r0, r1⟩ := hr n hn
  show n = (((UInt8.ofNat n.toNat).toNat : Nat) : Int)
  rw [UInt8.toNat_ofNat']
  omega
theorem partB_b8 (p : S45) (h : Small p) : ∃ z, partB p = b8 z := by
  unfold partB
  split
  · exact be8_b8 _ (by have := h.2.1; omega) (by have := h.2.1; omega)
  · exact ⟨32 :: (escU p.f2.data.toList ++ [0, 1]), by rw [b8_cons, b8_append, esc_b8]; rfl⟩
theorem ext_list (s : ByteArray) (a n : Nat) : (s.extract a (a + n)).data.toList = (s.data.toList.drop a).take n := by
  simp [ByteArray.data_extract, Array.toList_extract, List.extract]
theorem enc_ref (l : List S45) (hp : ∀ p ∈ l, Small p) (k : Nat) (hk : 190 ≤ k) : aquiferref03_Encode.f k l = some (encK l) := by
  by_cases h : l.length ≤ 20
  · exact (enc_eq l h hp k hk).2
  · unfold aquiferref03_Encode.f encK
    rw [if_pos (by omega), if_pos (by omega)]

/-- What stands behind the making of a part. -/
def tailR (k : Nat) (s : ByteArray) (out : List S45) (i : Int) (p : S45) : Option (List S45 × Int) :=
  if out.length < 4398046511104 then ((aquiferref03_bytes.f k p.f0 p.f1 p.f2).bind fun t => (if (wrap64 ((s.size : Int) - i)) < ((strOfNums t).size : Int) then (some (([] : List (S45)), 5)) else (if 0 ≤ i then (if i ≤ (wrap64 (i + ((strOfNums t).size : Int))) then (if (wrap64 (i + ((strOfNums t).size : Int))) ≤ (s.size : Int) then (if (s.extract (i : Int).toNat ((wrap64 (i + ((strOfNums t).size : Int))) : Int).toNat).toList = (strOfNums t).toList then (aquiferref03_Decode.l0 k s (out ++ [p]) (wrap64 (i + ((strOfNums t).size : Int)))) else (some (([] : List (S45)), 5))) else (none)) else (none)) else (none)))) else (none)
/-- What the reference answers from a place on. -/
def RefReads (s : ByteArray) (i : Nat) (out m : List S45) (e : Int) : Prop :=
  (e = 0 ∧ (∀ p ∈ m, Small p) ∧ encK m = (s, 0)) ∨
    (m = [] ∧ e = 5 ∧ ∀ l, (∀ p ∈ l, Good p) → b8 (s.data.toList.drop i) = bytesK l → encK (out ++ l) ≠ (s, 0))
theorem tail_reads (k : Nat) (s : ByteArray) (out : List S45) (i : Nat) (p : S45) (hk : 190 ≤ k) (hz : s.size ≤ 140) (hi : i < s.size) (ho : out.length ≤ i) (hp : Small p)
    (hu : ∀ q l, Good q → (∀ r ∈ l, Good r) → b8 (s.data.toList.drop i) = bytesK (q :: l) → q = p)
    (ih : i + (partB p).length ≤ s.size → ∃ m e, aquiferref03_Decode.l0 k s (out ++ [p]) ((i + (partB p).length : Nat) : Int) = some (m, e) ∧ RefReads s (i + (partB p).length) (out ++ [p]) m e) :
    ∃ m e, tailR k s out (i : Int) p = some (m, e) ∧ RefReads s i out m e := by
  have hlen := partB_len p
  have hp150 := hp.2.2
  have hn : ∀ l, (∀ r ∈ l, Good r) → b8 (s.data.toList.drop i) = bytesK l → ∃ l', l = p :: l' ∧ (∀ r ∈ l', Good r) ∧ b8 (s.data.toList.drop i) = partB p ++ bytesK l' := by
    intro l hl hb
    cases l with
    | nil =>
      exfalso
      have := congrArg List.length hb
      rw [b8_len, List.length_drop] at this
      have h2 : s.data.toList.length = s.size := rfl
      simp [bytesK] at this
      rw [← h2] at hi
      simp at hi
      omega
    | cons q l' =>
      have hq := hu q l' (hl q (by simp)) (fun r hr => hl r (by simp [hr])) hb
      subst hq
      exact ⟨l', rfl, fun r hr => hl r (by simp [hr]), hb⟩
  have hsz : s.data.toList.length = s.size := rfl
  obtain ⟨z, hz2⟩ := partB_b8 p hp
  have hzl : (partB p).length = z.length := by rw [hz2, b8_len]
  unfold tailR
  rw [if_pos (by omega), bytes_ref k p hp (by omega)]
  simp only [Option.bind_some, nums_size]
  rw [wrap64_small (by omega) (by omega), wrap64_small (by omega) (by omega)]
  by_cases h1 : (s.size : Int) - (i : Int) < ((partB p).length : Int)
  · rw [if_pos h1]
    refine ⟨[], 5, rfl, .inr ⟨rfl, rfl, fun l hl hb => ?_⟩⟩
    obtain ⟨l', _, _, h3⟩ := hn l hl hb
    have := congrArg List.length h3
    rw [b8_len, List.length_drop, List.length_append, hsz] at this
    omega
  · rw [if_neg h1, if_pos (by omega), if_pos (by omega), if_pos (by omega)]
    have e1 : ((i : Int) + ((partB p).length : Int)).toNat = i + (partB p).length := by omega
    have e2 : (i : Int).toNat = i := by omega
    rw [e1, e2, ByteArray.toList_eq, ByteArray.toList_eq, ext_list, hz2, str_b8, b8_len]
    show ∃ m e, (if List.take z.length (List.drop i s.data.toList) = z then _ else _) = some (m, e) ∧ _
    by_cases h2 : List.take z.length (List.drop i s.data.toList) = z
    · rw [if_pos h2]
      obtain ⟨m, e, hq, hR⟩ := ih (by omega)
      rw [hzl] at hq hR
      refine ⟨m, e, hq, ?_⟩
      rcases hR with hR | ⟨rfl, rfl, hno⟩
      · exact .inl hR
      · refine .inr ⟨rfl, rfl, fun l hl hb => ?_⟩
        obtain ⟨l', rfl, hl', h3⟩ := hn l hl hb
        have h4 : b8 (s.data.toList.drop (i + z.length)) = bytesK l' := by
          rw [← List.drop_drop, b8_drop, h3, hz2, ← b8_len z, List.drop_left]
        have := hno l' hl' h4
        rw [List.append_assoc] at this
        exact this
    · rw [if_neg h2]
      refine ⟨[], 5, rfl, .inr ⟨rfl, rfl, fun l hl hb => ?_⟩⟩
      obtain ⟨l', _, _, h3⟩ := hn l hl hb
      exfalso
      apply h2
      apply b8_inj
      have : b8 (List.take z.length (List.drop i s.data.toList)) = (b8 (List.drop i s.data.toList)).take z.length := List.map_take
      rw [this, h3, hz2, ← b8_len z, List.take_left]
theorem ref_num (K : Nat) (s : ByteArray) (out : List S45) (i : Nat) (hi : i + 9 ≤ s.size) (hz : s.size ≤ 140) :
    aquiferref03_Decode.l1 (K + 9) s out (i : Int) 0 1 = tailR K s out (i : Int) ⟨1, V s ((i + 1 : Nat) : Int) - 9223372036854775808, ⟨#[]⟩⟩ := by
  have r := bt_rng s
  have step : ∀ (n : Nat) (u : Int) (j : Nat), 1 ≤ j → j ≤ 8 → 0 ≤ u → u < 72057594037927936 →
      aquiferref03_Decode.l1 (n + 1) s out (i : Int) u (j : Int) = aquiferref03_Decode.l1 n s out (i : Int) (u * 256 + bt s ((i + j : Nat) : Int)) ((j + 1 : Nat) : Int) := by
    intro n u j h0 h1 h2 h3
    have hb := r ((i + j : Nat) : Int)
    have e1 : wrap64 ((i : Int) + (j : Int)) = ((i + j : Nat) : Int) := by rw [wrap64_small (by omega) (by omega)]; omega
    simp only [aquiferref03_Decode.l1]
    rw [if_pos (by omega), e1]
    clear e1
    rw [if_pos (by omega), if_pos (by omega), wrap_succ j (by omega)]
    have e2 : IntKind.u64.wrap (IntKind.u64.wrap (u * 256) + IntKind.u64.wrap (bt s ((i + j : Nat) : Int))) = u * 256 + bt s ((i + j : Nat) : Int) := by
      simp only [u64_wrap]; omega
    rw [e2]
  have hr : ∀ j, 0 ≤ bt s ((i + j : Nat) : Int) ∧ bt s ((i + j : Nat) : Int) ≤ 255 := fun j => r _
  have r1 := hr 1; have r2 := hr 2; have r3 := hr 3; have r4 := hr 4; have r5 := hr 5; have r6 := hr 6; have r7 := hr 7
  show aquiferref03_Decode.l1 (K + 9) s out (i : Int) 0 ((1 : Nat) : Int) = _
  rw [step (K + 8) 0 1 (by omega) (by omega) (by omega) (by omega), Int.zero_mul, Int.zero_add,
    step (K + 7) _ 2 (by omega) (by omega) (by omega) (by omega), step (K + 6) _ 3 (by omega) (by omega) (by omega) (by omega),
    step (K + 5) _ 4 (by omega) (by omega) (by omega) (by omega), step (K + 4) _ 5 (by omega) (by omega) (by omega) (by omega),
    step (K + 3) _ 6 (by omega) (by omega) (by omega) (by omega), step (K + 2) _ 7 (by omega) (by omega) (by omega) (by omega),
    step (K + 1) _ 8 (by omega) (by omega) (by omega) (by omega)]
  have eV : V s ((i + 1 : Nat) : Int) = ((((((bt s ((i + 1 : Nat) : Int) * 256 + bt s ((i + 2 : Nat) : Int)) * 256 + bt s ((i + 3 : Nat) : Int)) * 256 + bt s ((i + 4 : Nat) : Int)) * 256 + bt s ((i + 5 : Nat) : Int)) * 256 + bt s ((i + 6 : Nat) : Int)) * 256 + bt s ((i + 7 : Nat) : Int)) * 256 + bt s ((i + 8 : Nat) : Int) := rfl
  rw [← eV]
  clear eV
  have hV := V_rng s ((i + 1 : Nat) : Int)
  generalize V s ((i + 1 : Nat) : Int) = v at hV ⊢
  have e3 : wrap64 (IntKind.u64.wrap (v - 9223372036854775808)) = v - 9223372036854775808 := by
    rw [u64_wrap]; unfold wrap64; omega
  simp only [aquiferref03_Decode.l1, tailR]
  rw [if_neg (by omega), e3]
theorem ref_text (K : Nat) (s : ByteArray) (out : List S45) (i : Nat) (hz : s.size ≤ 140) : ∀ (d j k : Nat) (S : ByteArray), s.size ≤ j + d → j ≤ s.size + 1 → S.size ≤ j → 2 * d + 2 + K ≤ k →
    ∃ (k' : Nat) (S' : ByteArray), K ≤ k' ∧ aquiferref03_Decode.l2 k s out (i : Int) (j : Int) 2 0 S = tailR k' s out (i : Int) ⟨2, 0, S'⟩ ∧ S'.size ≤ 141 ∧
      ∀ u rest, s.data.toList.drop j = escU u ++ 0 :: 1 :: rest → S'.data.toList = S.data.toList ++ u := by
  intro d
  induction d with
  | zero =>
    intro j k S hj hj2 hS hk
    obtain ⟨m, rfl⟩ : ∃ m, k = m + 2 := ⟨k - 2, by omega⟩
    refine ⟨m, S, by omega, ?_, by omega, fun u rest h => ?_⟩
    · simp only [aquiferref03_Decode.l2, aquiferref03_Decode.j4, tailR]
      rw [if_neg (by omega), if_neg (by simp)]
    · rw [List.drop_eq_nil_of_le (by show s.size ≤ j; omega)] at h
      cases u with
      | nil => simp [escU] at h
      | cons a u =>
        unfold escU at h
        split at h <;> simp at h
  | succ d ih =>
    intro j k S hj hj2 hS hk
    obtain ⟨m, rfl⟩ : ∃ m, k = m + 2 := ⟨k - 2, by omega⟩
    by_cases hjz : j < s.size
    · obtain ⟨c, hc, hb⟩ := bt_drop s j hjz
      have hx : (s.extract j (j + 1)).data.toList = [c] := by rw [ext_list, hc]; rfl
      have hxs : (s.extract j (j + 1)).size = 1 := by rw [ByteArray.size_extract]; omega
      have hSx : (S ++ s.extract j (j + 1)).data.toList = S.data.toList ++ [c] := by
        rw [ByteArray.data_append, Array.toList_append, hx]
      have hSz : (S ++ s.extract j (j + 1)).size = S.size + 1 := by rw [ByteArray.size_append, hxs]
      have e2 : (j : Int).toNat = j := by omega
      have e3 : ((j + 1 : Nat) : Int).toNat = j + 1 := by omega
      -- going on behind one byte
      have go : ∀ (b : Bool), b = true → aquiferref03_Decode.j4 (m + 1) s out (i : Int) (j : Int) b 2 0 S =
          (if (c.toNat : Int) = 0 then aquiferref03_Decode.l2 m s out (i : Int) ((j + 2 : Nat) : Int) 2 0 (S ++ s.extract j (j + 1)) else aquiferref03_Decode.l2 m s out (i : Int) ((j + 1 : Nat) : Int) 2 0 (S ++ s.extract j (j + 1))) := by
        intro b hb2
        simp only [aquiferref03_Decode.j4]
        rw [if_pos hb2, if_pos (by omega), wrap_succ j (by omega), if_pos (by omega), if_pos (by omega), e2, e3, if_pos (by omega), if_pos (by omega), hb, wrap_succ (j + 1) (by omega)]
      by_cases h0 : (c.toNat : Int) = 0
      · have hc0 : c = 0 := UInt8.toNat_inj.mp (by show c.toNat = 0; omega)
        by_cases h1 : j + 1 < s.size
        · obtain ⟨c', hc', hb'⟩ := bt_drop s (j + 1) h1
          by_cases h2 : (c'.toNat : Int) = 1
          · have hc1 : c' = 1 := UInt8.toNat_inj.mp (by show c'.toNat = 1; omega)
            refine ⟨m, S, by omega, ?_, by omega, fun u rest h => ?_⟩
            · simp only [aquiferref03_Decode.l2]
              rw [if_pos (by omega), if_pos (by omega), hb, if_pos h0, wrap_succ j (by omega), if_pos (by omega), if_pos (by omega), hb']
              have : (!((c'.toNat : Int) == 1)) = false := by simp [h2]
              rw [this]
              simp only [aquiferref03_Decode.j4, tailR]
              rw [if_neg (by simp)]
            · rw [hc, hc', hc0, hc1] at h
              cases u with
              | nil => simp
              | cons a u =>
                exfalso
                unfold escU at h
                split at h
                · simp at h
                · rename_i ha
                  simp at h
                  exact ha h.1.symm
          · have hn : (!((c'.toNat : Int) == 1)) = true := by simp [h2]
            obtain ⟨k', S', hk', hq, hs', hu⟩ := ih (j + 2) m (S ++ s.extract j (j + 1)) (by omega) (by omega) (by omega) (by omega)
            refine ⟨k', S', hk', ?_, hs', fun u rest h => ?_⟩
            · simp only [aquiferref03_Decode.l2]
              rw [if_pos (by omega), if_pos (by omega), hb, if_pos h0, wrap_succ j (by omega), if_pos (by omega), if_pos (by omega), hb', go _ hn, if_pos h0]
              exact hq
            · rw [hc, hc', hc0] at h
              cases u with
              | nil =>
                exfalso
                simp [escU] at h
                apply h2
                rw [h.1]
                rfl
              | cons a u =>
                unfold escU at h
                split at h
                · rename_i ha
                  simp only [List.cons_append, List.cons.injEq, true_and] at h
                  rw [hu u rest h.2, hSx, hc0, ha, List.append_assoc]
                  rfl
                · rename_i ha
                  exfalso
                  simp at h
                  exact ha h.1.symm
        · obtain ⟨k', S', hk', hq, hs', hu⟩ := ih (j + 2) m (S ++ s.extract j (j + 1)) (by omega) (by omega) (by omega) (by omega)
          refine ⟨k', S', hk', ?_, hs', fun u rest h => ?_⟩
          · simp only [aquiferref03_Decode.l2]
            rw [if_pos (by omega), if_pos (by omega), hb, if_pos h0, wrap_succ j (by omega), if_neg (by omega), go (!false) rfl, if_pos h0]
            exact hq
          · exfalso
            have h5 : s.data.toList.drop (j + 1) = [] := List.drop_eq_nil_of_le (by show s.size ≤ j + 1; omega)
            rw [hc, h5] at h
            cases u with
            | nil => simp [escU] at h
            | cons a u =>
              unfold escU at h
              split at h <;> simp at h
      · have hc0 : ¬ c = 0 := fun e => h0 (by rw [e]; rfl)
        obtain ⟨k', S', hk', hq, hs', hu⟩ := ih (j + 1) m (S ++ s.extract j (j + 1)) (by omega) (by omega) (by omega) (by omega)
        refine ⟨k', S', hk', ?_, hs', fun u rest h => ?_⟩
        · simp only [aquiferref03_Decode.l2]
          rw [if_pos (by omega), if_pos (by omega), hb, if_neg h0, go (!false) rfl, if_neg h0]
          exact hq
        · rw [hc] at h
          cases u with
          | nil =>
            exfalso
            simp [escU] at h
            exact hc0 h.1
          | cons a u =>
            unfold escU at h
            split at h
            · exfalso
              simp at h
              exact hc0 h.1
            · rename_i ha
              simp only [List.cons_append, List.cons.injEq] at h
              rw [hu u rest h.2, hSx, h.1, List.append_assoc]
              rfl
    · obtain ⟨k', S', hk', hq, hs', hu⟩ : ∃ (k' : Nat) (S' : ByteArray), K ≤ k' ∧ aquiferref03_Decode.l2 (m + 2) s out (i : Int) (j : Int) 2 0 S = tailR k' s out (i : Int) ⟨2, 0, S'⟩ ∧ S'.size ≤ 141 ∧ S' = S := by
        refine ⟨m, S, by omega, ?_, by omega, rfl⟩
        simp only [aquiferref03_Decode.l2, aquiferref03_Decode.j4, tailR]
        rw [if_neg (by omega), if_neg (by simp)]
      refine ⟨k', S', hk', hq, hs', fun u rest h => ?_⟩
      rw [List.drop_eq_nil_of_le (by show s.size ≤ j; omega)] at h
      cases u with
      | nil => simp [escU] at h
      | cons a u =>
        unfold escU at h
        split at h <;> simp at h
theorem ref_reads (s : ByteArray) (hz : s.size ≤ 140) : ∀ (d i k : Nat) (out : List S45), i + d = s.size → out.length ≤ i → (∀ p ∈ out, Small p) → 400 * d + 200 ≤ k →
    ∃ m e, aquiferref03_Decode.l0 k s out (i : Int) = some (m, e) ∧ RefReads s i out m e := by
  intro d
  induction d using Nat.strongRecOn with
  | _ d ih =>
    intro i k out hi ho hs hk
    obtain ⟨k, rfl⟩ : ∃ m, k = m + 1 := ⟨k - 1, by omega⟩
    by_cases hd : d = 0
    · simp only [aquiferref03_Decode.l0]
      rw [if_neg (by omega), enc_ref out hs k (by omega)]
      simp only [Option.bind_some]
      have hnil : s.data.toList.drop i = [] := List.drop_eq_nil_of_le (by show s.size ≤ i; omega)
      obtain ⟨t, e, hte⟩ : ∃ t e, encK out = (t, e) := ⟨_, _, rfl⟩
      have bad : encK out ≠ (s, 0) → ∀ l, (∀ p ∈ l, Good p) → b8 (s.data.toList.drop i) = bytesK l → encK (out ++ l) ≠ (s, 0) := by
        intro hne l hl hb
        cases l with
        | nil => rw [List.append_nil]; exact hne
        | cons p l =>
          exfalso
          have := partB_pos p
          have h1 := congrArg List.length hb
          rw [hnil, bytesK, List.length_append] at h1
          simp [b8] at h1
          omega
      rw [hte]
      by_cases he : e = 0
      · simp only [if_pos he]
        by_cases h1 : t.toList = s.toList
        · rw [if_pos h1]
          rw [ByteArray.toList_eq, ByteArray.toList_eq] at h1
          refine ⟨out, 0, rfl, .inl ⟨rfl, hs, by rw [hte, he, Go.WideShapes.bytes_inj h1]⟩⟩
        · rw [if_neg h1]
          exact ⟨[], 5, rfl, .inr ⟨rfl, rfl, bad (fun h => h1 (by rw [hte] at h; injection h with h2 _; rw [h2]))⟩⟩
      · simp only [if_neg he]
        exact ⟨[], 5, rfl, .inr ⟨rfl, rfl, bad (fun h => he (by rw [hte] at h; injection h))⟩⟩
    · have hil : i < s.size := by omega
      obtain ⟨c, hc, hb⟩ := bt_drop s i hil
      simp only [aquiferref03_Decode.l0]
      rw [if_pos (by omega), if_pos (by omega), hb]
      obtain ⟨K, hK⟩ : ∃ K, k = K + 400 := ⟨k - 400, by omega⟩
      have ih2 : ∀ (K' : Nat) (p : S45), Small p → 400 * (d - 1) + 200 ≤ K' → i + (partB p).length ≤ s.size → ∃ m e, aquiferref03_Decode.l0 K' s (out ++ [p]) ((i + (partB p).length : Nat) : Int) = some (m, e) ∧ RefReads s (i + (partB p).length) (out ++ [p]) m e := by
        intro K' p hp hK' hle
        have h1 := partB_pos p
        exact ih (d - (partB p).length) (by omega) (i + (partB p).length) K' (out ++ [p]) (by omega) (by simp; omega) (fun q hq => by
          rcases List.mem_append.1 hq with hq | hq
          · exact hs q hq
          · rw [List.mem_singleton.1 hq]; exact hp) (by omega)
      by_cases hm : (c.toNat : Int) = 16 ∧ i + 9 ≤ s.size
      · have e1 : decide (wrap64 ((s.size : Int) - (i : Int)) ≥ 9) = true := by
          rw [wrap64_small (by omega) (by omega)]
          exact decide_eq_true (by omega)
        rw [if_pos hm.1, e1, hK]
        obtain ⟨K2, hK2⟩ : ∃ K2, K + 400 = K2 + 9 + 1 := ⟨K + 390, by omega⟩
        rw [hK2]
        simp only [aquiferref03_Decode.j1, if_true]
        rw [ref_num K2 s out i hm.2 hz]
        have hV := V_rng s ((i + 1 : Nat) : Int)
        have hB := V_bytes s (i + 1) (by omega)
        generalize V s ((i + 1 : Nat) : Int) = v at hV hB ⊢
        have hsm : Small ⟨1, v - 9223372036854775808, ⟨#[]⟩⟩ := ⟨by simp, by simp only; omega, by show (0 : Nat) ≤ 150; omega⟩
        refine tail_reads K2 s out i _ (by omega) hz hil ho hsm (fun q l hq hl h => ?_) (fun hle => ih2 K2 _ hsm (by omega) hle)
        rw [hc] at h
        rcases b8_head hq h with ⟨_, q1, h2⟩ | ⟨h3, _⟩
        · rw [hB] at h2
          have h4 := (List.append_inj h2 rfl).1
          have rq := hq.1.2.1
          have h5 := be8_inj hV.1 hV.2 (by omega) (by omega) h4
          rcases good_cases hq with ⟨_, q2⟩ | ⟨q2, _⟩
          · obtain ⟨a, b, c⟩ := q
            simp only at q1 q2 h5
            rw [q1, q2, show b = v - 9223372036854775808 by omega]
          · omega
        · omega
      · have e1 : (if (c.toNat : Int) = 16 then aquiferref03_Decode.j1 k s out (i : Int) (decide (wrap64 ((s.size : Int) - (i : Int)) ≥ 9)) else aquiferref03_Decode.j1 k s out (i : Int) false) = aquiferref03_Decode.j1 k s out (i : Int) false := by
          by_cases h1 : (c.toNat : Int) = 16
          · rw [if_pos h1, wrap64_small (by omega) (by omega), decide_eq_false (by omega)]
          · rw [if_neg h1]
        rw [e1, hK]
        clear e1
        obtain ⟨K2, hK2⟩ : ∃ K2, K + 400 = K2 + 1 := ⟨K + 399, by omega⟩
        rw [hK2]
        simp only [aquiferref03_Decode.j1]
        rw [if_neg (by simp), wrap_succ i (by omega)]
        obtain ⟨k', S', hk', hq, hs', hu⟩ := ref_text (400 * (d - 1) + 200) s out i hz 141 (i + 1) K2 ⟨#[]⟩ (by omega) (by omega) (by show (0 : Nat) ≤ i + 1; omega) (by omega)
        rw [hq]
        have hsm : Small ⟨2, 0, S'⟩ := ⟨by simp, by simp, by show S'.size ≤ 150; omega⟩
        refine tail_reads k' s out i _ (by omega) hz hil ho hsm (fun q l hq2 hl h => ?_) (fun hle => ih2 k' _ hsm (by omega) hle)
        rw [hc] at h
        rcases b8_head hq2 h with ⟨h3, q1, h2⟩ | ⟨h3, q1, h2⟩
        · exfalso
          have h4 := congrArg List.length h2
          rw [b8_len, List.length_append, be8_len, List.length_drop] at h4
          have hsz : s.data.toList.length = s.size := rfl
          omega
        · obtain ⟨y, hy⟩ := bytesK_b8 l hl
          rw [hy, ← b8_append] at h2
          have h5 := b8_inj h2
          simp only [List.append_assoc, List.cons_append, List.nil_append] at h5
          have h6 := hu _ _ h5
          rcases good_cases hq2 with ⟨q2, _⟩ | ⟨_, q2, _⟩
          · omega
          · obtain ⟨a, b, z⟩ := q
            simp only at q1 q2 h6
            have h7 : S'.data.toList = z.data.toList := by rw [h6]; rfl
            rw [q1, q2, Go.WideShapes.bytes_inj h7]
theorem ref_dec_eq (s : ByteArray) (k : Nat) (hk : 60000 ≤ k) : ∃ m e, aquiferref03_Decode.f k s = some (m, e) ∧
    ((e = 0 ∧ (∀ p ∈ m, Good p) ∧ encK m = (s, 0)) ∨ (m = [] ∧ e = 5 ∧ ∀ l, (∀ p ∈ l, Good p) → encK l ≠ (s, 0))) := by
  unfold aquiferref03_Decode.f
  by_cases h : (s.size : Int) > 140
  · rw [if_pos h]
    refine ⟨[], 5, rfl, .inr ⟨rfl, rfl, fun l _ hl => ?_⟩⟩
    obtain ⟨_, _, h1, h2⟩ := (encK_ok l s).1 hl
    have : s.size = (bytesK l).length := by rw [h2, nums_size]
    omega
  · rw [if_neg h]
    obtain ⟨m, e, hq, hR⟩ := ref_reads s (by omega) s.size 0 k [] (by omega) (by simp) (by simp) (by omega)
    have h0 : ((0 : Nat) : Int) = 0 := rfl
    rw [h0] at hq
    refine ⟨m, e, hq, ?_⟩
    rcases hR with ⟨rfl, hl, he⟩ | ⟨rfl, rfl, hno⟩
    · exact .inl ⟨rfl, fun p hp => ⟨hl p hp, ((encK_ok m s).1 he).2.1 p hp⟩, he⟩
    · refine .inr ⟨rfl, rfl, fun l hl he => ?_⟩
      obtain ⟨h1, _, _, h2⟩ := (encK_ok l s).1 he
      obtain ⟨x, hx⟩ := bytesK_b8 l hl
      have h3 : b8 (s.data.toList.drop 0) = bytesK l := by
        rw [List.drop_zero, h2, hx, str_b8]
      exact hno l hl h3 he
theorem encK_inj {a b : List S45} {s : ByteArray} (ha : ∀ p ∈ a, Good p) (hb : ∀ p ∈ b, Good p) (h1 : encK a = (s, 0)) (h2 : encK b = (s, 0)) : a = b := by
  obtain ⟨_, _, _, e1⟩ := (encK_ok a s).1 h1
  obtain ⟨_, _, _, e2⟩ := (encK_ok b s).1 h2
  obtain ⟨x, hx⟩ := bytesK_b8 a ha
  obtain ⟨y, hy⟩ := bytesK_b8 b hb
  rw [hx, str_b8] at e1
  rw [hy, str_b8] at e2
  have h3 : x = y := by
    have h4 : (⟨x.toArray⟩ : ByteArray).data.toList = (⟨y.toArray⟩ : ByteArray).data.toList := by rw [← e1, ← e2]
    simpa using h4
  exact bytesK_inj ha hb (by rw [hx, hy, h3])
theorem same_self (l : List S45) (hl : l.length ≤ 1000) (k : Nat) (hk : 1001 ≤ k) : aquiferref03_Same.f k l l = some true := by
  unfold aquiferref03_Same.f
  rw [if_pos rfl]
  have key : ∀ (d k i : Nat), i + d = l.length → d < k → aquiferref03_Same.l0 k l l (i : Int) = some true := by
    intro d
    induction d with
    | zero =>
      intro k i hi hk
      obtain ⟨m, rfl, _⟩ := up1 hk
      simp only [aquiferref03_Same.l0]
      rw [if_neg (by omega)]
    | succ d ih =>
      intro k i hi hk
      obtain ⟨m, rfl, hm⟩ := up1 hk
      simp only [aquiferref03_Same.l0]
      rw [if_pos (by omega), if_pos (by omega), if_pos (by omega), if_neg (by simp), wrap_succ i (by omega)]
      exact ih m (i + 1) (by omega) (by omega)
  exact key l.length k 0 (by omega) (by omega)
end Go.Proofs.Ythpleebfhanahaa.KP
