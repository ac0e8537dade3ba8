/- scullerylaw14.PolicyYounger tells true of every two ages and lifetimes and every pair of rules. No condition. -/
import Derived.Lib.TrimUEq
import Derived.Shelf.GgClosure.StringsTrimFunc
namespace Go.Proofs.YtebfpnbnoinhbaaGreatDoor.Q
open Go Go.Lib
set_option linter.unusedVariables false
set_option linter.unusedSimpArgs false
def blankC (c : UInt8) : Bool := c == 32 || c == 9
def trimLL (l : List UInt8) : List UInt8 := l.dropWhile blankC
def trimRL (l : List UInt8) : List UInt8 := (l.reverse.dropWhile blankC).reverse
def trimS (s : ByteArray) : ByteArray := ⟨(trimRL (trimLL s.data.toList)).toArray⟩
def blankN (r : Nat) : Bool := r == 32 || r == 9
theorem blankN_toNat (c : UInt8) : blankN c.toNat = blankC c := by
  unfold blankN blankC
  congr 1
  · rw [Bool.eq_iff_iff]; simp [← UInt8.toNat_inj]
  · rw [Bool.eq_iff_iff]; simp [← UInt8.toNat_inj]
theorem blankN_high (r : Nat) (h : 128 ≤ r) : blankN r = false := by unfold blankN; simp; omega
theorem blankC_high (c : UInt8) (h : 128 ≤ c.toNat) : blankC c = false := by rw [← blankN_toNat]; exact blankN_high _ h
theorem decodeN_high (n b0 b1 b2 b3 : Nat) (h : 128 ≤ b0) : 128 ≤ (decodeN n b0 b1 b2 b3).1 := by
  unfold decodeN
  repeat' split
  all_goals simp_all [Utf8.runeError]
  all_goals omega
theorem decodeL_high (l : List UInt8) (h : 128 ≤ (l.getD 0 0).toNat) : 128 ≤ (decodeL l).1 := by
  rw [decodeL_N]
  exact decodeN_high _ _ _ _ _ h
theorem decodeL_ascii (l : List UInt8) (h : (l.getD 0 0).toNat < 128) : decodeL l = ((l.getD 0 0).toNat, 1) := by
  rw [decodeL_N, decodeN_ascii _ _ _ _ _ h]
theorem blank_head (l : List UInt8) : blankN (decodeL l).1 = blankC (l.getD 0 0) := by
  by_cases h : (l.getD 0 0).toNat < 128
  · rw [decodeL_ascii l h]
    exact blankN_toNat _
  · rw [blankN_high _ (decodeL_high l (by omega)), blankC_high _ (by omega)]
theorem width_blank (l : List UInt8) (h : blankC (l.getD 0 0) = true) : (decodeL l).2 = 1 := by
  by_cases h1 : (l.getD 0 0).toNat < 128
  · rw [decodeL_ascii l h1]
  · rw [blankC_high _ (by omega)] at h
    cases h
theorem left_is (s : ByteArray) : ∀ (f pos : Nat), s.size ≤ pos + f → pos ≤ s.size →
    s.data.toList.drop (if idxFuncFrom blankN false s f pos = -1 then s.size else (idxFuncFrom blankN false s f pos).toNat) = trimLL (s.data.toList.drop pos)
  | 0, pos, h, h2 => by
    have e : pos = s.size := by omega
    subst e
    simp only [idxFuncFrom, if_true]
    rw [List.drop_eq_nil_of_le (by rw [Array.length_toList]; exact Nat.le_refl _)]
    rfl
  | f + 1, pos, h, h2 => by
    unfold idxFuncFrom
    by_cases hp : pos < s.size
    · rw [if_pos hp]
      have hlt : pos < s.data.toList.length := by rw [Array.length_toList]; exact hp
      have hd : s.data.toList.drop pos = s.data.toList[pos] :: s.data.toList.drop (pos + 1) := List.drop_eq_getElem_cons hlt
      have hg : (s.data.toList.drop pos).getD 0 0 = s.data.toList[pos] := by rw [hd]; rfl
      have hb := blank_head (s.data.toList.drop pos)
      rw [decodeL_drop s pos, hg] at hb
      rw [hb]
      by_cases hbl : blankC s.data.toList[pos] = true
      · have hw := width_blank (s.data.toList.drop pos) (by rw [hg]; exact hbl)
        rw [decodeL_drop s pos] at hw
        rw [hbl, hw]
        simp only [Bool.true_eq_false, if_false]
        have ih := left_is s f (pos + 1) (by omega) (by omega)
        rw [ih, hd]
        unfold trimLL
        rw [List.dropWhile_cons, if_pos hbl]
      · have hbl' : blankC s.data.toList[pos] = false := by simpa using hbl
        rw [hbl']
        simp only [if_true]
        have hne : ¬ ((pos : Int) = -1) := by omega
        rw [if_neg hne]
        simp only [Int.toNat_natCast]
        unfold trimLL
        rw [hd, List.dropWhile_cons, if_neg hbl]
    · have e : pos = s.size := by omega
      rw [if_neg hp]
      subst e
      simp only [if_true]
      rw [List.drop_eq_nil_of_le (by rw [Array.length_toList]; exact Nat.le_refl _)]
      rfl
theorem trimLeftF_is (s : ByteArray) : (trimLeftF blankN s).data.toList = trimLL s.data.toList := by
  have h := left_is s s.size 0 (by omega) (by omega)
  rw [List.drop_zero] at h
  rw [← h]
  unfold trimLeftF idxFunc
  by_cases e : idxFuncFrom blankN false s s.size 0 = -1
  · rw [if_pos e, if_pos e, List.drop_eq_nil_of_le (by rw [Array.length_toList]; exact Nat.le_refl _)]
  · rw [if_neg e, if_neg e, extract_data, List.take_of_length_le (by rw [List.length_drop, ← size_eq]; exact Nat.le_refl _)]
def endOf (s : ByteArray) (r : Int) : Nat := if 0 ≤ r then r.toNat + (decodeGoB (s.extract r.toNat s.size)).2 else 0
theorem take_last (l : List UInt8) (i : Nat) (h0 : 0 < i) (h : i ≤ l.length) : l.take i = l.take (i - 1) ++ [l.getD (i - 1) 0] := by
  have h1 : i - 1 < l.length := by omega
  have : l.take (i - 1 + 1) = l.take (i - 1) ++ [l[i - 1]] := List.take_succ_eq_append_getElem h1
  rw [show i - 1 + 1 = i by omega] at this
  rw [this]
  simp [List.getD_eq_getElem?_getD, h1]
theorem trimRL_snoc (l : List UInt8) (c : UInt8) : trimRL (l ++ [c]) = if blankC c = true then trimRL l else l ++ [c] := by
  unfold trimRL
  rw [List.reverse_append, List.reverse_singleton, List.singleton_append, List.dropWhile_cons]
  split
  · rfl
  · simp
theorem right_is (s : ByteArray) : ∀ (f i : Nat), i ≤ f → i ≤ s.data.toList.length → OpenAt s.data.toList i →
    s.data.toList.take (endOf s (lastIdxFuncFrom blankN false s f i)) = trimRL (s.data.toList.take i)
  | f, 0, hf, hi, ho => by
    rw [lastIdxFuncFrom_zero]
    simp [endOf, trimRL]
  | 0, i + 1, hf, hi, ho => by omega
  | f + 1, i + 1, hf, hi, ho => by
    unfold lastIdxFuncFrom
    rw [if_pos (Nat.succ_pos i)]
    have htl := take_last s.data.toList (i + 1) (by omega) hi
    simp only [Nat.add_sub_cancel] at htl
    have hcases := last_cases s.data.toList (i + 1) (by omega) hi
    simp only [Nat.add_sub_cancel] at hcases
    have hfw := fw_width s.data.toList (i + 1) (by omega) hi ho
    have hsz : s.data.toList.length = s.size := by rw [Array.length_toList]; rfl
    by_cases hbl : blankC (s.data.toList.getD i 0) = true
    · have ha : (s.data.toList.getD i 0).toNat < 128 := by
        rcases Nat.lt_or_ge (s.data.toList.getD i 0).toNat 128 with h | h
        · exact h
        · rw [blankC_high _ h] at hbl; cases hbl
      have hd : decodeLastL (s.data.toList.take (i + 1)) = ((s.data.toList.getD i 0).toNat, 1) := by
        rcases hcases with ⟨_, h⟩ | ⟨h, _⟩ | ⟨h, _⟩
        · exact h
        · omega
        · omega
      rw [hd]
      simp only [blankN_toNat, hbl, Bool.true_eq_false, if_false, Nat.add_sub_cancel]
      rw [htl, trimRL_snoc, if_pos hbl]
      exact right_is s f i (by omega) (by omega) (.inr (by omega))
    · have hnb : blankN (decodeLastL (s.data.toList.take (i + 1))).1 = false := by
        rcases hcases with ⟨h, hd⟩ | ⟨h, hd⟩ | ⟨h, st, hst, hd, hsum⟩
        · rw [hd]
          show blankN (s.data.toList.getD i 0).toNat = false
          rw [blankN_toNat]
          simpa using hbl
        · rw [hd]; rfl
        · rw [hd]
          rw [blank_head]
          by_cases hb0 : (((s.data.toList.take (i + 1)).drop st).getD 0 0).toNat < 128
          · rw [decodeL_ascii _ hb0] at hsum
            have e : st = i := by simp only at hsum; omega
            subst e
            rw [getD_dropU, Nat.add_zero, getD_takeU _ _ _ (by omega)]
            simpa using hbl
          · exact blankC_high _ (by omega)
      rw [hnb]
      simp only [if_true]
      generalize hwd : (decodeLastL (s.data.toList.take (i + 1))).2 = wd at hfw
      have hw : wd ≤ i + 1 := by
        rcases hcases with ⟨h, hd⟩ | ⟨h, hd⟩ | ⟨h, st, hst, hd, hsum⟩
        · rw [hd] at hwd; simp only at hwd; omega
        · rw [hd] at hwd; simp only at hwd; omega
        · rw [hd] at hwd; omega
      have hw1 : 1 ≤ wd := by
        rcases hcases with ⟨h, hd⟩ | ⟨h, hd⟩ | ⟨h, st, hst, hd, hsum⟩
        · rw [hd] at hwd; simp only at hwd; omega
        · rw [hd] at hwd; simp only at hwd; omega
        · rw [hd] at hwd; rw [← hwd]; exact decodeL_width _
      have he : endOf s ((i + 1 - wd : Nat) : Int) = i + 1 := by
        unfold endOf
        rw [if_pos (Int.natCast_nonneg _)]
        simp only [Int.toNat_natCast]
        have hx : (s.extract (i + 1 - wd) s.size).data.toList = s.data.toList.drop (i + 1 - wd) := by
          rw [extract_data, List.take_of_length_le (by rw [List.length_drop, ← size_eq]; exact Nat.le_refl _)]
        have hne : ¬ (s.extract (i + 1 - wd) s.size).size = 0 := by
          rw [size_eq, hx, List.length_drop]
          omega
        unfold decodeGoB
        rw [if_neg hne]
        have hdd := decodeL_drop (s.extract (i + 1 - wd) s.size) 0
        rw [List.drop_zero, hx] at hdd
        rw [← hdd, hfw]
        omega
      rw [he, htl, trimRL_snoc, if_neg hbl]
theorem trimRightF_is (s : ByteArray) : (trimRightF blankN s).data.toList = trimRL s.data.toList := by
  have hsz : s.data.toList.length = s.size := by rw [Array.length_toList]; rfl
  have h := right_is s s.size s.size (Nat.le_refl _) (by rw [hsz]; exact Nat.le_refl _) (.inl hsz.symm)
  rw [List.take_of_length_le (i := s.size) (by rw [hsz]; exact Nat.le_refl _)] at h
  rw [← h]
  unfold trimRightF rightEndF lastIdxFunc endOf
  rw [extract_data, List.drop_zero, Nat.sub_zero]
theorem trimF_is (s : ByteArray) : trimF blankN s = trimS s := by
  unfold trimF trimS
  have h := trimRightF_is (trimLeftF blankN s)
  rw [trimLeftF_is] at h
  rw [← h]
end Go.Proofs.YtebfpnbnoinhbaaGreatDoor.Q
