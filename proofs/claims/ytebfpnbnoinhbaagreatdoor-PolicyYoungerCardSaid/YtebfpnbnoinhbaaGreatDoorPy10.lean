/- scullerylaw14.PolicyYounger tells true of every two ages and lifetimes and every pair of rules. No condition. -/
import Derived.ChangeSlices
import Derived.Test.YtebfpnbnoinhbaaGreatDoorPy1
import Derived.Test.YtebfpnbnoinhbaaGreatDoorPy2
import Derived.Test.YtebfpnbnoinhbaaGreatDoorPy3
import Derived.Test.YtebfpnbnoinhbaaGreatDoorPy4
import Derived.Test.YtebfpnbnoinhbaaGreatDoorPy5
import Derived.Test.YtebfpnbnoinhbaaGreatDoorPy6
import Derived.Test.YtebfpnbnoinhbaaGreatDoorPy9
namespace Go.Proofs.YtebfpnbnoinhbaaGreatDoor.Q
open Go.RowKit Go.Proofs.YtebfpnbnoinhbaaGreatDoorW.PrintWords Go.Proofs.YtebfpnbnoinhbaaGreatDoorW.PrintLast Go.Proofs.YtebfpnbnoinhbaaGreatDoorW.PrintMore
set_option linter.unusedVariables false
set_option linter.unusedSimpArgs false
theorem trimPred (w : World) : PredGrows Tryz.prog 153 #[] blankN w := by
  intro W x hx hb
  have hb1 : blankN x = (decide (x = 32) || decide (x = 9)) := by
    unfold blankN
    rfl
  show Calls Tryz.prog 153 #[.int .i32 (x : Int)] W _
  by_cases h1 : x = 32
  · subst h1
    go_enter Tryz.func153, Tryz.ntmps153
    go_wp2
    go_ret
    exact ⟨rfl, Below.refl _ _⟩
  · have n1 : ((x : Int) == 32) = false := beq_eq_false_iff_ne.mpr (by omega)
    have e1 : decide (x = 32) = false := decide_eq_false h1
    by_cases h2 : x = 9
    · subst h2
      go_enter Tryz.func153, Tryz.ntmps153
      go_wp2
      go_ret
      exact ⟨rfl, Below.refl _ _⟩
    · have n2 : ((x : Int) == 9) = false := beq_eq_false_iff_ne.mpr (by omega)
      have hf : blankN x = false := by rw [hb1, decide_eq_false h1, decide_eq_false h2]; rfl
      have HF := Aside0.mk hf
      clear hf hb1 e1
      go_enter Tryz.func153, Tryz.ntmps153
      go_wp2
      go_ret
      exact ⟨by rw [HF.out]; rfl, Below.refl _ _⟩
def ascii_Trim.f (a0 : ByteArray) : Option ByteArray := if a0.size ≤ 9223372036854775807 then some (trimS a0) else none
set_option maxRecDepth 100000 in
theorem ascii_Trim.calls (a0 r : ByteArray) (w : World) (HG : GL w) (h : ascii_Trim.f a0 = some r) :
    Calls Tryz.prog 116 #[.string a0] w fun e w' => e = .returned (.string r) ∧ Below w.heap.size w w' := by
  unfold ascii_Trim.f at h
  split at h
  case isFalse => cases h
  rename_i hs
  obtain rfl := Option.some.inj h
  clear h
  have eg : ∀ args w, (callFunc 153 args).run Tryz.prog w = .ok (.enter 153 args) w := enters_ Tryz.func153 (by kernel_rfl) rfl
  have hc := Aside0.mk (Tryz.strings_TrimFunc_grows 153 #[] eg blankN a0 w hs HG.u8 (trimPred w))
  clear eg
  go_enter Tryz.func116, Tryz.ntmps116
  go_wp2_with (first | (go_at_call 152; (with_reducible refine hc.out.mono ?_); rintro e w1 ⟨rfl, hb⟩; have hb1 := Aside0.mk hb; clear hb))
  go_ret
  exact ⟨by rw [trimF_is]; rfl, hb1.out⟩
end Go.Proofs.YtebfpnbnoinhbaaGreatDoor.Q
namespace Go.Proofs.YtebfpnbnoinhbaaGreatDoor.Q
open Go.RowKit Go.Proofs.YtebfpnbnoinhbaaGreatDoorW.PrintWords Go.Proofs.YtebfpnbnoinhbaaGreatDoorW.PrintLast Go.Proofs.YtebfpnbnoinhbaaGreatDoorW.PrintMore
set_option linter.unusedVariables false
set_option linter.unusedSimpArgs false
def putT (out : List ByteArray) (p : ByteArray) : List ByteArray := if (trimS p).toList.isEmpty = true then out else out ++ [trimS p]
def BoxStrs (W : World) (base B : Nat) (v : Value) (xs : List ByteArray) : Prop :=
  W.heap[B]? = some (.cells #[v] 77 (0, 0)) ∧ Kd.R Kd.string 9 W base (fun k => k ≠ B) v xs
theorem BoxStrs.below {W W' : World} {base B : Nat} {v : Value} {xs : List ByteArray} (h : BoxStrs W base B v xs) (hb : Below W.heap.size W W') : BoxStrs W' base B v xs :=
  ⟨by rw [hb.block B (Array.getElem?_eq_some_iff.1 h.1).1]; exact h.1, Kd.R_below h.2 hb⟩
set_option maxHeartbeats 2000000 in
set_option maxRecDepth 100000 in
theorem split1 (part : ByteArray) (base B : Nat) (v : Value) (xs : List ByteArray) (w0 W : World) (hG : GL W) (hs : part.size ≤ 9223372036854775807) (hbox : BoxStrs W base B v xs) (hB : Below base w0 W) (hbase : base ≤ B) (hlen : xs.length + 1 < 8796093022208) :
    Calls Tryz.prog 115 #[.string part, .pointer (some ⟨B, 0, none⟩)] W fun e w' => e = .returned (.tuple #[]) ∧ ∃ v', BoxStrs w' base B v' (putT xs part) ∧ Below base w0 w' := by
  have HBOX := Aside0.mk hbox
  have HB := Aside0.mk hB
  have HGW := Aside0.mk hG
  clear hbox hB hG
  have hf : ascii_Trim.f part = some (trimS part) := by unfold ascii_Trim.f; rw [if_pos hs]
  have HF := Aside0.mk hf
  clear hf
  by_cases he : (trimS part).toList.isEmpty = true
  · have hput : putT xs part = xs := by unfold putT; rw [if_pos he]
    have HP := Aside0.mk hput
    clear hput
    go_enter Tryz.func115, Tryz.ntmps115
    go_wp2_with (first | (go_at_call 116; (with_reducible refine (ascii_Trim.calls part (trimS part) _ HGW.out HF.out).mono ?_); rintro e w1 ⟨rfl, hb⟩; have hb1 := Aside0.mk hb; clear hb))
    refine bodyPost_end (fn := Tryz.f115) (results_none (fn := Tryz.f115) rfl _ _ _) rfl ?_
    refine ⟨rfl, v, ?_, ?_⟩
    · rw [HP.out]; exact HBOX.out.below hb1.out
    · exact below_then HB.out (Nat.le_trans hbase (Nat.le_of_lt (Array.getElem?_eq_some_iff.1 HBOX.out.1).1)) hb1.out
  · have he' : (trimS part).toList.isEmpty = false := by simpa using he
    have hput : putT xs part = xs ++ [trimS part] := by unfold putT; rw [if_neg he]
    have HP := Aside0.mk hput
    clear hput
    go_enter Tryz.func115, Tryz.ntmps115
    go_wp2_with (first | (go_at_call 116; (with_reducible refine (ascii_Trim.calls part (trimS part) _ HGW.out HF.out).mono ?_); rintro e w1 ⟨rfl, hb⟩; have hb1 := Aside0.mk hb; clear hb; have hbx := Aside0.mk (HBOX.out.below hb1.out); have hc := (box_cell hbx.out.1).1) | ((with_reducible refine gate_builtin (b := .append) (xs := #[.tmp 7, .tmp 9]) rfl ?_); at_builtin; refine Kd.R_append Kd.string (w0 := w0) base rfl (.tmp 7) (.tmp 9) 77 9 (.string ⟨#[]⟩) 16 rfl Tryz.underlying77 info9 rfl (by decide) (by omega) v xs (trimS part) [.string (trimS part)] (fun k => k ≠ B) (fun _ => False) rfl rfl ?aP (fun _ hk => hk.elim) ?aF ?aO ?aB ?aS ?aL ?_; (case aP => exact rfl); (case aF => exact fun k hk => Nat.ne_of_gt (Nat.lt_of_lt_of_le (Array.getElem?_eq_some_iff.1 hbx.out.1).1 hk)); (case aO => exact hbx.out.2); (case aB => exact below_then HB.out (Nat.le_trans hbase (Nat.le_of_lt (Array.getElem?_eq_some_iff.1 HBOX.out.1).1)) hb1.out); (case aS => exact Nat.le_trans hbase (Nat.le_of_lt (Array.getElem?_eq_some_iff.1 hbx.out.1).1)); (case aL => omega); intro v2 w2 ho hb hg hat; obtain ⟨A2, c2, rfl, _, _⟩ := Kd.R_reads ho; have ho2 := Aside0.mk ho; have hb2 := Aside0.mk hb; have hx2 : Aside0 (w2.heap[B]? = some (.cells #[v] 77 (0, 0))) := ⟨by rw [hg.block B (Array.getElem?_eq_some_iff.1 hbx.out.1).1 (fun e => hbx.out.2.1 B e.symm rfl)]; exact hbx.out.1⟩; clear ho hb hg hat hc; have hc2 := (box_cell hx2.out).1; have hf2 := (box_cell hx2.out).2))
    refine bodyPost_end (fn := Tryz.f115) (results_none (fn := Tryz.f115) rfl _ _ _) rfl ?_
    refine ⟨rfl, _, ⟨box_store hx2.out, ?_⟩, ?_⟩
    · rw [HP.out]
      have h3 := Kd.R_far (p := ⟨B, 0, none⟩) ho2.out (fun _ hk => hk) (.slice A2 (xs.length + 1) c2)
      simpa only [List.length_append, List.length_cons, List.length_nil, Nat.zero_add] using h3
    · exact hb2.out.setCell hbase _
end Go.Proofs.YtebfpnbnoinhbaaGreatDoor.Q
namespace Go.Proofs.YtebfpnbnoinhbaaGreatDoor.Q
open Go.RowKit Go.Proofs.YtebfpnbnoinhbaaGreatDoorW.PrintWords Go.Proofs.YtebfpnbnoinhbaaGreatDoorW.PrintLast Go.Proofs.YtebfpnbnoinhbaaGreatDoorW.PrintMore
set_option linter.unusedVariables false
set_option linter.unusedSimpArgs false
def endGo : Nat → ByteArray → Nat → Nat
  | 0, s, _ => s.size
  | k + 1, s, i => if i < s.size then (if bt s i = 92 then endGo k s (i + 2) else if bt s i = 34 then i else endGo k s (i + 1)) else s.size
theorem endGo_is (s : ByteArray) (hs : s.size ≤ 1073741824) : ∀ (k i : Nat), i ≤ s.size + 1 → s.size + 1 < i + k → ascii_end.l0 k s (i : Int) = some (endGo k s i : Int)
  | 0, i, h0, h => by omega
  | k + 1, i, h0, h => by
    simp only [ascii_end.l0, endGo]
    by_cases h1 : i < s.size
    · rw [if_pos (by omega), if_pos (by omega), if_pos h1]
      by_cases h2 : bt s i = 92
      · rw [if_pos h2, if_pos h2]
        have e : wrap64 (wrap64 ((i : Int) + 1) + 1) = ((i + 2 : Nat) : Int) := by unfold wrap64; omega
        rw [e]
        exact endGo_is s hs k (i + 2) (by omega) (by omega)
      · rw [if_neg h2, if_neg h2]
        by_cases h3 : bt s i = 34
        · rw [if_pos h3, if_pos h3]
        · rw [if_neg h3, if_neg h3]
          have e : wrap64 ((i : Int) + 1) = ((i + 1 : Nat) : Int) := by unfold wrap64; omega
          rw [e]
          exact endGo_is s hs k (i + 1) (by omega) (by omega)
    · rw [if_neg (by omega), if_neg h1]
theorem endGo_le (s : ByteArray) : ∀ (k i : Nat), endGo k s i ≤ s.size
  | 0, i => by simp [endGo]
  | k + 1, i => by
    simp only [endGo]
    split
    · rename_i h
      split
      · exact endGo_le s k _
      · split
        · omega
        · exact endGo_le s k _
    · exact Nat.le_refl _
theorem endGo_ge (s : ByteArray) : ∀ (k i : Nat), i ≤ s.size → i ≤ endGo k s i
  | 0, i, h => by simp [endGo]; exact h
  | k + 1, i, h => by
    simp only [endGo]
    split
    · rename_i h1
      split
      · rcases Nat.lt_or_ge (i + 2) (s.size + 1) with h2 | h2
        · have := endGo_ge s k (i + 2) (by omega)
          omega
        · have : endGo k s (i + 2) = s.size := by
            cases k with
            | zero => rfl
            | succ k => simp only [endGo]; rw [if_neg (by omega)]
          omega
      · split
        · omega
        · have := endGo_ge s k (i + 1) (by omega)
          omega
    · omega
def endS (s : ByteArray) (i : Nat) : Nat := endGo (s.size + 2) s (i + 1)
theorem endS_is (s : ByteArray) (hs : s.size ≤ 1073741824) (i : Nat) (hi : i < s.size) : ascii_end.f (s.size + 2) s (i : Int) = some (endS s i : Int) := by
  unfold ascii_end.f endS
  have e : wrap64 ((i : Int) + 1) = ((i + 1 : Nat) : Int) := by unfold wrap64; omega
  rw [e]
  exact endGo_is s hs _ _ (by omega) (by omega)
theorem endS_range (s : ByteArray) (i : Nat) (hi : i < s.size) : i + 1 ≤ endS s i ∧ endS s i ≤ s.size := ⟨endGo_ge s _ _ (by omega), endGo_le s _ _⟩
def splitGo : Nat → ByteArray → Nat → Nat → List ByteArray → List ByteArray
  | 0, _, _, _, out => out
  | k + 1, s, fr, i, out => if i < s.size then (if bt s i = 34 then splitGo k s fr (endS s i + 1) out else if bt s i = 44 then splitGo k s (i + 1) (i + 1) (putT out (s.extract fr i)) else splitGo k s fr (i + 1) out) else putT out (s.extract fr s.size)
def splitS (s : ByteArray) : List ByteArray := splitGo (s.size + 2) s 0 0 []
def ascii_Split.f (a0 : ByteArray) : Option (List ByteArray) := if a0.size ≤ 1073741824 then some (splitS a0) else none
theorem putT_length (out : List ByteArray) (p : ByteArray) : (putT out p).length ≤ out.length + 1 := by
  unfold putT
  split
  · omega
  · simp
set_option maxHeartbeats 4000000 in
set_option maxRecDepth 100000 in
theorem ascii_Split.calls (a0 : ByteArray) (r : List ByteArray) (w : World) (HG : GL w) (h : ascii_Split.f a0 = some r) :
    Calls Tryz.prog 80 #[.string a0] w fun e w' => ∃ v0_ : Value, e = .returned (v0_) ∧ Kd.R Kd.string 9 w' w.heap.size (fun _ => True) v0_ r ∧ Below w.heap.size w w' := by
  unfold ascii_Split.f at h
  split at h
  case isFalse => cases h
  rename_i hs
  obtain rfl := Option.some.inj h
  clear h
  have HGL := Aside0.mk HG
  clear HG
  have hmf : ∀ (fn : Fn) (first cap : Array Value) (w : World), (Instr.makeFunc fn first cap).run Tryz.prog w = .ok (.func fn first cap) w := fun _ _ _ _ => rfl
  go_enter Tryz.func80, Tryz.ntmps80
  go_wp2
  have hb0 : Aside0 (BoxStrs (w.alloc (.cells #[.slice none 0 0] 77)) w.heap.size w.heap.size (.slice none 0 0) []) := ⟨⟨heap_alloc_new w _, Kd.R_nil _ _ _ _ _⟩⟩
  have hB0 : Aside0 (Below w.heap.size w (w.alloc (.cells #[.slice none 0 0] 77))) := ⟨(Below.refl _ _).alloc (Nat.le_refl _) _⟩
  generalize w.alloc (.cells #[.slice none 0 0] 77) = W0 at hb0 hB0 ⊢
  go_loopw [5, 6] (fun f i wr => ∃ (m fr k : Nat) (v : Value) (xs : List ByteArray), f = .int .i64 fr ∧ i = .int .i64 k ∧ fr ≤ a0.size ∧ fr ≤ k ∧ k ≤ a0.size + 1 ∧ xs.length ≤ k ∧ a0.size + 1 < k + m ∧ Aside0 (splitS a0 = splitGo m a0 fr k xs) ∧ Aside0 (BoxStrs wr w.heap.size w.heap.size v xs) ∧ Aside0 (Below w.heap.size w wr)) (fun _ i _ => a0.size + 2 - (intOf i).toNat)
  case atStart => exact ⟨a0.size + 2, 0, 0, _, [], rfl, rfl, Nat.zero_le _, Nat.zero_le _, Nat.zero_le _, Nat.zero_le _, by omega, ⟨rfl⟩, hb0, hB0⟩
  case round =>
    clear hb0 hB0
    obtain ⟨m, fr, k, v, xs, rfl, rfl, h1, h2, h3, h4, h5, hA, hX, hB⟩ := hrel
    obtain ⟨m, rfl⟩ : ∃ m', m = m' + 1 := ⟨m - 1, by omega⟩
    have hS := hA.out
    clear hA
    simp only [splitGo] at hS
    by_cases hlt : k < a0.size
    · have hd : decide (k < a0.size) = true := decide_eq_true hlt
      rw [if_pos hlt] at hS
      have hx := bt_at a0 (k : Int)
      simp only [Int.toNat_natCast] at hx
      have hr := bt_range a0 (k : Int)
      have hE := Aside0.mk (endS_is a0 hs k hlt)
      have hEr := endS_range a0 k hlt
      generalize bt a0 (k : Int) = c at hx hS hr
      generalize endS a0 k = e at hE hEr hS
      obtain ⟨hr0, hr1⟩ := hr
      have hlt' : (k < a0.size) = True := eq_true hlt
      by_cases hq : c = 34
      · rw [if_pos hq] at hS
        have hS' := Aside0.mk hS
        have hq' : (c == 34) = true := beq_iff_eq.mpr hq
        clear hS hq
        go_wp2_with (first | (go_at_call 117; (with_reducible refine (ascii_end.calls (a0.size + 2) a0 (k : Int) (e : Int) _ hE.out).mono ?_); rintro e1 w1 ⟨rfl, ⟨nd, rfl⟩⟩))
        have hbd := Aside0.mk (drewN_below wr nd)
        go_roundw
        case rel => exact ⟨m, fr, e + 1, v, xs, rfl, by go_num, h1, by omega, by omega, by omega, by omega, hS', ⟨hX.out.below hbd.out⟩, ⟨below_then hB.out hB.out.size hbd.out⟩⟩
        case measure => simp [intOf]; omega
      · rw [if_neg hq] at hS
        have hq' : (c == 34) = false := beq_eq_false_iff_ne.mpr hq
        by_cases hm : c = 44
        · rw [if_pos hm] at hS
          have hS' := Aside0.mk hS
          have hm' : (c == 44) = true := beq_iff_eq.mpr hm
          clear hS hq hm
          have hsz : (a0.extract fr k).size ≤ 9223372036854775807 := by simp; omega
          have hl := putT_length xs (a0.extract fr k)
          have hsl := fun W => slice_lh (P := Tryz.prog) 9 Tryz.underlying9 a0 fr k h2 (Nat.le_of_lt hlt) W
          go_wp2_with (first | (go_at_call 115; refine (split1 (a0.extract fr k) w.heap.size w.heap.size v xs w wr (HGL.out.below hB.out) hsz hX.out hB.out (Nat.le_refl _) (by omega)).mono ?_; rintro e1 w1 ⟨rfl, v2, hx2, hb2⟩; have hx3 := Aside0.mk hx2; have hb3 := Aside0.mk hb2; clear hx2 hb2))
          go_roundw
          case rel => exact ⟨m, k + 1, k + 1, v2, _, by go_num, by go_num, by omega, by omega, by omega, by omega, by omega, hS', hx3, hb3⟩
          case measure => simp [intOf]; omega
        · rw [if_neg hm] at hS
          have hS' := Aside0.mk hS
          have hm' : (c == 44) = false := beq_eq_false_iff_ne.mpr hm
          clear hS hq hm
          go_wp2
          go_roundw
          case rel => exact ⟨m, fr, k + 1, v, xs, rfl, by go_num, h1, by omega, by omega, by omega, by omega, hS', hX, hB⟩
          case measure => simp [intOf]; omega
    · have hd : decide (k < a0.size) = false := decide_eq_false hlt
      rw [if_neg hlt] at hS
      have hS' := Aside0.mk hS
      clear hS
      have hsz : (a0.extract fr a0.size).size ≤ 9223372036854775807 := by simp; omega
      go_wp2_with (first | (go_at_call 115; refine (split1 (a0.extract fr a0.size) w.heap.size w.heap.size v xs w wr (HGL.out.below hB.out) hsz hX.out hB.out (Nat.le_refl _) (by omega)).mono ?_; rintro e1 w1 ⟨rfl, v2, hx2, hb2⟩; have hx3 := Aside0.mk hx2; have hb3 := Aside0.mk hb2; clear hx2 hb2; have hc2 := (box_cell hx3.out.1).1))
      go_ret
      exact ⟨_, rfl, by rw [hS'.out]; exact Kd.R_mono hx3.out.2 (fun _ _ => trivial), hb3.out⟩
end Go.Proofs.YtebfpnbnoinhbaaGreatDoor.Q
namespace Go.Proofs.YtebfpnbnoinhbaaGreatDoor.Q
open Go.RowKit Go.Proofs.YtebfpnbnoinhbaaGreatDoorW.PrintWords Go.Proofs.YtebfpnbnoinhbaaGreatDoorW.PrintLast Go.Proofs.YtebfpnbnoinhbaaGreatDoorW.PrintMore
attribute [local go_sem] max2_int max_two
set_option linter.unusedVariables false
set_option linter.unusedSimpArgs false
def legacy_Parse.l0 : Nat → List (S130) → List ByteArray → Int → Int → Option ((List (S130)))
  | 0, _, _, _, _ => none
  | k + 1, x3, x9, x10, x11 => if x11 < x10 then (if 0 ≤ x11 then (if x11 < (x9.length : Int) then ((legacy_directive.f k (rdOf ByteArray.empty x9 x11)).bind fun bt5 => (if bt5.2.2.2 = true then (if x3.length < 3518437208883 then (legacy_Parse.l0 k (x3 ++ [(⟨bt5.1, bt5.2.1, bt5.2.2.1⟩ : S130)]) x9 x10 (wrap64 (x11 + 1))) else (none)) else (legacy_Parse.l0 k x3 x9 x10 (wrap64 (x11 + 1))))) else (none)) else (none)) else (some x3)
def legacy_Parse.f (k : Nat) (a0 : ByteArray) : Option ((List (S130))) := (ascii_Split.f a0).bind fun t1 => (legacy_Parse.l0 k ([] : List (S130)) t1 (t1.length : Int) 0)
set_option maxHeartbeats 8000000 in
set_option maxRecDepth 100000 in
theorem legacy_Parse.calls (k : Nat) (a0 : ByteArray) (r : List (S130)) (w : World) (HG0 : GL w) (h : legacy_Parse.f k a0 = some r) :
    Calls Tryz.prog 49 #[.string a0] w fun e w' => ∃ v0_ : Value, e = .returned (v0_) ∧ Kd.R k130 130 w' w.heap.size (fun _ => True) v0_ r ∧ Below w.heap.size w w' := by
  have hu130 := Tryz.underlying130
  have HG := Aside0.mk HG0
  clear HG0
  have HB := Aside0.mk (Below.refl w.heap.size w)
  have H : ((ascii_Split.f a0).bind fun t1 => (legacy_Parse.l0 k ([] : List (S130)) t1 (t1.length : Int) 0)) = some r := h
  clear h
  replace H := Option.bind_eq_some_iff.mp H
  obtain ⟨t1, A20, H⟩ := H
  replace H : (legacy_Parse.l0 k ([] : List (S130)) t1 (t1.length : Int) 0) = some r := H
  have A2 := Aside0.mk A20
  clear A20
  have H' := Aside0.mk H
  clear H
  go_enter Tryz.func49, Tryz.ntmps49
  go_wp2_with (first | ((with_reducible refine gate_callee (f := 80) rfl ?_); refine goesL_ (some 9) rfl rfl Tryz.func80 (by kernel_rfl) rfl #[.string a0] rfl (by (try simp only [List.map_toArray, List.map_cons, List.map_nil]); first | done | rfl | (simp only [List.length_drop, List.length_take]; rfl)) ?_; (with_reducible refine (ascii_Split.calls a0 t1 _ ?side1 A2.out).mono ?_); (case side1 => exact GL.below HG.out (by repeat (first | (with_reducible first | exact HB.out | apply below_alloc | apply pw_below_drewN | apply below_drew1) | exact HB.out))); rintro e w3 ⟨v2, rfl, ho0, hb⟩; refine ⟨_, rfl, ?_⟩; have n0_ := Aside0.mk (Kd.R_lower ho0 (below_size (by repeat (first | (with_reducible first | exact HB.out | apply below_alloc | apply pw_below_drewN | apply below_drew1) | exact HB.out)))); have n1_ := Aside0.mk (below_step (by repeat (first | (with_reducible first | exact HB.out | apply below_alloc | apply pw_below_drewN | apply below_drew1) | exact HB.out)) hb); clear HB; have HO3 := n0_; have HB := n1_; clear n0_ n1_; (try clear hb); (try clear hb2); (try clear hk); (try clear hi); (try clear ho0); obtain ⟨Ao4, co4, eo4⟩ := Kd.R_slice HO3.out; subst eo4))
  go_loopg [3, 11] k (fun kq v3 v11 w' => ∃ (x3_1 : List (S130)) (x11_1 : Int), v11 = .int .i64 x11_1 ∧ Aside0 (legacy_Parse.l0 kq x3_1 t1 (t1.length : Int) x11_1 = some r) ∧ Aside0 (kq ≤ k) ∧ Aside0 (Kd.R k130 130 w' w.heap.size (fun _ => True) v3 x3_1) ∧ Aside0 (Kd.R Kd.string 9 w' w.heap.size (fun _ => True) (.slice Ao4 t1.length co4) t1) ∧ Aside0 (Below w.heap.size w w'))
  case atStart => exact ⟨(([] : List (S130))), (0), (by first | rfl | (simp; done) | (simp [*]; done)), H', ⟨Nat.le_refl _⟩, ⟨by first | exact Kd.R_nil _ _ _ _ _ | exact Kd.N_nil _ _ _ _ _ | exact Kd.V_nil _ _ _ _ _ | exact Kd.Q_nil _ _ _ _ _ | exact Kd.S_nil _ _ _ _ _⟩, ⟨by (with_reducible repeat (first | apply Kd.R_alloc | apply Kd.R_drewN | apply Kd.R_drew)); exact HO3.out⟩, ⟨by repeat (first | (with_reducible first | exact HB.out | apply below_alloc | apply pw_below_drewN | apply below_drew1) | exact HB.out)⟩⟩
  case round =>
    clear H'
    try clear p2
    try clear c4
    obtain ⟨x3_1, x11_1, rfl, HA, HK1, HO_3, HO_9, HB⟩ := hrel
    cases gk with
    | zero => exact absurd HA.out (by simp [legacy_Parse.l0])
    | succ k1 =>
      have H := HA.out
      clear HA
      simp only [legacy_Parse.l0] at H
      by_cases c5 : x11_1 < (t1.length : Int)
      · rw [if_pos c5] at H
        have c5b0 : decide (x11_1 < (t1.length : Int)) = true := decide_eq_true c5
        clear c5
        by_cases c6 : 0 ≤ x11_1
        · rw [if_pos c6] at H
          have c6b0 : decide (0 ≤ x11_1) = true := decide_eq_true c6
          clear c6
          by_cases c7 : x11_1 < (t1.length : Int)
          · rw [if_pos c7] at H
            have c7b0 : decide (x11_1 < (t1.length : Int)) = true := decide_eq_true c7
            clear c7
            replace H := Option.bind_eq_some_iff.mp H
            obtain ⟨⟨t5, t6, t7, t8⟩, A80, H⟩ := H
            replace H : (if t8 = true then (if x3_1.length < 3518437208883 then (legacy_Parse.l0 k1 (x3_1 ++ [(⟨t5, t6, t7⟩ : S130)]) t1 (t1.length : Int) (wrap64 (x11_1 + 1))) else (none)) else (legacy_Parse.l0 k1 x3_1 t1 (t1.length : Int) (wrap64 (x11_1 + 1)))) = some r := H
            have A8 := Aside0.mk A80
            clear A80
            by_cases c9 : t8 = true
            · subst c9
              have H1 : (if x3_1.length < 3518437208883 then (legacy_Parse.l0 k1 (x3_1 ++ [(⟨t5, t6, t7⟩ : S130)]) t1 (t1.length : Int) (wrap64 (x11_1 + 1))) else (none)) = some r := by rw [if_pos rfl] at H; exact H
              clear H
              have H := H1
              clear H1
              by_cases c10 : x3_1.length < 3518437208883
              · rw [if_pos c10] at H
                have LMc10 := Aside0.mk c10
                clear c10
                obtain ⟨y10, hy10⟩ : ∃ y_ : List (S130), y_ = (x3_1 ++ [(⟨t5, t6, t7⟩ : S130)]) := ⟨_, rfl⟩
                replace H : (legacy_Parse.l0 k1 y10 t1 (t1.length : Int) (wrap64 (x11_1 + 1))) = some r := by first | (rw [hy10]; with_reducible exact H) | (have H2_ := (Option.bind_some _ _).symm.trans H; rw [hy10]; with_reducible exact H2_) | (have H2_ := (Option.bind_some _ _).symm.trans H; with_reducible exact H2_) | with_reducible exact H | (rw [hy10]; exact H) | exact H
                have Ny10 := Aside0.mk hy10
                clear hy10
                have H' := Aside0.mk H
                clear H
                have p4 : 0 ≤ (x11_1 : Int) := of_decide_eq_true (by first | (with_reducible assumption) | assumption)
                have q4 : x11_1 < (t1.length : Int) := of_decide_eq_true (by first | (with_reducible assumption) | assumption)
                obtain ⟨ad4, e4, hx4_0⟩ := Kd.at_string (Kd.R_reads' HO_9.out).2.2 x11_1 p4 q4
                cases e4
                replace p4 := eq_true p4
                replace q4 := eq_true q4
                go_wp2_with (first | ((with_reducible refine gate_callee (f := 81) rfl ?_); refine goesL_ (some 17) rfl rfl Tryz.func81 (by kernel_rfl) rfl #[.string (rdOf ByteArray.empty t1 x11_1)] rfl (by (try simp only [List.map_toArray, List.map_cons, List.map_nil]); first | done | rfl | (simp only [List.length_drop, List.length_take]; rfl)) ?_; (with_reducible refine (legacy_directive.calls k1 (rdOf ByteArray.empty t1 x11_1) t5 t6 t7 true _ ?side1 A8.out).mono ?_); (case side1 => exact GL.below HG.out (by repeat (first | (with_reducible first | exact HB.out | apply below_alloc | apply pw_below_drewN | apply below_drew1) | exact HB.out))); rintro e w11 ⟨rfl, hb⟩; refine ⟨_, rfl, ?_⟩; have n0_ := Aside0.mk (Kd.R_below (by (with_reducible repeat (first | apply Kd.R_alloc | apply Kd.R_drewN | apply Kd.R_drew)); exact HO_3.out) hb); have n1_ := Aside0.mk (Kd.R_below (by (with_reducible repeat (first | apply Kd.R_alloc | apply Kd.R_drewN | apply Kd.R_drew)); exact HO_9.out) hb); have n2_ := Aside0.mk (below_step (by repeat (first | (with_reducible first | exact HB.out | apply below_alloc | apply pw_below_drewN | apply below_drew1) | exact HB.out)) hb); clear HO_3; clear HO_9; clear HB; have HO_3 := n0_; have HO_9 := n1_; have HB := n2_; clear n0_ n1_ n2_; (try clear hb); (try clear hb2); (try clear hk); (try clear hi)) | ((with_reducible refine gate_dst (N := 6) rfl ?_); refine box_event ?hg (N := 6) ?hd (cs := #[.string (⟨#[]⟩ : ByteArray), .string (⟨#[]⟩ : ByteArray), .bool false]) (t := 130) ?hr ?_; (case hd => rfl); (case hg => rfl); (case hr => first | (go_simp; done) | (go_simp; rfl)); intro gb9 hg w12 hbox hb; have n0_ := Aside0.mk (Kd.R_below (Kd.R_elderB (by (with_reducible repeat (first | apply Kd.R_alloc | apply Kd.R_drewN | apply Kd.R_drew)); exact HO_3.out) gb9 (Nat.le_of_eq hg.symm)) hb); have n1_ := Aside0.mk (Kd.R_below (by (with_reducible repeat (first | apply Kd.R_alloc | apply Kd.R_drewN | apply Kd.R_drew)); exact HO_9.out) hb); have n2_ := Aside0.mk (below_step (by repeat (first | (with_reducible first | exact HB.out | apply below_alloc | apply pw_below_drewN | apply below_drew1) | exact HB.out)) hb); have n3_ := Aside0.mk (hbox); have n4_ := Aside0.mk ((by rw [hg]; exact (below_size (by repeat (first | (with_reducible first | exact HB.out | apply below_alloc | apply pw_below_drewN | apply below_drew1) | exact HB.out))) : w.heap.size ≤ gb9)); have n5_ := Aside0.mk ((by rw [hg]; exact (below_size (by repeat (first | (with_reducible first | exact HB.out | apply below_alloc | apply pw_below_drewN | apply below_drew1) | exact HB.out))) : w.heap.size ≤ gb9)); clear HO_3; clear HO_9; clear HB; have HO_3 := n0_; have HO_9 := n1_; have HB := n2_; have BK9 := n3_; have GW9 := n4_; have GE9 := n5_; clear n0_ n1_ n2_ n3_ n4_ n5_; clear hb hbox hg; have hcz13_0 : w12.cell? ⟨gb9, 0, none⟩ = some (.string (⟨#[]⟩ : ByteArray)) := (blk_cell BK9.out 0).trans rfl; have hcz13_1 : w12.cell? ⟨gb9, 1, none⟩ = some (.string (⟨#[]⟩ : ByteArray)) := (blk_cell BK9.out 1).trans rfl; have hcz13_2 : w12.cell? ⟨gb9, 2, none⟩ = some (.bool false) := (blk_cell BK9.out 2).trans rfl; have hfz13_0 := blk_frozen BK9.out 0; have hfz13_1 := blk_frozen BK9.out 1; have hfz13_2 := blk_frozen BK9.out 2) | ((with_reducible refine gate_builtin (b := .append) (xs := #[.tmp 21, .tmp 23]) rfl ?_); at_builtin; refine Kd.R_append k130 (w0 := w) w.heap.size rfl (.tmp 21) (.tmp 23) 99 130 (.agg #[(.string ⟨#[]⟩), (.string ⟨#[]⟩), (.bool false)]) 40 rfl Tryz.underlying99 info130 rfl (by decide) (by omega) u3 x3_1 (⟨t5, t6, t7⟩ : S130) [.string t5, .string t6, .bool t7] (fun k_ => k_ ≠ gb9) (fun _ => False) rfl (by first | (go_simp; done) | (go_simp; rfl)) ?aP (fun _ hk => hk.elim) ?aF ?aO ?aB ?aS ?aL ?_; (case aP => exact k130_mkM _ _ _ (⟨t5, t6, t7⟩ : S130)); (case aB => exact (by repeat (first | (with_reducible first | exact HB.out | apply below_alloc | apply pw_below_drewN | apply below_drew1 | refine below_set ?_ GE9.out) | exact HB.out))); (case aF => exact (fun k_ hk => Kd.freshB (g := gb9) (o := .cells #[.string t5, .string t6, .bool t7] 130 (0, 0)) (by (with_reducible repeat (first | refine blk_drewN ?_ _ | refine blk_drew ?_ | refine blk_alloc ?_ _)); refine blk_put (cs := #[.string t5, .string t6, .bool false]) ?_ 2 _ rfl; (with_reducible repeat (first | refine blk_drewN ?_ _ | refine blk_drew ?_ | refine blk_alloc ?_ _)); refine blk_put (cs := #[.string t5, .string (⟨#[]⟩ : ByteArray), .bool false]) ?_ 1 _ rfl; (with_reducible repeat (first | refine blk_drewN ?_ _ | refine blk_drew ?_ | refine blk_alloc ?_ _)); refine blk_put (cs := #[.string (⟨#[]⟩ : ByteArray), .string (⟨#[]⟩ : ByteArray), .bool false]) ?_ 0 _ rfl; (with_reducible repeat (first | refine blk_drewN ?_ _ | refine blk_drew ?_ | refine blk_alloc ?_ _)); exact BK9.out) k_ hk)); (case aO => exact (by (with_reducible repeat (first | apply Kd.R_alloc | apply Kd.R_drewN | apply Kd.R_drew)); exact Kd.R_mono (Kd.R_far (p := ⟨gb9, 2, none⟩) (Kd.R_far (p := ⟨gb9, 1, none⟩) (Kd.R_far (p := ⟨gb9, 0, none⟩) (Kd.R_mono HO_3.out (fun k_ hk => (⟨hk, hk.2⟩ : _ ∧ k_ ≠ gb9))) (fun _ hk => hk.2) (.string t5)) (fun _ hk => hk.2) (.string t6)) (fun _ hk => hk.2) (.bool t7)) (fun _ hk => hk.1.2))); (case aS => exact (below_size (by repeat (first | (with_reducible first | exact HB.out | apply below_alloc | apply pw_below_drewN | apply below_drew1 | refine below_set ?_ GE9.out) | exact HB.out)))); (case aL => have := LMc10.out; omega); intro v11 w14 ho hb hg hat; rw [← Ny10.out] at ho; have n0_ := Aside0.mk (Kd.R_over' (by (with_reducible repeat (first | apply Kd.R_alloc | apply Kd.R_drewN | apply Kd.R_drew)); exact (Kd.R_mono (Kd.R_far (p := ⟨gb9, 2, none⟩) (Kd.R_far (p := ⟨gb9, 1, none⟩) (Kd.R_far (p := ⟨gb9, 0, none⟩) (Kd.R_types HO_9.out BK9.out (by decide)) (fun _ hk => hk.2) (.string t5)) (fun _ hk => hk.2) (.string t6)) (fun _ hk => hk.2) (.bool t7)) (fun _ h_ => h_.1))) (Kd.R_typed (by (with_reducible repeat (first | apply Kd.R_alloc | apply Kd.R_drewN | apply Kd.R_drew)); exact (Kd.R_mono (Kd.R_far (p := ⟨gb9, 2, none⟩) (Kd.R_far (p := ⟨gb9, 1, none⟩) (Kd.R_far (p := ⟨gb9, 0, none⟩) (Kd.R_mono HO_3.out (fun k_ hk => (⟨hk, hk.2⟩ : _ ∧ k_ ≠ gb9))) (fun _ hk => hk.2) (.string t5)) (fun _ hk => hk.2) (.string t6)) (fun _ hk => hk.2) (.bool t7)) (fun _ h_ => h_.1)))) (by decide) hg); have n1_ := Aside0.mk (blk_grown (g := gb9) (o := .cells #[.string t5, .string t6, .bool t7] 130 (0, 0)) (by (with_reducible repeat (first | refine blk_drewN ?_ _ | refine blk_drew ?_ | refine blk_alloc ?_ _)); refine blk_put (cs := #[.string t5, .string t6, .bool false]) ?_ 2 _ rfl; (with_reducible repeat (first | refine blk_drewN ?_ _ | refine blk_drew ?_ | refine blk_alloc ?_ _)); refine blk_put (cs := #[.string t5, .string (⟨#[]⟩ : ByteArray), .bool false]) ?_ 1 _ rfl; (with_reducible repeat (first | refine blk_drewN ?_ _ | refine blk_drew ?_ | refine blk_alloc ?_ _)); refine blk_put (cs := #[.string (⟨#[]⟩ : ByteArray), .string (⟨#[]⟩ : ByteArray), .bool false]) ?_ 0 _ rfl; (with_reducible repeat (first | refine blk_drewN ?_ _ | refine blk_drew ?_ | refine blk_alloc ?_ _)); exact BK9.out) hg (Kd.R_away HO_3.out (fun _ hk => hk.2))); have n2_ := Aside0.mk (hb); have n3_ := Aside0.mk (ho); clear HO_9; clear BK9; clear HB; clear HO_3; have HO_9 := n0_; have BK9 := n1_; have HB := n2_; have HO12 := n3_; clear n0_ n1_ n2_ n3_; clear ho hb hg hat))
                go_roundg k1
                case measure => have := HK1.out; omega
                case rel => exact ⟨(y10), (wrap64 (x11_1 + 1)), (by first | rfl | (simp; done) | (simp [*]; done)), H', ⟨by have := HK1.out; omega⟩, ⟨by (with_reducible repeat (first | apply Kd.R_alloc | apply Kd.R_drewN | apply Kd.R_drew)); exact Kd.R_mono HO12.out (fun _ hk => trivial)⟩, ⟨by (with_reducible repeat (first | apply Kd.R_alloc | apply Kd.R_drewN | apply Kd.R_drew)); exact HO_9.out⟩, ⟨by repeat (first | (with_reducible first | exact HB.out | apply below_alloc | apply pw_below_drewN | apply below_drew1 | refine below_set ?_ GE9.out) | exact HB.out)⟩⟩
              · rw [if_neg c10] at H
                exact absurd H (by simp)
            · replace c9 := Bool.eq_false_iff.mpr c9
              subst c9
              have H1 : (legacy_Parse.l0 k1 x3_1 t1 (t1.length : Int) (wrap64 (x11_1 + 1))) = some r := by rw [if_neg (show ¬ (false = true) by decide)] at H; exact H
              clear H
              have H := H1
              clear H1
              have H' := Aside0.mk H
              clear H
              have p4 : 0 ≤ (x11_1 : Int) := of_decide_eq_true (by first | (with_reducible assumption) | assumption)
              have q4 : x11_1 < (t1.length : Int) := of_decide_eq_true (by first | (with_reducible assumption) | assumption)
              obtain ⟨ad4, e4, hx4_0⟩ := Kd.at_string (Kd.R_reads' HO_9.out).2.2 x11_1 p4 q4
              cases e4
              replace p4 := eq_true p4
              replace q4 := eq_true q4
              go_wp2_with (first | ((with_reducible refine gate_callee (f := 81) rfl ?_); refine goesL_ (some 17) rfl rfl Tryz.func81 (by kernel_rfl) rfl #[.string (rdOf ByteArray.empty t1 x11_1)] rfl (by (try simp only [List.map_toArray, List.map_cons, List.map_nil]); first | done | rfl | (simp only [List.length_drop, List.length_take]; rfl)) ?_; (with_reducible refine (legacy_directive.calls k1 (rdOf ByteArray.empty t1 x11_1) t5 t6 t7 false _ ?side1 A8.out).mono ?_); (case side1 => exact GL.below HG.out (by repeat (first | (with_reducible first | exact HB.out | apply below_alloc | apply pw_below_drewN | apply below_drew1) | exact HB.out))); rintro e w15 ⟨rfl, hb⟩; refine ⟨_, rfl, ?_⟩; have n0_ := Aside0.mk (Kd.R_below (by (with_reducible repeat (first | apply Kd.R_alloc | apply Kd.R_drewN | apply Kd.R_drew)); exact HO_3.out) hb); have n1_ := Aside0.mk (Kd.R_below (by (with_reducible repeat (first | apply Kd.R_alloc | apply Kd.R_drewN | apply Kd.R_drew)); exact HO_9.out) hb); have n2_ := Aside0.mk (below_step (by repeat (first | (with_reducible first | exact HB.out | apply below_alloc | apply pw_below_drewN | apply below_drew1) | exact HB.out)) hb); clear HO_3; clear HO_9; clear HB; have HO_3 := n0_; have HO_9 := n1_; have HB := n2_; clear n0_ n1_ n2_; (try clear hb); (try clear hb2); (try clear hk); (try clear hi)) | ((with_reducible refine gate_dst (N := 6) rfl ?_); refine box_event ?hg (N := 6) ?hd (cs := #[.string (⟨#[]⟩ : ByteArray), .string (⟨#[]⟩ : ByteArray), .bool false]) (t := 130) ?hr ?_; (case hd => rfl); (case hg => rfl); (case hr => first | (go_simp; done) | (go_simp; rfl)); intro gb9 hg w16 hbox hb; have n0_ := Aside0.mk (Kd.R_below (Kd.R_elderB (by (with_reducible repeat (first | apply Kd.R_alloc | apply Kd.R_drewN | apply Kd.R_drew)); exact HO_3.out) gb9 (Nat.le_of_eq hg.symm)) hb); have n1_ := Aside0.mk (Kd.R_below (by (with_reducible repeat (first | apply Kd.R_alloc | apply Kd.R_drewN | apply Kd.R_drew)); exact HO_9.out) hb); have n2_ := Aside0.mk (below_step (by repeat (first | (with_reducible first | exact HB.out | apply below_alloc | apply pw_below_drewN | apply below_drew1) | exact HB.out)) hb); have n3_ := Aside0.mk (hbox); have n4_ := Aside0.mk ((by rw [hg]; exact (below_size (by repeat (first | (with_reducible first | exact HB.out | apply below_alloc | apply pw_below_drewN | apply below_drew1) | exact HB.out))) : w.heap.size ≤ gb9)); have n5_ := Aside0.mk ((by rw [hg]; exact (below_size (by repeat (first | (with_reducible first | exact HB.out | apply below_alloc | apply pw_below_drewN | apply below_drew1) | exact HB.out))) : w.heap.size ≤ gb9)); clear HO_3; clear HO_9; clear HB; have HO_3 := n0_; have HO_9 := n1_; have HB := n2_; have BK9 := n3_; have GW9 := n4_; have GE9 := n5_; clear n0_ n1_ n2_ n3_ n4_ n5_; clear hb hbox hg; have hcz17_0 : w16.cell? ⟨gb9, 0, none⟩ = some (.string (⟨#[]⟩ : ByteArray)) := (blk_cell BK9.out 0).trans rfl; have hcz17_1 : w16.cell? ⟨gb9, 1, none⟩ = some (.string (⟨#[]⟩ : ByteArray)) := (blk_cell BK9.out 1).trans rfl; have hcz17_2 : w16.cell? ⟨gb9, 2, none⟩ = some (.bool false) := (blk_cell BK9.out 2).trans rfl; have hfz17_0 := blk_frozen BK9.out 0; have hfz17_1 := blk_frozen BK9.out 1; have hfz17_2 := blk_frozen BK9.out 2))
              go_roundg k1
              case measure => have := HK1.out; omega
              case rel => exact ⟨(x3_1), (wrap64 (x11_1 + 1)), (by first | rfl | (simp; done) | (simp [*]; done)), H', ⟨by have := HK1.out; omega⟩, ⟨by (with_reducible repeat (first | apply Kd.R_alloc | apply Kd.R_drewN | apply Kd.R_drew)); exact Kd.R_mono (Kd.R_far (p := ⟨gb9, 2, none⟩) (Kd.R_far (p := ⟨gb9, 1, none⟩) (Kd.R_far (p := ⟨gb9, 0, none⟩) (Kd.R_mono HO_3.out (fun k_ hk => (⟨hk, hk.2⟩ : _ ∧ k_ ≠ gb9))) (fun _ hk => hk.2) (.string t5)) (fun _ hk => hk.2) (.string t6)) (fun _ hk => hk.2) (.bool t7)) (fun _ hk => trivial)⟩, ⟨by (with_reducible repeat (first | apply Kd.R_alloc | apply Kd.R_drewN | apply Kd.R_drew)); exact Kd.R_mono (Kd.R_far (p := ⟨gb9, 2, none⟩) (Kd.R_far (p := ⟨gb9, 1, none⟩) (Kd.R_far (p := ⟨gb9, 0, none⟩) (Kd.R_types HO_9.out BK9.out (by decide)) (fun _ hk => hk.2) (.string t5)) (fun _ hk => hk.2) (.string t6)) (fun _ hk => hk.2) (.bool t7)) (fun _ hk => trivial)⟩, ⟨by repeat (first | (with_reducible first | exact HB.out | apply below_alloc | apply pw_below_drewN | apply below_drew1 | refine below_set ?_ GE9.out) | exact HB.out)⟩⟩
          · rw [if_neg c7] at H
            exact absurd H (by simp)
        · rw [if_neg c6] at H
          exact absurd H (by simp)
      · rw [if_neg c5] at H
        have c5b0 : decide (x11_1 < (t1.length : Int)) = false := decide_eq_false c5
        clear c5
        obtain rfl := Option.some.inj H
        go_wp2
        go_ret
        exact ⟨_, by first | rfl | (simp [errW_none, errW_some] <;> rfl) | (simp [*, errW_none, errW_some] <;> rfl), by (with_reducible repeat (first | apply Kd.R_alloc | apply Kd.R_drewN | apply Kd.R_drew)); exact HO_3.out, by repeat (first | (with_reducible first | exact HB.out | apply below_alloc | apply pw_below_drewN | apply below_drew1) | exact HB.out)⟩
end Go.Proofs.YtebfpnbnoinhbaaGreatDoor.Q
