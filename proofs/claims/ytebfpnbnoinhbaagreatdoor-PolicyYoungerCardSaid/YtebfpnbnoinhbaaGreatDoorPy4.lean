/- scullerylaw14.PolicyYounger tells true of every two ages and lifetimes and every pair of rules. No condition. -/
import Derived.WalkSpells
import Derived.Maps.Own
import Derived.ChangeSlices
import Derived.Test.YtebfpnbnoinhbaaGreatDoorPy1
import Derived.Test.YtebfpnbnoinhbaaGreatDoorPy2
import Derived.Test.YtebfpnbnoinhbaaGreatDoorPy3
namespace Go.Proofs.YtebfpnbnoinhbaaGreatDoor.Q
open Go.RowKit Go.Proofs.YtebfpnbnoinhbaaGreatDoorW.PrintWords Go.Proofs.YtebfpnbnoinhbaaGreatDoorW.PrintLast Go.Proofs.YtebfpnbnoinhbaaGreatDoorW.PrintMore
set_option linter.unusedVariables false
set_option linter.unusedSimpArgs false
section
variable {P : Program} {ops : Array Oper} {Q : Exit → Act → World → Prop}
end
theorem slice_lh {P : Program} (t : TypeId) (h : P.underlying t = some .string) (s : ByteArray) (i j : Nat) (hij : i ≤ j) (hj : j ≤ s.size) (W : World) :
    (Instr.slice t (.string s) (some (.int .i64 (i : Int))) (some (.int .i64 (j : Int))) none).run P W = .ok (.string (s.extract i j)) W := by
  rw [run_slice_string_if W t s .i64 .i64 (i : Int) (j : Int) h, if_pos (by omega), if_pos (by omega)]
  simp
theorem drewN_below (w : World) (n : Nat) : Below w.heap.size w (w.drewN n) := pw_below_drewN (Below.refl _ _) n
theorem box_cell {W : World} {B : Nat} {v : Value} {t : TypeId} (h : W.heap[B]? = some (.cells #[v] t (0, 0))) : W.cell? ⟨B, 0, none⟩ = some v ∧ W.frozen? ⟨B, 0, none⟩ = false := by
  refine ⟨by simp [World.cell?, h], by simp [World.frozen?, h]⟩
theorem box_store {W : World} {B : Nat} {v u : Value} {t : TypeId} (h : W.heap[B]? = some (.cells #[v] t (0, 0))) : (W.setCell ⟨B, 0, none⟩ u).heap[B]? = some (.cells #[u] t (0, 0)) := by
  have hb := (Array.getElem?_eq_some_iff.1 h).1
  simp [World.setCell, Array.getElem?_modify, h]
theorem toList_inj {a b : ByteArray} (h : a.toList = b.toList) : a = b := by
  rw [ByteArray.toList_eq, ByteArray.toList_eq] at h
  cases a; cases b
  simp only at h
  rw [Array.toList_inj.1 h]
end Go.Proofs.YtebfpnbnoinhbaaGreatDoor.Q
namespace Go.Proofs.YtebfpnbnoinhbaaGreatDoor.Q
open Go.RowKit Go.ChangeMaps Go.Proofs.YtebfpnbnoinhbaaGreatDoorW.PrintWords Go.Proofs.YtebfpnbnoinhbaaGreatDoorW.PrintLast Go.Proofs.YtebfpnbnoinhbaaGreatDoorW.PrintMore
set_option linter.unusedVariables false
set_option linter.unusedSimpArgs false
section
variable {P : Program} {w : World} {ops : Array Oper} {rest : List Oper} {o : Oper} {a : Act} {Q : Exit → Act → World → Prop}
theorem run_findNow {k : TypeId} (hk : P.underlying k = some .string) (s : ByteArray) (es : List MapEntry) (r : Option (Nat × Value)) (hf : Instr.findNow .string (.string s) es 0 = some r) (w : World) :
    (Instr.findKey k (.string s) es).run P w = .ok r w := by
  simp [Instr.findKey, run_underlying hk, hf, Result.andThen]
theorem run_checkKey {k : TypeId} (hk : P.underlying k = some .string) (em : Bool) (s : ByteArray) (w : World) : (Instr.checkKey em 10000 k (.string s)).run P w = .ok () w := by
  have h : ∀ n, (Instr.checkKey em (n + 1) k (.string s)).run P w = .ok () w := fun n => by
    unfold Instr.checkKey
    simp [run_underlying hk, Result.andThen]
  exact h 9999
theorem run_insert {t k e : TypeId} (ht : P.underlying t = some (.map k e)) (hk : P.underlying k = some .string) {b : Nat} {es : Array MapEntry} {clock : Nat} (hb : w.heap[b]? = some (.map es clock)) (s : ByteArray) (u : Value)
    (hf : Instr.findNow .string (.string s) es.toList 0 = some none) :
    (Instr.mapUpdate t (.map (some b)) (.string s) u).run P w = .ok () (setBlock w b (.map (es.push ⟨.string s, u, clock⟩) (clock + 1))) := by
  simp [Instr.mapUpdate, run_underlying ht, MapKept.run_getObj_map hb, run_checkKey hk, run_findNow hk s es.toList none hf, MapKept.run_setObj_map _ hb, Result.andThen, setBlock]
theorem run_lookup_none {t k e : TypeId} (ht : P.underlying t = some (.map k e)) (hk : P.underlying k = some .string) {z : Value} (hz : (zeroValue e).run P w = .ok z w) {b : Nat} {es : Array MapEntry} {clock : Nat} (hb : w.heap[b]? = some (.map es clock)) (s : ByteArray)
    (hf : Instr.findNow .string (.string s) es.toList 0 = some none) :
    (Instr.lookup t (.map (some b)) (.string s) true).run P w = .ok (.tuple #[z, .bool false]) w := by
  simp [Instr.lookup, run_underlying ht, MapKept.run_getObj_map hb, run_checkKey hk, run_findNow hk s es.toList none hf, hz, Result.andThen]
theorem run_lookup_some {t k e : TypeId} (ht : P.underlying t = some (.map k e)) (hk : P.underlying k = some .string) {z : Value} (hz : (zeroValue e).run P w = .ok z w) {b : Nat} {es : Array MapEntry} {clock : Nat} (hb : w.heap[b]? = some (.map es clock)) (s : ByteArray)
    (p : Nat × Value) (hf : Instr.findNow .string (.string s) es.toList 0 = some (some p)) :
    (Instr.lookup t (.map (some b)) (.string s) true).run P w = .ok (.tuple #[p.2, .bool true]) w := by
  simp [Instr.lookup, run_underlying ht, MapKept.run_getObj_map hb, run_checkKey hk, run_findNow hk s es.toList (some p) hf, hz, Result.andThen]
theorem wpList_insert (hg : o.guard = none) (m x v : Operand) (t k e : TypeId) (hop : o.op = Op.insert t m x v) (ht : P.underlying t = some (.map k e)) (hk : P.underlying k = some .string) (b : Nat) (es : Array MapEntry) (clock : Nat) (s : ByteArray) (u : Value)
    (hm : a.eval m = .map (some b)) (hx : a.eval x = .string s) (hv : a.eval v = u) (hb : w.heap[b]? = some (.map es clock)) (hf : Instr.findNow .string (.string s) es.toList 0 = some none)
    (hK : ∀ w', w'.heap[b]? = some (.map (es.push ⟨.string s, u, clock⟩) (clock + 1)) → w.grownBy w' (some b) → wpList P ops Q rest (a.put o.dst undef) w') : wpList P ops Q (o :: rest) a w := by
  refine wpList_plain hg fun K' hK' => ?_
  have hrun := run_insert (P := P) ht hk hb s u hf
  unfold Oper.wp
  simp [execOp, hop, hm, hx, hv, hrun, Result.andThen]
  exact hK' _ _ (hK _ (heap_setBlock_same hb _) ⟨rfl, rfl, rfl, by simp [setBlock], fun i _ hi => heap_setBlock_other hb _ (fun e => hi (by rw [e]))⟩)
end
def Kps (w : World) (L : List (Nat × Obj)) (W : World) : Prop := (∀ p, p ∈ L → W.heap[p.1]? = some p.2) ∧ Below w.heap.size w W
theorem Kps.grown {w W W' : World} {L : List (Nat × Obj)} {b : Nat} (h : Kps w L W) (hg : W.grownBy W' (some b)) (hb : ∀ p, p ∈ L → p.1 ≠ b) (hw : w.heap.size ≤ b) : Kps w L W' :=
  ⟨fun p hp => by rw [hg.block p.1 (Array.getElem?_eq_some_iff.1 (h.1 p hp)).1 (fun e => hb p hp (by injection e))]; exact h.1 p hp,
   h.2.grown hg h.2.size (fun k e => by injection e with e; omega)⟩
theorem Kps.below {w W W' : World} {L : List (Nat × Obj)} (h : Kps w L W) (hb : Below W.heap.size W W') : Kps w L W' :=
  ⟨fun p hp => by rw [hb.block p.1 (Array.getElem?_eq_some_iff.1 (h.1 p hp)).1]; exact h.1 p hp, below_then h.2 h.2.size hb⟩
end Go.Proofs.YtebfpnbnoinhbaaGreatDoor.Q
namespace Go.Proofs.YtebfpnbnoinhbaaGreatDoor.Q
open Go.RowKit Go.Proofs.YtebfpnbnoinhbaaGreatDoorW.PrintWords Go.Proofs.YtebfpnbnoinhbaaGreatDoorW.PrintLast Go.Proofs.YtebfpnbnoinhbaaGreatDoorW.PrintMore
set_option linter.unusedVariables false
set_option linter.unusedSimpArgs false
def allFrom (p : Int → Bool) (s : ByteArray) (i : Nat) : Bool := (s.data.toList.drop i).all fun c => p (c.toNat : Int)
theorem allFrom_end (p : Int → Bool) (s : ByteArray) (i : Nat) (h : s.size ≤ i) : allFrom p s i = true := by
  unfold allFrom
  rw [List.drop_eq_nil_of_le (by rw [Array.length_toList]; exact h)]
  rfl
theorem allFrom_step (p : Int → Bool) (s : ByteArray) (i : Nat) (h : i < s.size) : allFrom p s i = (p (bt s (i : Int)) && allFrom p s (i + 1)) := by
  unfold allFrom
  have hl : i < s.data.toList.length := by rw [Array.length_toList]; exact h
  rw [List.drop_eq_getElem_cons hl, List.all_cons]
  congr 2
  have := bt_at s (i : Int) (by simpa using h)
  rw [← this]
  simp
  rfl
set_option maxHeartbeats 1000000 in
set_option maxRecDepth 100000 in
theorem all_any (F : Nat) (he : ∀ args w, (callFunc F args).run Tryz.prog w = .ok (.enter F args) w) (p : Int → Bool)
    (hF : ∀ (c : Int) (W : World), 0 ≤ c → c ≤ 255 → Calls Tryz.prog F #[.int .u8 c] W fun e w' => e = .returned (.bool (p c)) ∧ Below W.heap.size W w')
    (s : ByteArray) (w : World) (hs : s.size ≤ 9223372036854775807) :
    Calls Tryz.prog 150 #[.string s, .func (.func F) #[] #[]] w fun e w' => e = .returned (.bool (allFrom p s 0)) ∧ Below w.heap.size w w' := by
  have kb := fun W => print_bytes (P := Tryz.prog) 9 23 5 Tryz.underlying9 Tryz.underlying23 Tryz.underlying5 s W
  go_enter Tryz.func150, Tryz.ntmps150
  go_wp2
  have HR := bytes_reads w 5 s hs
  have HB0 : Below w.heap.size w (Lib.bytesWorld w 5 s) := bytes_below (Below.refl _ _) (Nat.le_refl _) 5 s
  clear kb
  generalize Lib.bytesWorld w 5 s = W0 at HR HB0 ⊢
  generalize grownCap w s.size 0 5 = cap
  have HR' := Aside0.mk HR
  have HB' := Aside0.mk HB0
  have HF := Aside0.mk hF
  clear HR HB0 hF
  go_loopw [10] (fun i wr => ∃ k : Nat, k ≤ s.size ∧ i = .int .i64 k ∧ Aside0 (allFrom p s 0 = allFrom p s k) ∧ Aside0 (Below W0.heap.size W0 wr)) (fun i _ => s.size - (intOf i).toNat)
  case atStart => exact ⟨0, Nat.zero_le _, rfl, ⟨rfl⟩, ⟨Below.refl _ _⟩⟩
  case round =>
    obtain ⟨k, hk, rfl, hA, hB⟩ := hrel
    by_cases hlt : k < s.size
    · have hd : decide (k < s.size) = true := decide_eq_true hlt
      have hst := Aside0.mk (allFrom_step p s k hlt)
      obtain ⟨ad, ea, hc⟩ := (HR'.out.below hB.out).at_ (k : Int) (by omega) (by omega)
      injection ea with ea
      subst ea
      rw [rd_bytesOf, add_plain] at hc
      simp only [Int.toNat_natCast] at hc
      have hr := bt_range s (k : Int)
      generalize bt s (k : Int) = c at hc hst hr
      have hp := HF.out c wr hr.1 hr.2
      cases hpc : p c with
      | true =>
        rw [hpc] at hp hst
        have HP := Aside0.mk hp
        clear hp hpc
        go_wp2_with (first | ((with_reducible refine HP.out.mono ?_); rintro e w' ⟨rfl, hb⟩; have hb' := Aside0.mk hb; clear hb))
        go_roundw
        case rel => exact ⟨k + 1, by omega, by go_num, ⟨by rw [hA.out, hst.out]; rfl⟩, ⟨below_then hB.out hB.out.size hb'.out⟩⟩
        case measure => simp [intOf]; omega
      | false =>
        rw [hpc] at hp hst
        have HP := Aside0.mk hp
        clear hp hpc
        go_wp2_with (first | ((with_reducible refine HP.out.mono ?_); rintro e w' ⟨rfl, hb⟩; have hb' := Aside0.mk hb; clear hb))
        go_ret
        exact ⟨by rw [hA.out, hst.out]; rfl, below_then (below_then HB'.out HB'.out.size hB.out) (below_then HB'.out HB'.out.size hB.out).size hb'.out⟩
    · have hd : decide (k < s.size) = false := decide_eq_false hlt
      have hend := Aside0.mk (allFrom_end p s k (by omega))
      go_wp2
      go_ret
      exact ⟨by rw [hA.out, hend.out]; rfl, below_then HB'.out HB'.out.size hB.out⟩
end Go.Proofs.YtebfpnbnoinhbaaGreatDoor.Q
namespace Go.Proofs.YtebfpnbnoinhbaaGreatDoor.Q
open Go.RowKit Go.Proofs.YtebfpnbnoinhbaaGreatDoorW.PrintWords Go.Proofs.YtebfpnbnoinhbaaGreatDoorW.PrintLast Go.Proofs.YtebfpnbnoinhbaaGreatDoorW.PrintMore
set_option linter.unusedVariables false
set_option linter.unusedSimpArgs false
def allDigitP (c : Int) : Bool := (ascii_digit.f c).getD false
theorem allDigitP_is (c : Int) : ascii_digit.f c = some (allDigitP c) := by
  unfold allDigitP
  cases h : ascii_digit.f c with
  | some b => rfl
  | none =>
    exfalso
    unfold ascii_digit.f at h
    repeat' split at h
    all_goals simp_all
def ascii_all_ascii_digit.f (a0 : ByteArray) (a1 : Unit) : Option Bool := if a0.size ≤ 9223372036854775807 then some (allFrom allDigitP a0 0) else none
theorem ascii_all_ascii_digit.calls (a0 : ByteArray) (a1 : Unit) (r : Bool) (w : World) (h : ascii_all_ascii_digit.f a0 a1 = some r) :
    Calls Tryz.prog 150 #[.string a0, .func (Fn.func 151) #[] #[]] w fun e w' => e = .returned (.bool r) ∧ Below w.heap.size w w' := by
  unfold ascii_all_ascii_digit.f at h
  split at h
  case isFalse => cases h
  rename_i hs
  obtain rfl := Option.some.inj h
  exact all_any 151 (enters_ Tryz.func151 (by kernel_rfl) rfl) allDigitP (fun c W h0 h1 => (ascii_digit.calls c _ W (allDigitP_is c)).mono fun e w' ⟨he, hw⟩ => ⟨he, hw.below⟩) a0 w hs
end Go.Proofs.YtebfpnbnoinhbaaGreatDoor.Q
namespace Go.Proofs.YtebfpnbnoinhbaaGreatDoor.Q
open Go.RowKit Go.Proofs.YtebfpnbnoinhbaaGreatDoorW.PrintWords Go.Proofs.YtebfpnbnoinhbaaGreatDoorW.PrintLast Go.Proofs.YtebfpnbnoinhbaaGreatDoorW.PrintMore
set_option linter.unusedVariables false
set_option linter.unusedSimpArgs false
def digStep (n c : Int) : Int := mn (10 * n + (c - 48)) 2147483648
def digGo : Nat → ByteArray → Nat → Int → Int
  | 0, _, _, n => n
  | k + 1, s, i, n => if i < s.size then digGo k s (i + 1) (digStep n (bt s i)) else n
def digS (s : ByteArray) : Int := digGo (s.size + 1) s 0 0
def ascii_Digits.f (a0 : ByteArray) : Option (Int × Bool) :=
  if a0.toList = ([] : List UInt8) then some (0, false) else if a0.size ≤ 9223372036854775807 then (if allFrom allDigitP a0 0 = true then some (digS a0, true) else some (0, false)) else none
theorem allFrom_at (p : Int → Bool) (s : ByteArray) : ∀ (d i k : Nat), k = i + d → k < s.size → allFrom p s i = true → p (bt s (k : Int)) = true
  | 0, i, k, e, hk, h => by
    subst e
    rw [allFrom_step p s k hk, Bool.and_eq_true] at h
    exact h.1
  | d + 1, i, k, e, hk, h => by
    rw [allFrom_step p s i (by omega), Bool.and_eq_true] at h
    exact allFrom_at p s d (i + 1) k (by omega) hk h.2
theorem digitP_range (c : Int) (h : allDigitP c = true) : 48 ≤ c ∧ c ≤ 57 := by
  unfold allDigitP ascii_digit.f at h
  split at h
  · rename_i h1
    simp at h
    omega
  · simp at h
theorem digStep_range (n c : Int) (h0 : 0 ≤ n) (h1 : n ≤ 2147483648) (h2 : 48 ≤ c ∧ c ≤ 57) : 0 ≤ digStep n c ∧ digStep n c ≤ 2147483648 := by
  unfold digStep mn
  split <;> omega
set_option maxHeartbeats 2000000 in
set_option maxRecDepth 100000 in
theorem ascii_Digits.calls (a0 : ByteArray) (r1 : Int) (r2 : Bool) (w : World) (h : ascii_Digits.f a0 = some (r1, r2)) :
    Calls Tryz.prog 114 #[.string a0] w fun e w' => e = .returned (.tuple #[.int .i64 r1, .bool r2]) ∧ Below w.heap.size w w' := by
  unfold ascii_Digits.f at h
  by_cases h1 : a0.toList = ([] : List UInt8)
  · rw [if_pos h1] at h
    have h' := Option.some.inj h
    simp only [Prod.mk.injEq] at h'
    obtain ⟨rfl, rfl⟩ := h'
    have e1 : (a0.toList == ([] : List UInt8)) = true := beq_iff_eq.mpr h1
    have e2 : a0.toList.isEmpty = true := by rw [h1]; rfl
    clear h h1
    go_enter Tryz.func114, Tryz.ntmps114
    go_wp2
    go_ret2
    exact ⟨rfl, Below.refl _ _⟩
  · rw [if_neg h1] at h
    have e1 : (a0.toList == ([] : List UInt8)) = false := beq_eq_false_iff_ne.mpr h1
    have e2 : a0.toList.isEmpty = false := by cases hh : a0.toList with | nil => exact absurd hh h1 | cons _ _ => rfl
    split at h
    case isFalse => cases h
    rename_i hs
    by_cases h2 : allFrom allDigitP a0 0 = true
    · rw [if_pos h2] at h
      have h' := Option.some.inj h
      simp only [Prod.mk.injEq] at h'
      obtain ⟨rfl, rfl⟩ := h'
      clear h h1
      have hall : ascii_all_ascii_digit.f a0 () = some true := by unfold ascii_all_ascii_digit.f; rw [if_pos hs, h2]
      have HALL := Aside0.mk hall
      have H2 := Aside0.mk h2
      clear hall h2
      have kb := fun W => print_bytes (P := Tryz.prog) 9 23 5 Tryz.underlying9 Tryz.underlying23 Tryz.underlying5 a0 W
      go_enter Tryz.func114, Tryz.ntmps114
      go_wp2_with (first | (go_at_call 150; (with_reducible refine (ascii_all_ascii_digit.calls a0 () true _ HALL.out).mono ?_); rintro e w1 ⟨rfl, hb⟩; have hb1 := Aside0.mk hb; clear hb))
      have HR := Aside0.mk (bytes_reads w1 5 a0 hs)
      have HB0 : Aside0 (Below w.heap.size w (Lib.bytesWorld w1 5 a0)) := ⟨bytes_below hb1.out hb1.out.size 5 a0⟩
      clear kb hb1
      generalize Lib.bytesWorld w1 5 a0 = W0 at HR HB0 ⊢
      generalize grownCap w1 a0.size 0 5 = cap
      generalize w1.heap.size = g at HR ⊢
      go_loopw [4, 17] (fun nn i wr => ∃ (k : Nat) (n : Int) (m : Nat), k ≤ a0.size ∧ i = .int .i64 k ∧ nn = .int .i64 n ∧ 0 ≤ n ∧ n ≤ 2147483648 ∧ a0.size < k + m ∧ Aside0 (digS a0 = digGo m a0 k n) ∧ Aside0 (Below W0.heap.size W0 wr)) (fun _ i _ => a0.size - (intOf i).toNat)
      case atStart => exact ⟨0, 0, a0.size + 1, Nat.zero_le _, rfl, rfl, by omega, by omega, by omega, ⟨rfl⟩, ⟨Below.refl _ _⟩⟩
      case round =>
        obtain ⟨k, n, m, hk, rfl, rfl, hn0, hn1, hm, hA, hB⟩ := hrel
        obtain ⟨m, rfl⟩ : ∃ m', m = m' + 1 := ⟨m - 1, by omega⟩
        have hS := hA.out
        clear hA
        simp only [digGo] at hS
        by_cases hlt : k < a0.size
        · have hd : decide (k < a0.size) = true := decide_eq_true hlt
          rw [if_pos hlt] at hS
          obtain ⟨ad, ea, hc⟩ := (HR.out.below hB.out).at_ (k : Int) (by omega) (by omega)
          injection ea with ea
          subst ea
          rw [rd_bytesOf, add_plain] at hc
          simp only [Int.toNat_natCast] at hc
          have hr := digitP_range _ (allFrom_at allDigitP a0 k 0 k (by omega) hlt H2.out)
          generalize bt a0 (k : Int) = c at hc hS hr
          have hst := digStep_range n c hn0 hn1 hr
          obtain ⟨hr0, hr1⟩ := hr
          have hmin : digStep n c = if 2147483648 < 10 * n + (c - 48) then 2147483648 else 10 * n + (c - 48) := rfl
          generalize hx : digStep n c = x at hS hst hmin
          obtain ⟨hs0, hs1⟩ := hst
          have hS' := Aside0.mk hS
          clear hS hx
          by_cases hgt : 2147483648 < 10 * n + (c - 48)
          · rw [if_pos hgt] at hmin
            have HM := Aside0.mk hmin
            clear hmin
            go_wp2
            go_roundw
            case rel => exact ⟨k + 1, x, m, by omega, by go_num, by rw [HM.out], hs0, hs1, by omega, hS', hB⟩
            case measure => simp [intOf]; omega
          · rw [if_neg hgt] at hmin
            have HM := Aside0.mk hmin
            clear hmin
            go_wp2
            go_roundw
            case rel => exact ⟨k + 1, x, m, by omega, by go_num, by rw [HM.out], hs0, hs1, by omega, hS', hB⟩
            case measure => simp [intOf]; omega
        · have hd : decide (k < a0.size) = false := decide_eq_false hlt
          rw [if_neg hlt] at hS
          have hS' := Aside0.mk hS
          clear hS
          go_wp2
          go_ret2
          exact ⟨by rw [hS'.out]; rfl, below_then HB0.out HB0.out.size hB.out⟩
    · rw [if_neg h2] at h
      have h' := Option.some.inj h
      simp only [Prod.mk.injEq] at h'
      obtain ⟨rfl, rfl⟩ := h'
      clear h h1
      have hall : ascii_all_ascii_digit.f a0 () = some false := by unfold ascii_all_ascii_digit.f; rw [if_pos hs]; simpa using h2
      have HALL := Aside0.mk hall
      clear hall h2
      go_enter Tryz.func114, Tryz.ntmps114
      go_wp2_with (first | (go_at_call 150; (with_reducible refine (ascii_all_ascii_digit.calls a0 () false _ HALL.out).mono ?_); rintro e w1 ⟨rfl, hb⟩; have hb1 := Aside0.mk hb; clear hb))
      go_ret2
      exact ⟨rfl, hb1.out⟩
end Go.Proofs.YtebfpnbnoinhbaaGreatDoor.Q
namespace Go.Proofs.YtebfpnbnoinhbaaGreatDoor.Q
open Go.RowKit Go.Proofs.YtebfpnbnoinhbaaGreatDoorW.PrintWords Go.Proofs.YtebfpnbnoinhbaaGreatDoorW.PrintLast Go.Proofs.YtebfpnbnoinhbaaGreatDoorW.PrintMore
attribute [local go_sem] max2_int max_two
set_option linter.unusedVariables false
set_option linter.unusedSimpArgs false
def legacy_Directive_number.f (a0_0 : ByteArray) (a0_1 : ByteArray) (a0_2 : Bool) : Option (Int) := (ascii_Digits.f a0_1).bind fun bt2 => (some bt2.1)
set_option maxHeartbeats 8000000 in
set_option maxRecDepth 100000 in
theorem legacy_Directive_number.calls (a0_0 : ByteArray) (a0_1 : ByteArray) (a0_2 : Bool) (r : Int) (w : World) (h : legacy_Directive_number.f a0_0 a0_1 a0_2 = some r) :
    Calls Tryz.prog 79 #[.agg #[.string a0_0, .string a0_1, .bool a0_2]] w fun e w' => e = .returned (.int .i64 r) ∧ Below w.heap.size w w' := by
  have hu130 := Tryz.underlying130
  have HB := Aside0.mk (Below.refl w.heap.size w)
  have H : ((ascii_Digits.f a0_1).bind fun bt2 => (some bt2.1)) = some r := h
  clear h
  replace H := Option.bind_eq_some_iff.mp H
  obtain ⟨⟨t2, t3⟩, A20, H⟩ := H
  replace H : (some t2) = some r := H
  have A2 := Aside0.mk A20
  clear A20
  obtain rfl := Option.some.inj H
  go_enter Tryz.func79, Tryz.ntmps79
  go_wp2_with (first | ((with_reducible refine gate_dst (N := 1) rfl ?_); refine box_event ?hg (N := 1) ?hd (cs := #[.string a0_0, .string a0_1, .bool a0_2]) (t := 130) ?hr ?_; (case hd => rfl); (case hg => rfl); (case hr => first | (go_simp; done) | (go_simp; rfl)); intro gb1 hg w3 hbox hb; have n0_ := Aside0.mk (below_step (by repeat (first | (with_reducible first | exact HB.out | apply below_alloc | apply pw_below_drewN | apply below_drew1) | exact HB.out)) hb); have n1_ := Aside0.mk (hbox); have n2_ := Aside0.mk ((by rw [hg]; exact (below_size (by repeat (first | (with_reducible first | exact HB.out | apply below_alloc | apply pw_below_drewN | apply below_drew1) | exact HB.out))) : w.heap.size ≤ gb1)); have n3_ := Aside0.mk ((by rw [hg]; exact (below_size (by repeat (first | (with_reducible first | exact HB.out | apply below_alloc | apply pw_below_drewN | apply below_drew1) | exact HB.out))) : w.heap.size ≤ gb1)); clear HB; have HB := n0_; have BK1 := n1_; have GW1 := n2_; have GE1 := n3_; clear n0_ n1_ n2_ n3_; clear hb hbox hg; have hcz4_0 : w3.cell? ⟨gb1, 0, none⟩ = some (.string a0_0) := (blk_cell BK1.out 0).trans rfl; have hcz4_1 : w3.cell? ⟨gb1, 1, none⟩ = some (.string a0_1) := (blk_cell BK1.out 1).trans rfl; have hcz4_2 : w3.cell? ⟨gb1, 2, none⟩ = some (.bool a0_2) := (blk_cell BK1.out 2).trans rfl; have hfz4_0 := blk_frozen BK1.out 0; have hfz4_1 := blk_frozen BK1.out 1; have hfz4_2 := blk_frozen BK1.out 2) | ((with_reducible refine gate_callee (f := 114) rfl ?_); refine goesL_ (some 8) rfl rfl Tryz.func114 (by kernel_rfl) rfl #[.string a0_1] rfl (by (try simp only [List.map_toArray, List.map_cons, List.map_nil]); first | done | rfl | (simp only [List.length_drop, List.length_take]; rfl)) ?_; (with_reducible refine (ascii_Digits.calls a0_1 t2 t3 _ A2.out).mono ?_); rintro e w5 ⟨rfl, hb⟩; refine ⟨_, rfl, ?_⟩; have n0_ := Aside0.mk (blk_below (g := gb1) (o := .cells #[.string a0_0, .string a0_1, .bool a0_2] 130 (0, 0)) (by (with_reducible repeat (first | refine blk_drewN ?_ _ | refine blk_drew ?_ | refine blk_alloc ?_ _)); exact BK1.out) hb); have n1_ := Aside0.mk (below_step (by repeat (first | (with_reducible first | exact HB.out | apply below_alloc | apply pw_below_drewN | apply below_drew1 | refine below_set ?_ GE1.out) | exact HB.out)) hb); clear BK1; clear HB; have BK1 := n0_; have HB := n1_; clear n0_ n1_; (try clear hb); (try clear hb2); (try clear hk); (try clear hi)))
  go_ret
  exact ⟨by first | rfl | (simp [errW_none, errW_some] <;> rfl) | (simp [*, errW_none, errW_some] <;> rfl), by repeat (first | (with_reducible first | exact HB.out | apply below_alloc | apply pw_below_drewN | apply below_drew1 | refine below_set ?_ GE1.out) | exact HB.out)⟩
end Go.Proofs.YtebfpnbnoinhbaaGreatDoor.Q
namespace Go.Proofs.YtebfpnbnoinhbaaGreatDoor.Q
open Go.RowKit Go.ChangeMaps Go.Proofs.YtebfpnbnoinhbaaGreatDoorW.PrintWords Go.Proofs.YtebfpnbnoinhbaaGreatDoorW.PrintLast Go.Proofs.YtebfpnbnoinhbaaGreatDoorW.PrintMore
set_option linter.unusedVariables false
set_option linter.unusedSimpArgs false
abbrev RulesS := S34
abbrev DirS := S130
def nm0 : ByteArray := ⟨#[110, 111, 45, 115, 116, 111, 114, 101]⟩
def nm1 : ByteArray := ⟨#[110, 111, 45, 99, 97, 99, 104, 101]⟩
def nm2 : ByteArray := ⟨#[112, 114, 105, 118, 97, 116, 101]⟩
def nm3 : ByteArray := ⟨#[112, 117, 98, 108, 105, 99]⟩
def nm4 : ByteArray := ⟨#[109, 117, 115, 116, 45, 114, 101, 118, 97, 108, 105, 100, 97, 116, 101]⟩
def nm5 : ByteArray := ⟨#[112, 114, 111, 120, 121, 45, 114, 101, 118, 97, 108, 105, 100, 97, 116, 101]⟩
def nm6 : ByteArray := ⟨#[105, 109, 109, 117, 116, 97, 98, 108, 101]⟩
def nm7 : ByteArray := ⟨#[111, 110, 108, 121, 45, 105, 102, 45, 99, 97, 99, 104, 101, 100]⟩
def nm8 : ByteArray := ⟨#[109, 97, 120, 45, 97, 103, 101]⟩
def nm9 : ByteArray := ⟨#[115, 45, 109, 97, 120, 97, 103, 101]⟩
def nm10 : ByteArray := ⟨#[109, 97, 120, 45, 115, 116, 97, 108, 101]⟩
def nm11 : ByteArray := ⟨#[109, 105, 110, 45, 102, 114, 101, 115, 104]⟩
def nm12 : ByteArray := ⟨#[115, 116, 97, 108, 101, 45, 105, 102, 45, 101, 114, 114, 111, 114]⟩
def ofSign (s : ByteArray) : Option Nat := if s = nm0 then some 0 else if s = nm1 then some 1 else if s = nm2 then some 2 else if s = nm3 then some 3 else if s = nm4 then some 4 else if s = nm5 then some 5 else if s = nm6 then some 6 else if s = nm7 then some 7 else none
def ofNum (s : ByteArray) : Option Nat := if s = nm8 then some 8 else if s = nm9 then some 9 else if s = nm10 then some 10 else if s = nm11 then some 11 else if s = nm12 then some 12 else none
def rulesCells (r : RulesS) : Array Value := #[.bool r.f0, .bool r.f1, .bool r.f2, .bool r.f3, .bool r.f4, .bool r.f5, .bool r.f6, .bool r.f7, .int .i64 r.f8, .int .i64 r.f9, .int .i64 r.f10, .int .i64 r.f11, .int .i64 r.f12]
def setSign (r : RulesS) : Nat → RulesS
  | 0 => { r with f0 := true }
  | 1 => { r with f1 := true }
  | 2 => { r with f2 := true }
  | 3 => { r with f3 := true }
  | 4 => { r with f4 := true }
  | 5 => { r with f5 := true }
  | 6 => { r with f6 := true }
  | _ => { r with f7 := true }
def getNum (r : RulesS) : Nat → Int
  | 8 => r.f8
  | 9 => r.f9
  | 10 => r.f10
  | 11 => r.f11
  | _ => r.f12
def setNum (r : RulesS) (v : Int) : Nat → RulesS
  | 8 => { r with f8 := v }
  | 9 => { r with f9 := v }
  | 10 => { r with f10 := v }
  | 11 => { r with f11 := v }
  | _ => { r with f12 := v }
def ent (B : Nat) (i : Nat) (s : ByteArray) (c : Nat) : MapEntry := ⟨.string s, .pointer (some ⟨B, i, none⟩), c⟩
def esSigns (B : Nat) : Array MapEntry := #[ent B 0 nm0 0, ent B 1 nm1 1, ent B 2 nm2 2, ent B 3 nm3 3, ent B 4 nm4 4, ent B 5 nm5 5, ent B 6 nm6 6, ent B 7 nm7 7]
def esNums (B : Nat) : Array MapEntry := #[ent B 8 nm8 0, ent B 9 nm9 1, ent B 10 nm10 2, ent B 11 nm11 3, ent B 12 nm12 4]
def digV (s : ByteArray) : Int := ((ascii_Digits.f s).getD (0, false)).1
def numStep (r : RulesS) (d : DirS) : RulesS := match ofNum d.f0 with
  | none => r
  | some j => if 0 ≤ getNum r j then r else if d.f0 = nm10 ∧ d.f2 = false then setNum r 2147483648 j else setNum r (digV d.f1) j
def signStep (r : RulesS) (d : DirS) : RulesS := match ofSign d.f0 with
  | none => r
  | some i => setSign r i
def ofStep (r : RulesS) (d : DirS) : RulesS := numStep (signStep r d) d
def none0 : RulesS := ⟨false, false, false, false, false, false, false, false, -1, -1, -1, -1, -1⟩
def ofGo : Nat → List DirS → Nat → RulesS → RulesS
  | 0, _, _, r => r
  | n + 1, l, k, r => if k < l.length then ofGo n l (k + 1) (ofStep r (rd_T130 l (k : Int))) else r
def ofS (l : List DirS) : RulesS := ofGo (l.length + 1) l 0 none0
def legacy_Of.f (l0 : List DirS) : Option (Bool × Bool × Bool × Bool × Bool × Bool × Bool × Bool × Int × Int × Int × Int × Int) :=
  if l0.length < 8796093022208 ∧ ∀ d ∈ l0, d.f1.size ≤ 9223372036854775807 then some ((ofS l0).f0, (ofS l0).f1, (ofS l0).f2, (ofS l0).f3, (ofS l0).f4, (ofS l0).f5, (ofS l0).f6, (ofS l0).f7, (ofS l0).f8, (ofS l0).f9, (ofS l0).f10, (ofS l0).f11, (ofS l0).f12) else none
theorem ofSign_lt {s : ByteArray} {i : Nat} (h : ofSign s = some i) : i < 8 := by
  unfold ofSign at h
  repeat (split at h; · (injection h with h; omega))
  cases h
theorem ofNum_lt {s : ByteArray} {i : Nat} (h : ofNum s = some i) : 8 ≤ i ∧ i < 13 := by
  unfold ofNum at h
  repeat (split at h; · (injection h with h; omega))
  cases h
theorem sign_num {s : ByteArray} {i : Nat} (h : ofSign s = some i) : ofNum s = none := by
  unfold ofSign at h
  repeat (split at h; · (rename_i e; subst e; rfl))
  cases h
theorem find_cons (s n : ByteArray) (B i c : Nat) (es : List MapEntry) (k : Nat) : Instr.findNow .string (.string s) (ent B i n c :: es) k = if s = n then some (some (k, .pointer (some ⟨B, i, none⟩))) else Instr.findNow .string (.string s) es (k + 1) := by
  by_cases h : s = n
  · subst h
    have hb : (s == s) = true := (MapKept.bytes_beq s s).2 rfl
    simp [Instr.findNow, Instr.sameNow, ent, hb]
  · have hb : (s == n) = false := by
      cases hh : s == n with
      | false => rfl
      | true => exact absurd ((MapKept.bytes_beq s n).1 hh) h
    simp [Instr.findNow, Instr.sameNow, ent, h, hb]
theorem find_signs (s : ByteArray) (B : Nat) : Instr.findNow .string (.string s) (esSigns B).toList 0 = some ((ofSign s).map fun i => (i, .pointer (some ⟨B, i, none⟩))) := by
  unfold ofSign esSigns
  simp only [find_cons]
  repeat (split; · rfl)
  rfl
theorem find_nums (s : ByteArray) (B : Nat) : Instr.findNow .string (.string s) (esNums B).toList 0 = some ((ofNum s).map fun i => (i - 8, .pointer (some ⟨B, i, none⟩))) := by
  unfold ofNum esNums
  simp only [find_cons]
  repeat (split; · rfl)
  rfl
theorem rulesCells_sign (r : RulesS) (i : Nat) (hi : i < 8) : (rulesCells r).set! i (.bool true) = rulesCells (setSign r i) := by
  have : i = 0 ∨ i = 1 ∨ i = 2 ∨ i = 3 ∨ i = 4 ∨ i = 5 ∨ i = 6 ∨ i = 7 := by omega
  rcases this with rfl | rfl | rfl | rfl | rfl | rfl | rfl | rfl <;> rfl
theorem rulesCells_num (r : RulesS) (v : Int) (i : Nat) (h8 : 8 ≤ i) (hi : i < 13) : (rulesCells r).set! i (.int .i64 v) = rulesCells (setNum r v i) := by
  have : i = 8 ∨ i = 9 ∨ i = 10 ∨ i = 11 ∨ i = 12 := by omega
  rcases this with rfl | rfl | rfl | rfl | rfl <;> rfl
theorem rulesCells_getSign (r : RulesS) (i : Nat) (hi : i < 8) : ∃ b, (rulesCells r)[i]? = some (.bool b) := by
  have : i = 0 ∨ i = 1 ∨ i = 2 ∨ i = 3 ∨ i = 4 ∨ i = 5 ∨ i = 6 ∨ i = 7 := by omega
  rcases this with rfl | rfl | rfl | rfl | rfl | rfl | rfl | rfl <;> exact ⟨_, rfl⟩
theorem rulesCells_getNum (r : RulesS) (i : Nat) (h8 : 8 ≤ i) (hi : i < 13) : (rulesCells r)[i]? = some (.int .i64 (getNum r i)) := by
  have : i = 8 ∨ i = 9 ∨ i = 10 ∨ i = 11 ∨ i = 12 := by omega
  rcases this with rfl | rfl | rfl | rfl | rfl <;> rfl
theorem cells_at2 {W : World} {b t : Nat} {cs : Array Value} (h : W.heap[b]? = some (.cells cs t (0, 0))) (i : Nat) : W.cell? ⟨b, i, none⟩ = cs[i]? ∧ W.frozen? ⟨b, i, none⟩ = false := by
  refine ⟨by simp [World.cell?, h], by simp [World.frozen?, h]⟩
theorem cells_set {W : World} {b t : Nat} {cs : Array Value} (h : W.heap[b]? = some (.cells cs t (0, 0))) (i : Nat) (u : Value) : (W.setCell ⟨b, i, none⟩ u).heap[b]? = some (.cells (cs.set! i u) t (0, 0)) := by
  simp [World.setCell, Array.getElem?_modify, h]
theorem digits_total (s : ByteArray) (h : s.size ≤ 9223372036854775807) : ∃ y, ascii_Digits.f s = some y := by
  unfold ascii_Digits.f
  by_cases h1 : s.toList = ([] : List UInt8)
  · rw [if_pos h1]; exact ⟨_, rfl⟩
  · rw [if_neg h1, if_pos h]
    by_cases h2 : allFrom allDigitP s 0 = true
    · rw [if_pos h2]; exact ⟨_, rfl⟩
    · rw [if_neg h2]; exact ⟨_, rfl⟩
theorem heap_old3 {w : World} {k : Nat} {x : Obj} (o : Obj) (h : w.heap[k]? = some x) : (w.alloc o).heap[k]? = some x := by
  rw [Below.heap_alloc w o k (Array.getElem?_eq_some_iff.1 h).1]; exact h
theorem of_lt (w w1 : World) (hb : Below (w.alloc (.cells #[.bool false, .bool false, .bool false, .bool false, .bool false, .bool false, .bool false, .bool false, .int .i64 0, .int .i64 0, .int .i64 0, .int .i64 0, .int .i64 0] 34 (0, 0))).heap.size (w.alloc (.cells #[.bool false, .bool false, .bool false, .bool false, .bool false, .bool false, .bool false, .bool false, .int .i64 0, .int .i64 0, .int .i64 0, .int .i64 0, .int .i64 0] 34 (0, 0))) w1) : w.heap.size < w1.heap.size := by
  have := hb.size
  simp at this
  omega
theorem of_start (w w1 : World) (hb : Below (w.alloc (.cells #[.bool false, .bool false, .bool false, .bool false, .bool false, .bool false, .bool false, .bool false, .int .i64 0, .int .i64 0, .int .i64 0, .int .i64 0, .int .i64 0] 34 (0, 0))).heap.size (w.alloc (.cells #[.bool false, .bool false, .bool false, .bool false, .bool false, .bool false, .bool false, .bool false, .int .i64 0, .int .i64 0, .int .i64 0, .int .i64 0, .int .i64 0] 34 (0, 0))) w1) :
    Kps w [(w.heap.size, .cells #[.bool false, .bool false, .bool false, .bool false, .bool false, .bool false, .bool false, .bool false, .int .i64 0, .int .i64 0, .int .i64 0, .int .i64 0, .int .i64 0] 34 (0, 0)), (w1.heap.size, .cells (rulesCells none0) 34 (0, 0))] ((w1.alloc (.cells (rulesCells none0) 34 (0, 0))).alloc (.map #[] 0)) := by
  have hB1 : Below w.heap.size w w1 := below_then ((Below.refl _ w).alloc (Nat.le_refl _) _) (by simp) hb
  refine ⟨fun p hp => ?_, (hB1.alloc hB1.size _).alloc (by have := hB1.size; simp; omega) _⟩
  simp only [List.mem_cons, List.not_mem_nil, or_false] at hp
  rcases hp with rfl | rfl
  · exact heap_old3 _ (heap_old3 _ (by rw [hb.block _ (by simp)]; exact heap_alloc_new w _))
  · exact heap_old3 _ (heap_alloc_new w1 _)
theorem of_start1 (w1 : World) : ((w1.alloc (.cells (rulesCells none0) 34 (0, 0))).alloc (.map #[] 0)).heap[w1.heap.size + 1]? = some (.map #[] 0) := by
  have h := heap_alloc_new (w1.alloc (.cells (rulesCells none0) 34 (0, 0))) (.map #[] 0)
  rw [World.size_alloc] at h
  exact h
theorem of_mid {w W : World} {a b : Nat × Obj} {m : Nat} {x : Obj} (h : Kps w [a, b] W) (hm : W.heap[m]? = some x) : Kps w [a, b, (m, x)] (W.alloc (.map #[] 0)) := by
  refine ⟨fun p hp => ?_, h.2.alloc h.2.size _⟩
  simp only [List.mem_cons, List.not_mem_nil, or_false] at hp
  rcases hp with rfl | rfl | rfl
  · exact heap_old3 _ (h.1 _ (by simp))
  · exact heap_old3 _ (h.1 _ (by simp))
  · exact heap_old3 _ hm
def OfI (w : World) (r3 m1 m2 : Nat) (r : RulesS) (W : World) : Prop := Kps w [(w.heap.size, .cells #[.bool false, .bool false, .bool false, .bool false, .bool false, .bool false, .bool false, .bool false, .int .i64 0, .int .i64 0, .int .i64 0, .int .i64 0, .int .i64 0] 34 (0, 0)), (r3, .cells (rulesCells r) 34 (0, 0)), (m1, .map (esSigns r3) 8), (m2, .map (esNums r3) 5)] W
section
variable {w : World} {r3 m1 m2 : Nat} {r : RulesS} {W W' : World}
theorem OfI.zero (h : OfI w r3 m1 m2 r W) : W.heap[w.heap.size]? = some (.cells #[.bool false, .bool false, .bool false, .bool false, .bool false, .bool false, .bool false, .bool false, .int .i64 0, .int .i64 0, .int .i64 0, .int .i64 0, .int .i64 0] 34 (0, 0)) := h.1 _ (List.mem_cons_self ..)
theorem OfI.rules (h : OfI w r3 m1 m2 r W) : W.heap[r3]? = some (.cells (rulesCells r) 34 (0, 0)) := h.1 _ (List.mem_cons_of_mem _ (List.mem_cons_self ..))
theorem OfI.sg (h : OfI w r3 m1 m2 r W) : W.heap[m1]? = some (.map (esSigns r3) 8) := h.1 _ (List.mem_cons_of_mem _ (List.mem_cons_of_mem _ (List.mem_cons_self ..)))
theorem OfI.nu (h : OfI w r3 m1 m2 r W) : W.heap[m2]? = some (.map (esNums r3) 5) := h.1 _ (List.mem_cons_of_mem _ (List.mem_cons_of_mem _ (List.mem_cons_of_mem _ (List.mem_cons_self ..))))
theorem OfI.below (h : OfI w r3 m1 m2 r W) (hb : Below W.heap.size W W') : OfI w r3 m1 m2 r W' := Kps.below h hb
theorem OfI.set (h : OfI w r3 m1 m2 r W) {i : Nat} {u : Value} {r' : RulesS} (h0 : w.heap.size < r3) (h1 : r3 ≠ m1) (h2 : r3 ≠ m2) (hw : w.heap.size ≤ m2) (he : (rulesCells r).set! i u = rulesCells r') : OfI w r3 m1 m2 r' (W.setCell ⟨r3, i, none⟩ u) := by
  refine ⟨fun p hp => ?_, h.2.setCell (by simp; omega) u⟩
  simp only [List.mem_cons, List.not_mem_nil, or_false] at hp
  rcases hp with rfl | rfl | rfl | rfl
  · rw [Below.heap_setCell W _ u _ (by simp; omega)]; exact h.zero
  · rw [← he]; exact cells_set h.rules i u
  · rw [Below.heap_setCell W _ u _ (by simp; omega)]; exact h.sg
  · rw [Below.heap_setCell W _ u _ (by simp; omega)]; exact h.nu
end
theorem of_ready {w W : World} {r3 m1 m2 : Nat} (h : Kps w [(w.heap.size, .cells #[.bool false, .bool false, .bool false, .bool false, .bool false, .bool false, .bool false, .bool false, .int .i64 0, .int .i64 0, .int .i64 0, .int .i64 0, .int .i64 0] 34 (0, 0)), (r3, .cells (rulesCells none0) 34 (0, 0)), (m1, .map (esSigns r3) 8)] W) (hm : W.heap[m2]? = some (.map (esNums r3) 5)) : OfI w r3 m1 m2 none0 W := by
  refine ⟨fun p hp => ?_, h.2⟩
  simp only [List.mem_cons, List.not_mem_nil, or_false] at hp
  rcases hp with rfl | rfl | rfl | rfl
  · exact h.1 _ (by simp)
  · exact h.1 _ (by simp)
  · exact h.1 _ (by simp)
  · exact hm
set_option maxHeartbeats 8000000 in
set_option maxRecDepth 100000 in
theorem legacy_Of.calls (A0 : Option Addr) (c0 : Nat) (l0 : List DirS) (r1 : Bool) (r2 : Bool) (r3 : Bool) (r4 : Bool) (r5 : Bool) (r6 : Bool) (r7 : Bool) (r8 : Bool) (r9 : Int) (r10 : Int) (r11 : Int) (r12 : Int) (r13 : Int) (w : World) (hr0 : Kd.C k130 w A0 l0.length l0) (hc0 : l0.length ≤ c0) (h : legacy_Of.f l0 = some (r1, r2, r3, r4, r5, r6, r7, r8, r9, r10, r11, r12, r13)) :
    Calls Tryz.prog 48 #[.slice A0 l0.length c0] w fun e w' => e = .returned (.agg #[.bool r1, .bool r2, .bool r3, .bool r4, .bool r5, .bool r6, .bool r7, .bool r8, .int .i64 r9, .int .i64 r10, .int .i64 r11, .int .i64 r12, .int .i64 r13]) ∧ Below w.heap.size w w' := by
  unfold legacy_Of.f at h
  split at h
  case isFalse => cases h
  rename_i hcond
  obtain ⟨hlen, hdig⟩ := hcond
  have h' := Option.some.inj h
  simp only [Prod.mk.injEq] at h'
  obtain ⟨rfl, rfl, rfl, rfl, rfl, rfl, rfl, rfl, rfl, rfl, rfl, rfl, rfl⟩ := h'
  clear h
  have hmm : ∀ W : World, (Instr.makeMap 126 none).run Tryz.prog W = .ok (.map (some W.heap.size)) (W.alloc (.map #[] 0)) := fun W => by simp [Instr.makeMap, run_underlying Tryz.underlying126, Result.andThen]
  have hmm2 : ∀ W : World, (Instr.makeMap 128 none).run Tryz.prog W = .ok (.map (some W.heap.size)) (W.alloc (.map #[] 0)) := fun W => by simp [Instr.makeMap, run_underlying Tryz.underlying128, Result.andThen]
  go_enter Tryz.func48, Tryz.ntmps48
  go_wp2_with (first
    | (go_at_call 20; (with_reducible refine (legacy_None.calls false false false false false false false false (-1) (-1) (-1) (-1) (-1) _ rfl).mono ?_); rintro e w1 ⟨rfl, hb⟩; have hb1 := Aside0.mk hb; clear hb; have hO := Aside0.mk (of_start w w1 hb1.out); have hm1 := Aside0.mk (of_start1 w1); have hlt := of_lt w w1 hb1.out)
    | (refine wpList_insert rfl _ _ _ 126 9 125 rfl Tryz.underlying126 Tryz.underlying9 _ _ _ _ _ rfl rfl rfl hm1.out (by first | rfl | decide) ?_; intro Wn hmn hgn; replace hO := Aside0.mk (hO.out.grown hgn (by intro p hp; simp at hp; rcases hp with rfl | rfl <;> simp <;> omega) (by omega)); replace hm1 := Aside0.mk hmn; clear hmn hgn)
    | (refine wpList_insert rfl _ _ _ 128 9 127 rfl Tryz.underlying128 Tryz.underlying9 _ _ _ _ _ rfl rfl rfl hm2.out (by first | rfl | decide) ?_; intro Wn hmn hgn; replace hO := Aside0.mk (hO.out.grown hgn (by intro p hp; simp at hp; rcases hp with rfl | rfl | rfl <;> simp <;> omega) (by omega)); replace hm2 := Aside0.mk hmn; clear hmn hgn)
    | (obtain ⟨m2, hm2e⟩ : ∃ m, m = Wn.heap.size := ⟨_, rfl⟩; refine wpList_insert rfl _ _ _ 128 9 127 rfl Tryz.underlying128 Tryz.underlying9 _ _ _ _ _ rfl rfl rfl (heap_alloc_new _ _) (by first | rfl | decide) ?_; intro Wn hmn hgn; have hlt2 := (Array.getElem?_eq_some_iff.1 hm1.out).1; have hm1c : Aside0 (_ = some (Obj.map (esSigns w1.heap.size) 8)) := ⟨hm1.out⟩; clear hm1; replace hO := Aside0.mk ((of_mid hO.out hm1c.out).grown hgn (by intro p hp; simp at hp; rcases hp with rfl | rfl | rfl <;> simp <;> omega) (by omega)); have hm2 := Aside0.mk hmn; clear hmn hgn))
  have hI0 := Aside0.mk (of_ready (m2 := m2) hO.out (by rw [hm2e]; exact hm2.out))
  rw [← hm2e]
  clear hO hm2 hm1c hb1 hmm hmm2
  have hr3 : w1.heap.size ≠ m2 := by omega
  have hw2 : w.heap.size ≤ m2 := by omega
  clear hm2e hlt2
  generalize w1.heap.size = r3 at hI0 hlt hr3 ⊢
  have hz1 : ∀ W : World, (zeroValue 125).run Tryz.prog W = .ok (.pointer none) W := fun W => Tryz.zeroValue125 W
  have hz2 : ∀ W : World, (zeroValue 127).run Tryz.prog W = .ok (.pointer none) W := fun W => Tryz.zeroValue127 W
  go_loopw [32] (fun i wr => ∃ (k m : Nat) (r : RulesS), k ≤ l0.length ∧ i = .int .i64 k ∧ l0.length < k + m ∧ Aside0 (ofS l0 = ofGo m l0 k r) ∧ Aside0 (OfI w r3 (r3 + 1) m2 r wr)) (fun i _ => l0.length - (intOf i).toNat)
  case atStart => exact ⟨0, l0.length + 1, none0, Nat.zero_le _, rfl, by omega, ⟨rfl⟩, hI0⟩
  case round =>
    clear hI0
    obtain ⟨k, m, r, hk, rfl, hm, hA, hI⟩ := hrel
    obtain ⟨m, rfl⟩ : ∃ m', m = m' + 1 := ⟨m - 1, by omega⟩
    have hS := hA.out
    clear hA
    simp only [ofGo] at hS
    by_cases hlt2 : k < l0.length
    · have hd : decide (k < l0.length) = true := decide_eq_true hlt2
      rw [if_pos hlt2] at hS
      obtain ⟨ad, e, hx0, hx1, hx2⟩ := at_T130 hr0 (k : Int) (by omega) (by omega)
      cases e
      replace hx0 := (hI.out.2.cell (World.block_lt_of_cell? w _ hx0)).trans hx0
      replace hx1 := (hI.out.2.cell (World.block_lt_of_cell? w _ hx1)).trans hx1
      replace hx2 := (hI.out.2.cell (World.block_lt_of_cell? w _ hx2)).trans hx2
      simp only [Int.toNat_natCast] at hx0 hx1 hx2
      have hmem : rd_T130 l0 (k : Int) ∈ l0 := by
        unfold rd_T130
        simp only [Int.toNat_natCast, List.getD_eq_getElem?_getD, List.getElem?_eq_getElem hlt2, Option.getD_some]
        exact List.getElem_mem _
      have hdg := hdig _ hmem
      generalize rd_T130 l0 (k : Int) = d at hx0 hx1 hx2 hS hdg
      clear hmem
      obtain ⟨W', hW'⟩ : ∃ W', W' = wr.alloc (.cells #[.string d.f0, .string d.f1, .bool d.f2] 130 (0, 0)) := ⟨_, rfl⟩
      have hI' : OfI w r3 (r3 + 1) m2 r W' := by rw [hW']; exact hI.out.below (below_alloc (Below.refl _ _) _)
      have h7 : W'.heap[wr.heap.size]? = some (.cells #[.string d.f0, .string d.f1, .bool d.f2] 130 (0, 0)) := by rw [hW']; exact heap_alloc_new wr _
      have h7n : r3 ≠ wr.heap.size := by have := blk_lt (hI.out.rules); omega
      cases hsg : ofSign d.f0 with
      | some i =>
        have hi := ofSign_lt hsg
        have hnm := sign_num hsg
        have hst : ofStep r d = setSign r i := by
          unfold ofStep signStep numStep
          rw [hsg, hnm]
        rw [hst] at hS
        have hl1 := run_lookup_some (P := Tryz.prog) Tryz.underlying126 Tryz.underlying9 (hz1 W') hI'.sg d.f0 _ ((find_signs d.f0 r3).trans (by rw [hsg]; rfl))
        simp only at hl1
        have hI2 : OfI w r3 (r3 + 1) m2 (setSign r i) (W'.setCell ⟨r3, i, none⟩ (.bool true)) := hI'.set (by omega) (by omega) hr3 hw2 (rulesCells_sign r i hi)
        have hl2 := run_lookup_none (P := Tryz.prog) Tryz.underlying128 Tryz.underlying9 (hz2 (W'.setCell ⟨r3, i, none⟩ (.bool true))) hI2.nu d.f0 ((find_nums d.f0 r3).trans (by rw [hnm]; rfl))
        obtain ⟨b, hb⟩ := rulesCells_getSign r i hi
        have hc := (cells_at2 hI'.rules i).1.trans hb
        have hf := (cells_at2 hI'.rules i).2
        have hc7 := (blk_cell (blk_far h7 (p := ⟨r3, i, none⟩) (fun e => h7n e.symm) (.bool true)) 0).trans (rfl : _ = some (Value.string d.f0))
        have HS := Aside0.mk hS
        have HI2 := Aside0.mk hI2
        clear hS hI2 hI' hsg hnm hst hI
        subst hW'
        go_wp2
        go_roundw
        case rel => exact ⟨k + 1, m, _, by omega, by go_num, by omega, HS, HI2⟩
        case measure => simp [intOf]; omega
      | none =>
        have hl1 := run_lookup_none (P := Tryz.prog) Tryz.underlying126 Tryz.underlying9 (hz1 W') hI'.sg d.f0 ((find_signs d.f0 r3).trans (by rw [hsg]; rfl))
        cases hnm : ofNum d.f0 with
        | none =>
          have hst : ofStep r d = r := by
            unfold ofStep signStep numStep
            rw [hsg, hnm]
          rw [hst] at hS
          have hl2 := run_lookup_none (P := Tryz.prog) Tryz.underlying128 Tryz.underlying9 (hz2 W') hI'.nu d.f0 ((find_nums d.f0 r3).trans (by rw [hnm]; rfl))
          have HS := Aside0.mk hS
          have HI2 := Aside0.mk hI'
          clear hS hI' hsg hnm hst hI h7
          subst hW'
          go_wp2
          go_roundw
          case rel => exact ⟨k + 1, m, _, by omega, by go_num, by omega, HS, HI2⟩
          case measure => simp [intOf]; omega
        | some j =>
          obtain ⟨hj8, hj⟩ := ofNum_lt hnm
          have hl2 := run_lookup_some (P := Tryz.prog) Tryz.underlying128 Tryz.underlying9 (hz2 W') hI'.nu d.f0 _ ((find_nums d.f0 r3).trans (by rw [hnm]; rfl))
          simp only at hl2
          have hc := (cells_at2 hI'.rules j).1.trans (rulesCells_getNum r j hj8 hj)
          have hf := (cells_at2 hI'.rules j).2
          have hst : ofStep r d = if 0 ≤ getNum r j then r else if d.f0 = nm10 ∧ d.f2 = false then setNum r 2147483648 j else setNum r (digV d.f1) j := by
            unfold ofStep signStep numStep
            rw [hsg]
            simp only [hnm]
          rw [hst] at hS
          clear hsg hnm hst
          by_cases hge : 0 ≤ getNum r j
          · rw [if_pos hge] at hS
            have hg1 : decide (0 ≤ getNum r j) = true := decide_eq_true hge
            have HS := Aside0.mk hS
            have HI2 := Aside0.mk hI'
            clear hS hI' hI h7
            subst hW'
            go_wp2
            go_roundw
            case rel => exact ⟨k + 1, m, _, by omega, by go_num, by omega, HS, HI2⟩
            case measure => simp [intOf]; omega
          · rw [if_neg hge] at hS
            have hg1 : decide (0 ≤ getNum r j) = false := decide_eq_false hge
            have hI2 : ∀ v : Int, OfI w r3 (r3 + 1) m2 (setNum r v j) (W'.setCell ⟨r3, j, none⟩ (.int .i64 v)) := fun v => hI'.set (by omega) (by omega) hr3 hw2 (rulesCells_num r v j hj8 hj)
            have hnum : legacy_Directive_number.f d.f0 d.f1 d.f2 = some (digV d.f1) := by
              obtain ⟨y, hy⟩ := digits_total d.f1 hdg
              unfold legacy_Directive_number.f digV
              rw [hy]
              rfl
            have HN := Aside0.mk hnum
            have HI' := Aside0.mk hI'
            have H7 := Aside0.mk h7
            clear hnum hI' h7
            by_cases hmx : d.f0 = nm10
            · have hm1 : (d.f0.toList == ([109, 97, 120, 45, 115, 116, 97, 108, 101] : List UInt8)) = true := beq_iff_eq.mpr (by rw [hmx, ByteArray.toList_eq]; rfl)
              cases hf2 : d.f2 with
              | false =>
                rw [if_pos ⟨hmx, hf2⟩] at hS
                have HS := Aside0.mk hS
                have HI2 := Aside0.mk (hI2 2147483648)
                clear hS hI2 hI hmx
                rw [hf2] at hW' hx2
                subst hW'
                go_wp2
                go_roundw
                case rel => exact ⟨k + 1, m, _, by omega, by go_num, by omega, HS, HI2⟩
                case measure => simp [intOf]; omega
              | true =>
                rw [if_neg (by rintro ⟨_, h2⟩; rw [hf2] at h2; cases h2)] at hS
                have HS := Aside0.mk hS
                clear hS hI2 hI hmx
                rw [hf2] at hW' hx2 HN
                subst hW'
                go_wp2_with (first | (go_at_call 79; (with_reducible refine (legacy_Directive_number.calls d.f0 d.f1 true (digV d.f1) _ HN.out).mono ?_); rintro e w2 ⟨rfl, hb⟩; have hb2 := Aside0.mk hb; clear hb; have hc2 := (cells_at2 (HI'.out.below hb2.out).rules j).1.trans (rulesCells_getNum r j hj8 hj); have hf2b := (cells_at2 (HI'.out.below hb2.out).rules j).2))
                go_roundw
                case rel => exact ⟨k + 1, m, _, by omega, by go_num, by omega, HS, ⟨(HI'.out.below hb2.out).set (by omega) (by omega) hr3 hw2 (rulesCells_num r _ j hj8 hj)⟩⟩
                case measure => simp [intOf]; omega
            · rw [if_neg (by rintro ⟨h2, _⟩; exact hmx h2)] at hS
              have hm1 : (d.f0.toList == ([109, 97, 120, 45, 115, 116, 97, 108, 101] : List UInt8)) = false := beq_eq_false_iff_ne.mpr (fun e => hmx (toList_inj (e.trans (by rw [ByteArray.toList_eq]; rfl))))
              have HS := Aside0.mk hS
              clear hS hI2 hI hmx
              subst hW'
              go_wp2_with (first | (go_at_call 79; (with_reducible refine (legacy_Directive_number.calls d.f0 d.f1 d.f2 (digV d.f1) _ HN.out).mono ?_); rintro e w2 ⟨rfl, hb⟩; have hb2 := Aside0.mk hb; clear hb; have hc2 := (cells_at2 (HI'.out.below hb2.out).rules j).1.trans (rulesCells_getNum r j hj8 hj); have hf2b := (cells_at2 (HI'.out.below hb2.out).rules j).2))
              go_roundw
              case rel => exact ⟨k + 1, m, _, by omega, by go_num, by omega, HS, ⟨(HI'.out.below hb2.out).set (by omega) (by omega) hr3 hw2 (rulesCells_num r _ j hj8 hj)⟩⟩
              case measure => simp [intOf]; omega
    · have hd : decide (k < l0.length) = false := decide_eq_false hlt2
      rw [if_neg hlt2] at hS
      subst hS
      have h13 := hI.out.rules
      have hz := hI.out.zero
      have hBB := Aside0.mk hI.out.2
      have hq0 := (blk_cell h13 0).trans (rfl : _ = some (Value.bool (ofS l0).f0))
      have hz0 := (blk_cell hz 0).trans (rfl : _ = some (Value.bool false))
      have hy0 := blk_frozen hz 0
      have hq1 := (blk_cell h13 1).trans (rfl : _ = some (Value.bool (ofS l0).f1))
      have hz1 := (blk_cell hz 1).trans (rfl : _ = some (Value.bool false))
      have hy1 := blk_frozen hz 1
      have hq2 := (blk_cell h13 2).trans (rfl : _ = some (Value.bool (ofS l0).f2))
      have hz2 := (blk_cell hz 2).trans (rfl : _ = some (Value.bool false))
      have hy2 := blk_frozen hz 2
      have hq3 := (blk_cell h13 3).trans (rfl : _ = some (Value.bool (ofS l0).f3))
      have hz3 := (blk_cell hz 3).trans (rfl : _ = some (Value.bool false))
      have hy3 := blk_frozen hz 3
      have hq4 := (blk_cell h13 4).trans (rfl : _ = some (Value.bool (ofS l0).f4))
      have hz4 := (blk_cell hz 4).trans (rfl : _ = some (Value.bool false))
      have hy4 := blk_frozen hz 4
      have hq5 := (blk_cell h13 5).trans (rfl : _ = some (Value.bool (ofS l0).f5))
      have hz5 := (blk_cell hz 5).trans (rfl : _ = some (Value.bool false))
      have hy5 := blk_frozen hz 5
      have hq6 := (blk_cell h13 6).trans (rfl : _ = some (Value.bool (ofS l0).f6))
      have hz6 := (blk_cell hz 6).trans (rfl : _ = some (Value.bool false))
      have hy6 := blk_frozen hz 6
      have hq7 := (blk_cell h13 7).trans (rfl : _ = some (Value.bool (ofS l0).f7))
      have hz7 := (blk_cell hz 7).trans (rfl : _ = some (Value.bool false))
      have hy7 := blk_frozen hz 7
      have hq8 := (blk_cell h13 8).trans (rfl : _ = some (Value.int .i64 (ofS l0).f8))
      have hz8 := (blk_cell hz 8).trans (rfl : _ = some (Value.int .i64 0))
      have hy8 := blk_frozen hz 8
      have hq9 := (blk_cell h13 9).trans (rfl : _ = some (Value.int .i64 (ofS l0).f9))
      have hz9 := (blk_cell hz 9).trans (rfl : _ = some (Value.int .i64 0))
      have hy9 := blk_frozen hz 9
      have hq10 := (blk_cell h13 10).trans (rfl : _ = some (Value.int .i64 (ofS l0).f10))
      have hz10 := (blk_cell hz 10).trans (rfl : _ = some (Value.int .i64 0))
      have hy10 := blk_frozen hz 10
      have hq11 := (blk_cell h13 11).trans (rfl : _ = some (Value.int .i64 (ofS l0).f11))
      have hz11 := (blk_cell hz 11).trans (rfl : _ = some (Value.int .i64 0))
      have hy11 := blk_frozen hz 11
      have hq12 := (blk_cell h13 12).trans (rfl : _ = some (Value.int .i64 (ofS l0).f12))
      have hz12 := (blk_cell hz 12).trans (rfl : _ = some (Value.int .i64 0))
      have hy12 := blk_frozen hz 12
      have HZ := Aside0.mk hz
      clear hz h13 hI
      go_wp2
      refine bodyPost_ret (results_cell_row rfl _ _ w.heap.size 34 #[.bool (ofS l0).f0, .bool (ofS l0).f1, .bool (ofS l0).f2, .bool (ofS l0).f3, .bool (ofS l0).f4, .bool (ofS l0).f5, .bool (ofS l0).f6, .bool (ofS l0).f7, .int .i64 (ofS l0).f8, .int .i64 (ofS l0).f9, .int .i64 (ofS l0).f10, .int .i64 (ofS l0).f11, .int .i64 (ofS l0).f12] (0, 0) _ rfl (blk_put (cs' := #[.bool (ofS l0).f0, .bool (ofS l0).f1, .bool (ofS l0).f2, .bool (ofS l0).f3, .bool (ofS l0).f4, .bool (ofS l0).f5, .bool (ofS l0).f6, .bool (ofS l0).f7, .int .i64 (ofS l0).f8, .int .i64 (ofS l0).f9, .int .i64 (ofS l0).f10, .int .i64 (ofS l0).f11, .int .i64 (ofS l0).f12]) (blk_put (cs' := #[.bool (ofS l0).f0, .bool (ofS l0).f1, .bool (ofS l0).f2, .bool (ofS l0).f3, .bool (ofS l0).f4, .bool (ofS l0).f5, .bool (ofS l0).f6, .bool (ofS l0).f7, .int .i64 (ofS l0).f8, .int .i64 (ofS l0).f9, .int .i64 (ofS l0).f10, .int .i64 (ofS l0).f11, .int .i64 0]) (blk_put (cs' := #[.bool (ofS l0).f0, .bool (ofS l0).f1, .bool (ofS l0).f2, .bool (ofS l0).f3, .bool (ofS l0).f4, .bool (ofS l0).f5, .bool (ofS l0).f6, .bool (ofS l0).f7, .int .i64 (ofS l0).f8, .int .i64 (ofS l0).f9, .int .i64 (ofS l0).f10, .int .i64 0, .int .i64 0]) (blk_put (cs' := #[.bool (ofS l0).f0, .bool (ofS l0).f1, .bool (ofS l0).f2, .bool (ofS l0).f3, .bool (ofS l0).f4, .bool (ofS l0).f5, .bool (ofS l0).f6, .bool (ofS l0).f7, .int .i64 (ofS l0).f8, .int .i64 (ofS l0).f9, .int .i64 0, .int .i64 0, .int .i64 0]) (blk_put (cs' := #[.bool (ofS l0).f0, .bool (ofS l0).f1, .bool (ofS l0).f2, .bool (ofS l0).f3, .bool (ofS l0).f4, .bool (ofS l0).f5, .bool (ofS l0).f6, .bool (ofS l0).f7, .int .i64 (ofS l0).f8, .int .i64 0, .int .i64 0, .int .i64 0, .int .i64 0]) (blk_put (cs' := #[.bool (ofS l0).f0, .bool (ofS l0).f1, .bool (ofS l0).f2, .bool (ofS l0).f3, .bool (ofS l0).f4, .bool (ofS l0).f5, .bool (ofS l0).f6, .bool (ofS l0).f7, .int .i64 0, .int .i64 0, .int .i64 0, .int .i64 0, .int .i64 0]) (blk_put (cs' := #[.bool (ofS l0).f0, .bool (ofS l0).f1, .bool (ofS l0).f2, .bool (ofS l0).f3, .bool (ofS l0).f4, .bool (ofS l0).f5, .bool (ofS l0).f6, .bool false, .int .i64 0, .int .i64 0, .int .i64 0, .int .i64 0, .int .i64 0]) (blk_put (cs' := #[.bool (ofS l0).f0, .bool (ofS l0).f1, .bool (ofS l0).f2, .bool (ofS l0).f3, .bool (ofS l0).f4, .bool (ofS l0).f5, .bool false, .bool false, .int .i64 0, .int .i64 0, .int .i64 0, .int .i64 0, .int .i64 0]) (blk_put (cs' := #[.bool (ofS l0).f0, .bool (ofS l0).f1, .bool (ofS l0).f2, .bool (ofS l0).f3, .bool (ofS l0).f4, .bool false, .bool false, .bool false, .int .i64 0, .int .i64 0, .int .i64 0, .int .i64 0, .int .i64 0]) (blk_put (cs' := #[.bool (ofS l0).f0, .bool (ofS l0).f1, .bool (ofS l0).f2, .bool (ofS l0).f3, .bool false, .bool false, .bool false, .bool false, .int .i64 0, .int .i64 0, .int .i64 0, .int .i64 0, .int .i64 0]) (blk_put (cs' := #[.bool (ofS l0).f0, .bool (ofS l0).f1, .bool (ofS l0).f2, .bool false, .bool false, .bool false, .bool false, .bool false, .int .i64 0, .int .i64 0, .int .i64 0, .int .i64 0, .int .i64 0]) (blk_put (cs' := #[.bool (ofS l0).f0, .bool (ofS l0).f1, .bool false, .bool false, .bool false, .bool false, .bool false, .bool false, .int .i64 0, .int .i64 0, .int .i64 0, .int .i64 0, .int .i64 0]) (blk_put (cs' := #[.bool (ofS l0).f0, .bool false, .bool false, .bool false, .bool false, .bool false, .bool false, .bool false, .int .i64 0, .int .i64 0, .int .i64 0, .int .i64 0, .int .i64 0]) HZ.out 0 _ rfl) 1 _ rfl) 2 _ rfl) 3 _ rfl) 4 _ rfl) 5 _ rfl) 6 _ rfl) 7 _ rfl) 8 _ rfl) 9 _ rfl) 10 _ rfl) 11 _ rfl) 12 _ rfl) Tryz.underlying34 rfl (by kernel_rfl)) rfl ?_
      exact ⟨rfl, (Below.setCell (Below.setCell (Below.setCell (Below.setCell (Below.setCell (Below.setCell (Below.setCell (Below.setCell (Below.setCell (Below.setCell (Below.setCell (Below.setCell (Below.setCell hBB.out (p := ⟨w.heap.size, 0, none⟩) (Nat.le_refl _) _) (p := ⟨w.heap.size, 1, none⟩) (Nat.le_refl _) _) (p := ⟨w.heap.size, 2, none⟩) (Nat.le_refl _) _) (p := ⟨w.heap.size, 3, none⟩) (Nat.le_refl _) _) (p := ⟨w.heap.size, 4, none⟩) (Nat.le_refl _) _) (p := ⟨w.heap.size, 5, none⟩) (Nat.le_refl _) _) (p := ⟨w.heap.size, 6, none⟩) (Nat.le_refl _) _) (p := ⟨w.heap.size, 7, none⟩) (Nat.le_refl _) _) (p := ⟨w.heap.size, 8, none⟩) (Nat.le_refl _) _) (p := ⟨w.heap.size, 9, none⟩) (Nat.le_refl _) _) (p := ⟨w.heap.size, 10, none⟩) (Nat.le_refl _) _) (p := ⟨w.heap.size, 11, none⟩) (Nat.le_refl _) _) (p := ⟨w.heap.size, 12, none⟩) (Nat.le_refl _) _)⟩
end Go.Proofs.YtebfpnbnoinhbaaGreatDoor.Q
namespace Go.Proofs.YtebfpnbnoinhbaaGreatDoor.Q
open Go.RowKit Go.Proofs.YtebfpnbnoinhbaaGreatDoorW.PrintWords Go.Proofs.YtebfpnbnoinhbaaGreatDoorW.PrintLast Go.Proofs.YtebfpnbnoinhbaaGreatDoorW.PrintMore
set_option linter.unusedVariables false
set_option linter.unusedSimpArgs false
def BRow (w : World) (g : Nat) (xs : List Int) : Prop := ∀ j, j < xs.length → w.cell? ⟨g, j, none⟩ = some (.int .u8 (xs.getD j 0)) ∧ w.frozen? ⟨g, j, none⟩ = false
theorem BRow.store {w : World} {g : Nat} {xs : List Int} (h : BRow w g xs) (k : Nat) (x : Int) (hk : k < xs.length) : BRow (w.setCell ⟨g, k, none⟩ (.int .u8 x)) g (xs.set k x) := by
  intro j hj
  rw [List.length_set] at hj
  obtain ⟨h1, h2⟩ := h j hj
  refine ⟨?_, by rw [World.frozen?_setCell]; exact h2⟩
  by_cases e : j = k
  · subst e
    rw [World.cell?_setCell_same _ _ _ (h j hj).1]
    simp [List.getD_eq_getElem?_getD, hj]
  · rw [World.cell?_setCell_other _ _ _ _ (by intro he; injection he with _ he; exact e he.symm), h1]
    simp [List.getD_eq_getElem?_getD, List.getElem?_set, Ne.symm e]
theorem bytesWorld_brow (w : World) (e : TypeId) (s : ByteArray) : BRow (Lib.bytesWorld w e s) w.heap.size (bytesOf s) := by
  intro j hj
  rw [bytesOf_length] at hj
  have h' : j < s.data.toList.length := by rw [data_length]; exact hj
  refine ⟨?_, ?_⟩
  · rw [Lib.bytesWorld_cell w e s j hj]
    simp [bytesOf, List.getD_eq_getElem?_getD, List.getElem?_eq_getElem h']
  · have hs : s.size ≤ (Lib.bytesCells w e s).size := by simp [Lib.bytesCells]
    simp only [World.frozen?, Lib.bytesWorld_at_new]
    simp
    omega
theorem below_store {B : Nat} {w W : World} (h : Below B w W) {g : Nat} (hg : B ≤ g) (j : Nat) (v : Value) : Below B w (W.setCell ⟨g, j, none⟩ v) :=
  h.setCell hg v
theorem brow_string {P : Program} {src dst e : TypeId} (hs : P.underlying src = some (.slice e)) (he : P.underlying e = some (.int .u8)) (hd : P.underlying dst = some .string) {w : World} {g cap : Nat} {xs : List Int} (h : BRow w g xs) :
    (convert src dst (.slice (some ⟨g, 0, none⟩) xs.length cap)).run P w = .ok (.string (strOfNums xs)) w :=
  run_convert_bytes_arg w src e hs he g 0 xs.length cap xs rfl (fun i hi => by rw [Nat.zero_add]; exact (h i hi).1) dst hd
end Go.Proofs.YtebfpnbnoinhbaaGreatDoor.Q
namespace Go.Proofs.YtebfpnbnoinhbaaGreatDoor.Q
open Go.RowKit Go.Proofs.YtebfpnbnoinhbaaGreatDoorW.PrintWords Go.Proofs.YtebfpnbnoinhbaaGreatDoorW.PrintLast Go.Proofs.YtebfpnbnoinhbaaGreatDoorW.PrintMore
set_option linter.unusedVariables false
set_option linter.unusedSimpArgs false
def lowN (c : Int) : Int := if 65 ≤ c ∧ c ≤ 90 then c + 32 else c
def lowTo (xs : List Int) (k : Nat) : List Int := (xs.take k).map lowN ++ xs.drop k
theorem lowTo_length (xs : List Int) (k : Nat) : (lowTo xs k).length = xs.length := by
  simp [lowTo]
  omega
theorem lowTo_zero (xs : List Int) : lowTo xs 0 = xs := by simp [lowTo]
theorem lowTo_all (xs : List Int) (k : Nat) (h : xs.length ≤ k) : lowTo xs k = xs.map lowN := by simp [lowTo, List.take_of_length_le h, List.drop_eq_nil_of_le h]
theorem lowTo_at (xs : List Int) (k : Nat) (h : k < xs.length) : (lowTo xs k).getD k 0 = xs.getD k 0 := by
  simp [lowTo, List.getD_eq_getElem?_getD, List.getElem?_append, Nat.min_eq_left (Nat.le_of_lt h)]
theorem lowTo_succ (xs : List Int) (k : Nat) (h : k < xs.length) : lowTo xs (k + 1) = (lowTo xs k).set k (lowN (xs.getD k 0)) := by
  apply List.ext_getElem?
  intro j
  simp only [lowTo, List.getElem?_append, List.length_map, List.length_take, List.getElem?_set, List.length_append, List.length_drop, List.getElem?_map, List.getElem?_take, List.getElem?_drop]
  have e1 : min (k + 1) xs.length = k + 1 := by omega
  have e2 : min k xs.length = k := by omega
  rw [e1, e2]
  by_cases hjk : k = j
  · subst hjk
    have : k < k + 1 := by omega
    simp [List.getD_eq_getElem?_getD, h]
    omega
  · by_cases hlt : j < k
    · simp [hlt, Nat.lt_succ_of_lt hlt, hjk]
    · have h3 : ¬ j < k + 1 := by omega
      have h4 : k + 1 + (j - (k + 1)) = j := by omega
      have h5 : k + (j - k) = j := by omega
      simp [hlt, h3, hjk, h4, h5]
theorem lowTo_same (xs : List Int) (k : Nat) (h : k < xs.length) (hc : lowN (xs.getD k 0) = xs.getD k 0) : lowTo xs (k + 1) = lowTo xs k := by
  rw [lowTo_succ xs k h, hc]
  apply List.ext_getElem?
  intro j
  rw [List.getElem?_set]
  by_cases e : k = j
  · subst e
    have hl : k < (lowTo xs k).length := by rw [lowTo_length]; exact h
    have := lowTo_at xs k h
    rw [if_pos rfl, if_pos hl, ← this]
    simp [List.getD_eq_getElem?_getD, hl]
  · rw [if_neg e]
def ascii_Lower.f (a0 : ByteArray) : Option ByteArray := if a0.size ≤ 9223372036854775807 then some (strOfNums ((bytesOf a0).map lowN)) else none
set_option maxHeartbeats 1000000 in
set_option maxRecDepth 100000 in
theorem ascii_Lower.calls (a0 r : ByteArray) (w : World) (h : ascii_Lower.f a0 = some r) :
    Calls Tryz.prog 119 #[.string a0] w fun e w' => e = .returned (.string r) ∧ Below w.heap.size w w' := by
  unfold ascii_Lower.f at h
  split at h
  case isFalse => cases h
  rename_i hs
  obtain rfl := Option.some.inj h
  clear h
  have kb := fun W => print_bytes (P := Tryz.prog) 9 23 5 Tryz.underlying9 Tryz.underlying23 Tryz.underlying5 a0 W
  go_enter Tryz.func119, Tryz.ntmps119
  go_wp2
  have HR0 := bytesWorld_brow w 5 a0
  have HB0 : Below w.heap.size w (Lib.bytesWorld w 5 a0) := bytes_below (Below.refl _ _) (Nat.le_refl _) 5 a0
  clear kb
  generalize Lib.bytesWorld w 5 a0 = W0 at HR0 HB0 ⊢
  generalize grownCap w a0.size 0 5 = cap
  have hl := bytesOf_length a0
  generalize hx : bytesOf a0 = xs at HR0 hl
  obtain ⟨n, hn⟩ : ∃ n, a0.size = n := ⟨_, rfl⟩
  rw [hn] at hl hs ⊢
  have hrg : ∀ k : Nat, 0 ≤ xs.getD k 0 ∧ xs.getD k 0 ≤ 255 := by
    intro k
    rw [← hx]
    have h1 := rd_bytesOf a0 (k : Int)
    have h2 := bt_range a0 (k : Int)
    rw [← h1] at h2
    simpa [rd] using h2
  have HX := Aside0.mk hx
  have HL := Aside0.mk hl
  have HG := Aside0.mk hrg
  have HR := Aside0.mk HR0
  have HB := Aside0.mk HB0
  clear hx hl hrg HR0 HB0 hn
  go_loopw [10] (fun i wr => ∃ k : Nat, k ≤ n ∧ i = .int .i64 k ∧ Aside0 (BRow wr w.heap.size (lowTo xs k)) ∧ Aside0 (Below w.heap.size w wr)) (fun i _ => n - (intOf i).toNat)
  case atStart => exact ⟨0, Nat.zero_le _, rfl, ⟨by rw [lowTo_zero]; exact HR.out⟩, HB⟩
  case round =>
    obtain ⟨k, hk, rfl, hA, hB⟩ := hrel
    by_cases hlt : k < n
    · have hd : decide (k < n) = true := decide_eq_true hlt
      obtain ⟨hc, hf⟩ := hA.out k (by rw [lowTo_length, HL.out]; exact hlt)
      rw [lowTo_at xs k (by rw [HL.out]; exact hlt)] at hc
      have hr := HG.out k
      have hsucc := Aside0.mk (lowTo_succ xs k (by rw [HL.out]; exact hlt))
      have hsame := Aside0.mk (lowTo_same xs k (by rw [HL.out]; exact hlt))
      generalize xs.getD k 0 = c at hc hr hsucc hsame
      obtain ⟨hr0, hr1⟩ := hr
      have hst : Aside0 (BRow (wr.setCell ⟨w.heap.size, k, none⟩ (.int .u8 (lowN c))) w.heap.size (lowTo xs (k + 1))) := ⟨by rw [hsucc.out]; exact hA.out.store k _ (by rw [lowTo_length, HL.out]; exact hlt)⟩
      have hsm : lowN c = c → Aside0 (BRow wr w.heap.size (lowTo xs (k + 1))) := fun e => ⟨by rw [hsame.out e]; exact hA.out⟩
      have HSM := Aside0.mk hsm
      clear hsm
      by_cases h1 : 65 ≤ c
      · by_cases h2 : c ≤ 90
        · have e : lowN c = c + 32 := by unfold lowN; rw [if_pos ⟨h1, h2⟩]
          rw [e] at hst
          have em : (c + 97) % 256 - 65 = c + 32 ∨ True := .inr trivial
          go_wp2
          go_roundw
          case rel => exact ⟨k + 1, by omega, by go_num, by first | exact hst | (rw [show c + 32 = c + 97 - 65 from by omega] at hst; exact hst), ⟨by first | exact below_store hB.out (Nat.le_refl _) _ _ | exact hB.out⟩⟩
          case measure => simp [intOf]; omega
        · have e : lowN c = c := by unfold lowN; rw [if_neg (by omega)]
          have hb := HSM.out e
          go_wp2
          go_roundw
          case rel => exact ⟨k + 1, by omega, by go_num, hb, hB⟩
          case measure => simp [intOf]; omega
      · have e : lowN c = c := by unfold lowN; rw [if_neg (by omega)]
        have hb := HSM.out e
        go_wp2
        go_roundw
        case rel => exact ⟨k + 1, by omega, by go_num, hb, hB⟩
        case measure => simp [intOf]; omega
    · have hd : decide (k < n) = false := decide_eq_false hlt
      obtain rfl : k = n := by omega
      have hrow : BRow wr w.heap.size (xs.map lowN) := by
        have := hA.out
        rwa [lowTo_all xs k (by rw [HL.out]; exact Nat.le_refl _)] at this
      have hcv : ∀ cp, (convert 23 9 (.slice (some ⟨w.heap.size, 0, none⟩) k cp)).run Tryz.prog wr = .ok (.string (strOfNums (xs.map lowN))) wr := by
        intro cp
        have := brow_string (P := Tryz.prog) (src := 23) (dst := 9) (e := 5) Tryz.underlying23 Tryz.underlying5 Tryz.underlying9 (cap := cp) hrow
        rwa [List.length_map, HL.out] at this
      have hrow' := Aside0.mk hrow
      clear hrow
      go_wp2
      go_ret
      exact ⟨by rw [HX.out]; rfl, hB.out⟩
end Go.Proofs.YtebfpnbnoinhbaaGreatDoor.Q
namespace Go.Proofs.YtebfpnbnoinhbaaGreatDoor.Q
open Go.RowKit Go.Proofs.YtebfpnbnoinhbaaGreatDoorW.PrintWords Go.Proofs.YtebfpnbnoinhbaaGreatDoorW.PrintLast Go.Proofs.YtebfpnbnoinhbaaGreatDoorW.PrintMore
set_option linter.unusedVariables false
set_option linter.unusedSimpArgs false
theorem run_store_func {P : Program} {w : World} {a : Addr} {m : Mode} (fn : Fn) (x y : Array Value) : (store a (.func fn x y) m).run P w = stored P w a (.func fn x y) m := run_store P w a _ m rfl
attribute [local go_sem] run_store_func
def rulingsRow : Array Value := #[.func (.func 64) #[] #[], .int .i64 1, .func (.func 65) #[] #[], .int .i64 0, .func (.func 66) #[] #[], .int .i64 2, .func (.func 67) #[] #[], .int .i64 2, .func (.func 68) #[] #[], .int .i64 2, .func (.func 63) #[] #[], .int .i64 0, .func (.func 69) #[] #[], .int .i64 0]
def judge6 (a0 a1 : Int) (a2_0 : Bool) (a2_1 : Bool) (a2_2 : Bool) (a2_3 : Bool) (a2_4 : Bool) (a2_5 : Bool) (a2_6 : Bool) (a2_7 : Bool) (a2_8 : Int) (a2_9 : Int) (a2_10 : Int) (a2_11 : Int) (a2_12 : Int) (a3_0 : Bool) (a3_1 : Bool) (a3_2 : Bool) (a3_3 : Bool) (a3_4 : Bool) (a3_5 : Bool) (a3_6 : Bool) (a3_7 : Bool) (a3_8 : Int) (a3_9 : Int) (a3_10 : Int) (a3_11 : Int) (a3_12 : Int) : Option Int := (policy_rulings_7.f a0 a1 a2_0 a2_1 a2_2 a2_3 a2_4 a2_5 a2_6 a2_7 a2_8 a2_9 a2_10 a2_11 a2_12 a3_0 a3_1 a3_2 a3_3 a3_4 a3_5 a3_6 a3_7 a3_8 a3_9 a3_10 a3_11 a3_12).bind fun b => if b = true then some 0 else some 1
def judge5 (a0 a1 : Int) (a2_0 : Bool) (a2_1 : Bool) (a2_2 : Bool) (a2_3 : Bool) (a2_4 : Bool) (a2_5 : Bool) (a2_6 : Bool) (a2_7 : Bool) (a2_8 : Int) (a2_9 : Int) (a2_10 : Int) (a2_11 : Int) (a2_12 : Int) (a3_0 : Bool) (a3_1 : Bool) (a3_2 : Bool) (a3_3 : Bool) (a3_4 : Bool) (a3_5 : Bool) (a3_6 : Bool) (a3_7 : Bool) (a3_8 : Int) (a3_9 : Int) (a3_10 : Int) (a3_11 : Int) (a3_12 : Int) : Option Int := (policy_rulings_1.f a0 a1 a2_0 a2_1 a2_2 a2_3 a2_4 a2_5 a2_6 a2_7 a2_8 a2_9 a2_10 a2_11 a2_12 a3_0 a3_1 a3_2 a3_3 a3_4 a3_5 a3_6 a3_7 a3_8 a3_9 a3_10 a3_11 a3_12).bind fun b => if b = true then some 0 else judge6 a0 a1 a2_0 a2_1 a2_2 a2_3 a2_4 a2_5 a2_6 a2_7 a2_8 a2_9 a2_10 a2_11 a2_12 a3_0 a3_1 a3_2 a3_3 a3_4 a3_5 a3_6 a3_7 a3_8 a3_9 a3_10 a3_11 a3_12
def judge4 (a0 a1 : Int) (a2_0 : Bool) (a2_1 : Bool) (a2_2 : Bool) (a2_3 : Bool) (a2_4 : Bool) (a2_5 : Bool) (a2_6 : Bool) (a2_7 : Bool) (a2_8 : Int) (a2_9 : Int) (a2_10 : Int) (a2_11 : Int) (a2_12 : Int) (a3_0 : Bool) (a3_1 : Bool) (a3_2 : Bool) (a3_3 : Bool) (a3_4 : Bool) (a3_5 : Bool) (a3_6 : Bool) (a3_7 : Bool) (a3_8 : Int) (a3_9 : Int) (a3_10 : Int) (a3_11 : Int) (a3_12 : Int) : Option Int := (policy_rulings_6.f a0 a1 a2_0 a2_1 a2_2 a2_3 a2_4 a2_5 a2_6 a2_7 a2_8 a2_9 a2_10 a2_11 a2_12 a3_0 a3_1 a3_2 a3_3 a3_4 a3_5 a3_6 a3_7 a3_8 a3_9 a3_10 a3_11 a3_12).bind fun b => if b = true then some 2 else judge5 a0 a1 a2_0 a2_1 a2_2 a2_3 a2_4 a2_5 a2_6 a2_7 a2_8 a2_9 a2_10 a2_11 a2_12 a3_0 a3_1 a3_2 a3_3 a3_4 a3_5 a3_6 a3_7 a3_8 a3_9 a3_10 a3_11 a3_12
def judge3 (a0 a1 : Int) (a2_0 : Bool) (a2_1 : Bool) (a2_2 : Bool) (a2_3 : Bool) (a2_4 : Bool) (a2_5 : Bool) (a2_6 : Bool) (a2_7 : Bool) (a2_8 : Int) (a2_9 : Int) (a2_10 : Int) (a2_11 : Int) (a2_12 : Int) (a3_0 : Bool) (a3_1 : Bool) (a3_2 : Bool) (a3_3 : Bool) (a3_4 : Bool) (a3_5 : Bool) (a3_6 : Bool) (a3_7 : Bool) (a3_8 : Int) (a3_9 : Int) (a3_10 : Int) (a3_11 : Int) (a3_12 : Int) : Option Int := (policy_rulings_5.f a0 a1 a2_0 a2_1 a2_2 a2_3 a2_4 a2_5 a2_6 a2_7 a2_8 a2_9 a2_10 a2_11 a2_12 a3_0 a3_1 a3_2 a3_3 a3_4 a3_5 a3_6 a3_7 a3_8 a3_9 a3_10 a3_11 a3_12).bind fun b => if b = true then some 2 else judge4 a0 a1 a2_0 a2_1 a2_2 a2_3 a2_4 a2_5 a2_6 a2_7 a2_8 a2_9 a2_10 a2_11 a2_12 a3_0 a3_1 a3_2 a3_3 a3_4 a3_5 a3_6 a3_7 a3_8 a3_9 a3_10 a3_11 a3_12
def judge2 (a0 a1 : Int) (a2_0 : Bool) (a2_1 : Bool) (a2_2 : Bool) (a2_3 : Bool) (a2_4 : Bool) (a2_5 : Bool) (a2_6 : Bool) (a2_7 : Bool) (a2_8 : Int) (a2_9 : Int) (a2_10 : Int) (a2_11 : Int) (a2_12 : Int) (a3_0 : Bool) (a3_1 : Bool) (a3_2 : Bool) (a3_3 : Bool) (a3_4 : Bool) (a3_5 : Bool) (a3_6 : Bool) (a3_7 : Bool) (a3_8 : Int) (a3_9 : Int) (a3_10 : Int) (a3_11 : Int) (a3_12 : Int) : Option Int := (policy_rulings_4.f a0 a1 a2_0 a2_1 a2_2 a2_3 a2_4 a2_5 a2_6 a2_7 a2_8 a2_9 a2_10 a2_11 a2_12 a3_0 a3_1 a3_2 a3_3 a3_4 a3_5 a3_6 a3_7 a3_8 a3_9 a3_10 a3_11 a3_12).bind fun b => if b = true then some 2 else judge3 a0 a1 a2_0 a2_1 a2_2 a2_3 a2_4 a2_5 a2_6 a2_7 a2_8 a2_9 a2_10 a2_11 a2_12 a3_0 a3_1 a3_2 a3_3 a3_4 a3_5 a3_6 a3_7 a3_8 a3_9 a3_10 a3_11 a3_12
def judge1 (a0 a1 : Int) (a2_0 : Bool) (a2_1 : Bool) (a2_2 : Bool) (a2_3 : Bool) (a2_4 : Bool) (a2_5 : Bool) (a2_6 : Bool) (a2_7 : Bool) (a2_8 : Int) (a2_9 : Int) (a2_10 : Int) (a2_11 : Int) (a2_12 : Int) (a3_0 : Bool) (a3_1 : Bool) (a3_2 : Bool) (a3_3 : Bool) (a3_4 : Bool) (a3_5 : Bool) (a3_6 : Bool) (a3_7 : Bool) (a3_8 : Int) (a3_9 : Int) (a3_10 : Int) (a3_11 : Int) (a3_12 : Int) : Option Int := (policy_rulings_3.f a0 a1 a2_0 a2_1 a2_2 a2_3 a2_4 a2_5 a2_6 a2_7 a2_8 a2_9 a2_10 a2_11 a2_12 a3_0 a3_1 a3_2 a3_3 a3_4 a3_5 a3_6 a3_7 a3_8 a3_9 a3_10 a3_11 a3_12).bind fun b => if b = true then some 0 else judge2 a0 a1 a2_0 a2_1 a2_2 a2_3 a2_4 a2_5 a2_6 a2_7 a2_8 a2_9 a2_10 a2_11 a2_12 a3_0 a3_1 a3_2 a3_3 a3_4 a3_5 a3_6 a3_7 a3_8 a3_9 a3_10 a3_11 a3_12
def judge0 (a0 a1 : Int) (a2_0 : Bool) (a2_1 : Bool) (a2_2 : Bool) (a2_3 : Bool) (a2_4 : Bool) (a2_5 : Bool) (a2_6 : Bool) (a2_7 : Bool) (a2_8 : Int) (a2_9 : Int) (a2_10 : Int) (a2_11 : Int) (a2_12 : Int) (a3_0 : Bool) (a3_1 : Bool) (a3_2 : Bool) (a3_3 : Bool) (a3_4 : Bool) (a3_5 : Bool) (a3_6 : Bool) (a3_7 : Bool) (a3_8 : Int) (a3_9 : Int) (a3_10 : Int) (a3_11 : Int) (a3_12 : Int) : Option Int := (policy_rulings_2.f a0 a1 a2_0 a2_1 a2_2 a2_3 a2_4 a2_5 a2_6 a2_7 a2_8 a2_9 a2_10 a2_11 a2_12 a3_0 a3_1 a3_2 a3_3 a3_4 a3_5 a3_6 a3_7 a3_8 a3_9 a3_10 a3_11 a3_12).bind fun b => if b = true then some 1 else judge1 a0 a1 a2_0 a2_1 a2_2 a2_3 a2_4 a2_5 a2_6 a2_7 a2_8 a2_9 a2_10 a2_11 a2_12 a3_0 a3_1 a3_2 a3_3 a3_4 a3_5 a3_6 a3_7 a3_8 a3_9 a3_10 a3_11 a3_12
def judge7 (a0 a1 : Int) (a2_0 : Bool) (a2_1 : Bool) (a2_2 : Bool) (a2_3 : Bool) (a2_4 : Bool) (a2_5 : Bool) (a2_6 : Bool) (a2_7 : Bool) (a2_8 : Int) (a2_9 : Int) (a2_10 : Int) (a2_11 : Int) (a2_12 : Int) (a3_0 : Bool) (a3_1 : Bool) (a3_2 : Bool) (a3_3 : Bool) (a3_4 : Bool) (a3_5 : Bool) (a3_6 : Bool) (a3_7 : Bool) (a3_8 : Int) (a3_9 : Int) (a3_10 : Int) (a3_11 : Int) (a3_12 : Int) : Option Int := some 1
def policy_Judge.f (a0 a1 : Int) (a2_0 : Bool) (a2_1 : Bool) (a2_2 : Bool) (a2_3 : Bool) (a2_4 : Bool) (a2_5 : Bool) (a2_6 : Bool) (a2_7 : Bool) (a2_8 : Int) (a2_9 : Int) (a2_10 : Int) (a2_11 : Int) (a2_12 : Int) (a3_0 : Bool) (a3_1 : Bool) (a3_2 : Bool) (a3_3 : Bool) (a3_4 : Bool) (a3_5 : Bool) (a3_6 : Bool) (a3_7 : Bool) (a3_8 : Int) (a3_9 : Int) (a3_10 : Int) (a3_11 : Int) (a3_12 : Int) : Option Int := judge0 a0 a1 a2_0 a2_1 a2_2 a2_3 a2_4 a2_5 a2_6 a2_7 a2_8 a2_9 a2_10 a2_11 a2_12 a3_0 a3_1 a3_2 a3_3 a3_4 a3_5 a3_6 a3_7 a3_8 a3_9 a3_10 a3_11 a3_12
set_option maxHeartbeats 1000000 in
set_option maxRecDepth 100000 in
theorem policy_rulings.calls (w : World) : Calls Tryz.prog 36 #[] w fun e w' => e = .returned (.slice (some ⟨w.heap.size, 0, none⟩) 7 7) ∧ w' = w.alloc (.cells rulingsRow 76) := by
  go_enter Tryz.func36, Tryz.ntmps36
  go_wp2
  go_ret
  exact ⟨rfl, rfl⟩
theorem heap_old2 {w : World} {k : Nat} {x : Obj} (o : Obj) (h : w.heap[k]? = some x) : (w.alloc o).heap[k]? = some x := by
  rw [Below.heap_alloc w o k (Array.getElem?_eq_some_iff.1 h).1]; exact h
theorem cells13 {W : World} {b t : Nat} {c0 c1 c2 c3 c4 c5 c6 c7 c8 c9 c10 c11 c12 : Value} (h : W.heap[b]? = some (.cells #[c0, c1, c2, c3, c4, c5, c6, c7, c8, c9, c10, c11, c12] t (0, 0))) :
    W.cell? ⟨b, 0, none⟩ = some c0 ∧ W.cell? ⟨b, 1, none⟩ = some c1 ∧ W.cell? ⟨b, 2, none⟩ = some c2 ∧ W.cell? ⟨b, 3, none⟩ = some c3 ∧ W.cell? ⟨b, 4, none⟩ = some c4 ∧ W.cell? ⟨b, 5, none⟩ = some c5 ∧ W.cell? ⟨b, 6, none⟩ = some c6 ∧ W.cell? ⟨b, 7, none⟩ = some c7 ∧ W.cell? ⟨b, 8, none⟩ = some c8 ∧ W.cell? ⟨b, 9, none⟩ = some c9 ∧ W.cell? ⟨b, 10, none⟩ = some c10 ∧ W.cell? ⟨b, 11, none⟩ = some c11 ∧ W.cell? ⟨b, 12, none⟩ = some c12 := by
  refine ⟨?_, ?_, ?_, ?_, ?_, ?_, ?_, ?_, ?_, ?_, ?_, ?_, ?_⟩ <;> simp [World.cell?, h]
theorem cells_at {W : World} {b t : Nat} {cs : Array Value} (h : W.heap[b]? = some (.cells cs t (0, 0))) (i : Nat) : W.cell? ⟨b, i, none⟩ = cs[i]? := by
  simp [World.cell?, h]
def jAt (k : Nat) (a0 a1 : Int) (a2_0 : Bool) (a2_1 : Bool) (a2_2 : Bool) (a2_3 : Bool) (a2_4 : Bool) (a2_5 : Bool) (a2_6 : Bool) (a2_7 : Bool) (a2_8 : Int) (a2_9 : Int) (a2_10 : Int) (a2_11 : Int) (a2_12 : Int) (a3_0 : Bool) (a3_1 : Bool) (a3_2 : Bool) (a3_3 : Bool) (a3_4 : Bool) (a3_5 : Bool) (a3_6 : Bool) (a3_7 : Bool) (a3_8 : Int) (a3_9 : Int) (a3_10 : Int) (a3_11 : Int) (a3_12 : Int) : Option Int := match k with | 0 => judge0 a0 a1 a2_0 a2_1 a2_2 a2_3 a2_4 a2_5 a2_6 a2_7 a2_8 a2_9 a2_10 a2_11 a2_12 a3_0 a3_1 a3_2 a3_3 a3_4 a3_5 a3_6 a3_7 a3_8 a3_9 a3_10 a3_11 a3_12 | 1 => judge1 a0 a1 a2_0 a2_1 a2_2 a2_3 a2_4 a2_5 a2_6 a2_7 a2_8 a2_9 a2_10 a2_11 a2_12 a3_0 a3_1 a3_2 a3_3 a3_4 a3_5 a3_6 a3_7 a3_8 a3_9 a3_10 a3_11 a3_12 | 2 => judge2 a0 a1 a2_0 a2_1 a2_2 a2_3 a2_4 a2_5 a2_6 a2_7 a2_8 a2_9 a2_10 a2_11 a2_12 a3_0 a3_1 a3_2 a3_3 a3_4 a3_5 a3_6 a3_7 a3_8 a3_9 a3_10 a3_11 a3_12 | 3 => judge3 a0 a1 a2_0 a2_1 a2_2 a2_3 a2_4 a2_5 a2_6 a2_7 a2_8 a2_9 a2_10 a2_11 a2_12 a3_0 a3_1 a3_2 a3_3 a3_4 a3_5 a3_6 a3_7 a3_8 a3_9 a3_10 a3_11 a3_12 | 4 => judge4 a0 a1 a2_0 a2_1 a2_2 a2_3 a2_4 a2_5 a2_6 a2_7 a2_8 a2_9 a2_10 a2_11 a2_12 a3_0 a3_1 a3_2 a3_3 a3_4 a3_5 a3_6 a3_7 a3_8 a3_9 a3_10 a3_11 a3_12 | 5 => judge5 a0 a1 a2_0 a2_1 a2_2 a2_3 a2_4 a2_5 a2_6 a2_7 a2_8 a2_9 a2_10 a2_11 a2_12 a3_0 a3_1 a3_2 a3_3 a3_4 a3_5 a3_6 a3_7 a3_8 a3_9 a3_10 a3_11 a3_12 | 6 => judge6 a0 a1 a2_0 a2_1 a2_2 a2_3 a2_4 a2_5 a2_6 a2_7 a2_8 a2_9 a2_10 a2_11 a2_12 a3_0 a3_1 a3_2 a3_3 a3_4 a3_5 a3_6 a3_7 a3_8 a3_9 a3_10 a3_11 a3_12 | _ => judge7 a0 a1 a2_0 a2_1 a2_2 a2_3 a2_4 a2_5 a2_6 a2_7 a2_8 a2_9 a2_10 a2_11 a2_12 a3_0 a3_1 a3_2 a3_3 a3_4 a3_5 a3_6 a3_7 a3_8 a3_9 a3_10 a3_11 a3_12
set_option maxHeartbeats 8000000 in
set_option maxRecDepth 100000 in
theorem policy_Judge.calls (a0 a1 : Int) (a2_0 : Bool) (a2_1 : Bool) (a2_2 : Bool) (a2_3 : Bool) (a2_4 : Bool) (a2_5 : Bool) (a2_6 : Bool) (a2_7 : Bool) (a2_8 : Int) (a2_9 : Int) (a2_10 : Int) (a2_11 : Int) (a2_12 : Int) (a3_0 : Bool) (a3_1 : Bool) (a3_2 : Bool) (a3_3 : Bool) (a3_4 : Bool) (a3_5 : Bool) (a3_6 : Bool) (a3_7 : Bool) (a3_8 : Int) (a3_9 : Int) (a3_10 : Int) (a3_11 : Int) (a3_12 : Int) (r : Int) (w : World) (h : policy_Judge.f a0 a1 a2_0 a2_1 a2_2 a2_3 a2_4 a2_5 a2_6 a2_7 a2_8 a2_9 a2_10 a2_11 a2_12 a3_0 a3_1 a3_2 a3_3 a3_4 a3_5 a3_6 a3_7 a3_8 a3_9 a3_10 a3_11 a3_12 = some r) :
    Calls Tryz.prog 13 #[.int .i64 a0, .int .i64 a1, .agg #[.bool a2_0, .bool a2_1, .bool a2_2, .bool a2_3, .bool a2_4, .bool a2_5, .bool a2_6, .bool a2_7, .int .i64 a2_8, .int .i64 a2_9, .int .i64 a2_10, .int .i64 a2_11, .int .i64 a2_12], .agg #[.bool a3_0, .bool a3_1, .bool a3_2, .bool a3_3, .bool a3_4, .bool a3_5, .bool a3_6, .bool a3_7, .int .i64 a3_8, .int .i64 a3_9, .int .i64 a3_10, .int .i64 a3_11, .int .i64 a3_12]] w fun e w' => e = .returned (.int .i64 r) ∧ Below w.heap.size w w' := by
  have H := Aside0.mk h
  clear h
  go_enter Tryz.func13, Tryz.ntmps13
  go_wp2_with (first | (go_at_call 36; (with_reducible refine (policy_rulings.calls _).mono ?_); rintro e w1 ⟨rfl, rfl⟩))
  have h0 := heap_alloc_new w (.cells #[.bool a2_0, .bool a2_1, .bool a2_2, .bool a2_3, .bool a2_4, .bool a2_5, .bool a2_6, .bool a2_7, .int .i64 a2_8, .int .i64 a2_9, .int .i64 a2_10, .int .i64 a2_11, .int .i64 a2_12] 34 (0, 0))
  have h1 := heap_alloc_new (w.alloc (.cells #[.bool a2_0, .bool a2_1, .bool a2_2, .bool a2_3, .bool a2_4, .bool a2_5, .bool a2_6, .bool a2_7, .int .i64 a2_8, .int .i64 a2_9, .int .i64 a2_10, .int .i64 a2_11, .int .i64 a2_12] 34 (0, 0))) (.cells #[.bool a3_0, .bool a3_1, .bool a3_2, .bool a3_3, .bool a3_4, .bool a3_5, .bool a3_6, .bool a3_7, .int .i64 a3_8, .int .i64 a3_9, .int .i64 a3_10, .int .i64 a3_11, .int .i64 a3_12] 34 (0, 0))
  have h2 := heap_alloc_new ((w.alloc (.cells #[.bool a2_0, .bool a2_1, .bool a2_2, .bool a2_3, .bool a2_4, .bool a2_5, .bool a2_6, .bool a2_7, .int .i64 a2_8, .int .i64 a2_9, .int .i64 a2_10, .int .i64 a2_11, .int .i64 a2_12] 34 (0, 0))).alloc (.cells #[.bool a3_0, .bool a3_1, .bool a3_2, .bool a3_3, .bool a3_4, .bool a3_5, .bool a3_6, .bool a3_7, .int .i64 a3_8, .int .i64 a3_9, .int .i64 a3_10, .int .i64 a3_11, .int .i64 a3_12] 34 (0, 0))) (.cells rulingsRow 76 (0, 0))
  rw [World.size_alloc] at h1
  rw [World.size_alloc, World.size_alloc] at h2
  have k0 := heap_old2 (.cells rulingsRow 76 (0, 0)) (heap_old2 (.cells #[.bool a3_0, .bool a3_1, .bool a3_2, .bool a3_3, .bool a3_4, .bool a3_5, .bool a3_6, .bool a3_7, .int .i64 a3_8, .int .i64 a3_9, .int .i64 a3_10, .int .i64 a3_11, .int .i64 a3_12] 34 (0, 0)) h0)
  have k1 := heap_old2 (.cells rulingsRow 76 (0, 0)) h1
  have HB : Aside0 (Below w.heap.size w (((w.alloc (.cells #[.bool a2_0, .bool a2_1, .bool a2_2, .bool a2_3, .bool a2_4, .bool a2_5, .bool a2_6, .bool a2_7, .int .i64 a2_8, .int .i64 a2_9, .int .i64 a2_10, .int .i64 a2_11, .int .i64 a2_12] 34 (0, 0))).alloc (.cells #[.bool a3_0, .bool a3_1, .bool a3_2, .bool a3_3, .bool a3_4, .bool a3_5, .bool a3_6, .bool a3_7, .int .i64 a3_8, .int .i64 a3_9, .int .i64 a3_10, .int .i64 a3_11, .int .i64 a3_12] 34 (0, 0))).alloc (.cells rulingsRow 76 (0, 0)))) := ⟨(((Below.refl _ w).alloc (Nat.le_refl _) _).alloc (by simp) _).alloc (by simp; omega) _⟩
  clear h0 h1
  generalize ((w.alloc (.cells #[.bool a2_0, .bool a2_1, .bool a2_2, .bool a2_3, .bool a2_4, .bool a2_5, .bool a2_6, .bool a2_7, .int .i64 a2_8, .int .i64 a2_9, .int .i64 a2_10, .int .i64 a2_11, .int .i64 a2_12] 34 (0, 0))).alloc (.cells #[.bool a3_0, .bool a3_1, .bool a3_2, .bool a3_3, .bool a3_4, .bool a3_5, .bool a3_6, .bool a3_7, .int .i64 a3_8, .int .i64 a3_9, .int .i64 a3_10, .int .i64 a3_11, .int .i64 a3_12] 34 (0, 0))).alloc (.cells rulingsRow 76 (0, 0)) = W0 at k0 k1 h2 HB ⊢
  go_loopw [13] (fun i wr => ∃ k : Nat, k ≤ 7 ∧ i = .int .i64 k ∧ Aside0 (jAt k a0 a1 a2_0 a2_1 a2_2 a2_3 a2_4 a2_5 a2_6 a2_7 a2_8 a2_9 a2_10 a2_11 a2_12 a3_0 a3_1 a3_2 a3_3 a3_4 a3_5 a3_6 a3_7 a3_8 a3_9 a3_10 a3_11 a3_12 = some r) ∧ wr.heap[w.heap.size]? = some (.cells #[.bool a2_0, .bool a2_1, .bool a2_2, .bool a2_3, .bool a2_4, .bool a2_5, .bool a2_6, .bool a2_7, .int .i64 a2_8, .int .i64 a2_9, .int .i64 a2_10, .int .i64 a2_11, .int .i64 a2_12] 34 (0, 0)) ∧ wr.heap[w.heap.size + 1]? = some (.cells #[.bool a3_0, .bool a3_1, .bool a3_2, .bool a3_3, .bool a3_4, .bool a3_5, .bool a3_6, .bool a3_7, .int .i64 a3_8, .int .i64 a3_9, .int .i64 a3_10, .int .i64 a3_11, .int .i64 a3_12] 34 (0, 0)) ∧ wr.heap[w.heap.size + 2]? = some (.cells rulingsRow 76 (0, 0)) ∧ Aside0 (Below w.heap.size w wr)) (fun i _ => 7 - (intOf i).toNat)
  case atStart => exact ⟨0, Nat.zero_le _, rfl, H, k0, k1, h2, HB⟩
  case round =>
    clear k0 k1 h2 HB H
    obtain ⟨k, hk, rfl, H, k0, k1, h2, HB⟩ := hrel
    have c0 := cells_at h2
    have hcase : k = 0 ∨ k = 1 ∨ k = 2 ∨ k = 3 ∨ k = 4 ∨ k = 5 ∨ k = 6 ∨ k = 7 := by omega
    rcases hcase with rfl | rfl | rfl | rfl | rfl | rfl | rfl | rfl
    · have hf := c0 0
      have ht := c0 1
      simp only [rulingsRow] at hf ht
      clear c0
      have hz := heap_alloc_new wr (.cells #[.func (.func 64) #[] #[], .int .i64 1] 76 (0, 0))
      have k0a := heap_old2 (.cells #[.func (.func 64) #[] #[], .int .i64 1] 76 (0, 0)) k0
      have k1a := heap_old2 (.cells #[.func (.func 64) #[] #[], .int .i64 1] 76 (0, 0)) k1
      have h2a := heap_old2 (.cells #[.func (.func 64) #[] #[], .int .i64 1] 76 (0, 0)) h2
      have HBa : Aside0 (Below w.heap.size w (wr.alloc (.cells #[.func (.func 64) #[] #[], .int .i64 1] 76 (0, 0)))) := ⟨HB.out.alloc HB.out.size _⟩
      obtain ⟨p0, p1, p2, p3, p4, p5, p6, p7, p8, p9, p10, p11, p12⟩ := cells13 k0a
      obtain ⟨q0, q1, q2, q3, q4, q5, q6, q7, q8, q9, q10, q11, q12⟩ := cells13 k1a
      have h := H.out
      clear H
      simp only [jAt] at h
      unfold judge0 at h
      obtain ⟨b, hb, h⟩ := Option.bind_eq_some_iff.1 h
      have HF := Aside0.mk hb
      clear hb
      cases b
      · rw [if_neg (by decide)] at h
        have H' : Aside0 (jAt 1 a0 a1 a2_0 a2_1 a2_2 a2_3 a2_4 a2_5 a2_6 a2_7 a2_8 a2_9 a2_10 a2_11 a2_12 a3_0 a3_1 a3_2 a3_3 a3_4 a3_5 a3_6 a3_7 a3_8 a3_9 a3_10 a3_11 a3_12 = some r) := ⟨h⟩
        clear h
        go_wp2_with (first | (go_at_call 64; (with_reducible refine (policy_rulings_2.calls a0 a1 a2_0 a2_1 a2_2 a2_3 a2_4 a2_5 a2_6 a2_7 a2_8 a2_9 a2_10 a2_11 a2_12 a3_0 a3_1 a3_2 a3_3 a3_4 a3_5 a3_6 a3_7 a3_8 a3_9 a3_10 a3_11 a3_12 false _ HF.out).mono ?_); rintro e w1 ⟨rfl, hb⟩; have hb1 := Aside0.mk hb; clear hb))
        go_roundw
        case rel => exact ⟨1, by omega, by go_num, H', by rw [hb1.out.block _ (Array.getElem?_eq_some_iff.1 k0a).1]; exact k0a, by rw [hb1.out.block _ (Array.getElem?_eq_some_iff.1 k1a).1]; exact k1a, by rw [hb1.out.block _ (Array.getElem?_eq_some_iff.1 h2a).1]; exact h2a, ⟨below_then HBa.out HBa.out.size hb1.out⟩⟩
        case measure => simp [intOf]
      · rw [if_pos rfl] at h
        have h' := Option.some.inj h
        subst h'
        clear h
        go_wp2_with (first | (go_at_call 64; (with_reducible refine (policy_rulings_2.calls a0 a1 a2_0 a2_1 a2_2 a2_3 a2_4 a2_5 a2_6 a2_7 a2_8 a2_9 a2_10 a2_11 a2_12 a3_0 a3_1 a3_2 a3_3 a3_4 a3_5 a3_6 a3_7 a3_8 a3_9 a3_10 a3_11 a3_12 true _ HF.out).mono ?_); rintro e w1 ⟨rfl, hb⟩; have hb1 := Aside0.mk hb; clear hb; have hx : w1.cell? ⟨wr.heap.size, 1, none⟩ = some (.int .i64 1) := cells_at (by rw [hb1.out.block _ (Array.getElem?_eq_some_iff.1 hz).1]; exact hz) 1))
        go_ret
        exact ⟨rfl, below_then HBa.out HBa.out.size hb1.out⟩
    · have hf := c0 2
      have ht := c0 3
      simp only [rulingsRow] at hf ht
      clear c0
      have hz := heap_alloc_new wr (.cells #[.func (.func 65) #[] #[], .int .i64 0] 76 (0, 0))
      have k0a := heap_old2 (.cells #[.func (.func 65) #[] #[], .int .i64 0] 76 (0, 0)) k0
      have k1a := heap_old2 (.cells #[.func (.func 65) #[] #[], .int .i64 0] 76 (0, 0)) k1
      have h2a := heap_old2 (.cells #[.func (.func 65) #[] #[], .int .i64 0] 76 (0, 0)) h2
      have HBa : Aside0 (Below w.heap.size w (wr.alloc (.cells #[.func (.func 65) #[] #[], .int .i64 0] 76 (0, 0)))) := ⟨HB.out.alloc HB.out.size _⟩
      obtain ⟨p0, p1, p2, p3, p4, p5, p6, p7, p8, p9, p10, p11, p12⟩ := cells13 k0a
      obtain ⟨q0, q1, q2, q3, q4, q5, q6, q7, q8, q9, q10, q11, q12⟩ := cells13 k1a
      have h := H.out
      clear H
      simp only [jAt] at h
      unfold judge1 at h
      obtain ⟨b, hb, h⟩ := Option.bind_eq_some_iff.1 h
      have HF := Aside0.mk hb
      clear hb
      cases b
      · rw [if_neg (by decide)] at h
        have H' : Aside0 (jAt 2 a0 a1 a2_0 a2_1 a2_2 a2_3 a2_4 a2_5 a2_6 a2_7 a2_8 a2_9 a2_10 a2_11 a2_12 a3_0 a3_1 a3_2 a3_3 a3_4 a3_5 a3_6 a3_7 a3_8 a3_9 a3_10 a3_11 a3_12 = some r) := ⟨h⟩
        clear h
        go_wp2_with (first | (go_at_call 65; (with_reducible refine (policy_rulings_3.calls a0 a1 a2_0 a2_1 a2_2 a2_3 a2_4 a2_5 a2_6 a2_7 a2_8 a2_9 a2_10 a2_11 a2_12 a3_0 a3_1 a3_2 a3_3 a3_4 a3_5 a3_6 a3_7 a3_8 a3_9 a3_10 a3_11 a3_12 false _ HF.out).mono ?_); rintro e w1 ⟨rfl, hb⟩; have hb1 := Aside0.mk hb; clear hb))
        go_roundw
        case rel => exact ⟨2, by omega, by go_num, H', by rw [hb1.out.block _ (Array.getElem?_eq_some_iff.1 k0a).1]; exact k0a, by rw [hb1.out.block _ (Array.getElem?_eq_some_iff.1 k1a).1]; exact k1a, by rw [hb1.out.block _ (Array.getElem?_eq_some_iff.1 h2a).1]; exact h2a, ⟨below_then HBa.out HBa.out.size hb1.out⟩⟩
        case measure => simp [intOf]
      · rw [if_pos rfl] at h
        have h' := Option.some.inj h
        subst h'
        clear h
        go_wp2_with (first | (go_at_call 65; (with_reducible refine (policy_rulings_3.calls a0 a1 a2_0 a2_1 a2_2 a2_3 a2_4 a2_5 a2_6 a2_7 a2_8 a2_9 a2_10 a2_11 a2_12 a3_0 a3_1 a3_2 a3_3 a3_4 a3_5 a3_6 a3_7 a3_8 a3_9 a3_10 a3_11 a3_12 true _ HF.out).mono ?_); rintro e w1 ⟨rfl, hb⟩; have hb1 := Aside0.mk hb; clear hb; have hx : w1.cell? ⟨wr.heap.size, 1, none⟩ = some (.int .i64 0) := cells_at (by rw [hb1.out.block _ (Array.getElem?_eq_some_iff.1 hz).1]; exact hz) 1))
        go_ret
        exact ⟨rfl, below_then HBa.out HBa.out.size hb1.out⟩
    · have hf := c0 4
      have ht := c0 5
      simp only [rulingsRow] at hf ht
      clear c0
      have hz := heap_alloc_new wr (.cells #[.func (.func 66) #[] #[], .int .i64 2] 76 (0, 0))
      have k0a := heap_old2 (.cells #[.func (.func 66) #[] #[], .int .i64 2] 76 (0, 0)) k0
      have k1a := heap_old2 (.cells #[.func (.func 66) #[] #[], .int .i64 2] 76 (0, 0)) k1
      have h2a := heap_old2 (.cells #[.func (.func 66) #[] #[], .int .i64 2] 76 (0, 0)) h2
      have HBa : Aside0 (Below w.heap.size w (wr.alloc (.cells #[.func (.func 66) #[] #[], .int .i64 2] 76 (0, 0)))) := ⟨HB.out.alloc HB.out.size _⟩
      obtain ⟨p0, p1, p2, p3, p4, p5, p6, p7, p8, p9, p10, p11, p12⟩ := cells13 k0a
      obtain ⟨q0, q1, q2, q3, q4, q5, q6, q7, q8, q9, q10, q11, q12⟩ := cells13 k1a
      have h := H.out
      clear H
      simp only [jAt] at h
      unfold judge2 at h
      obtain ⟨b, hb, h⟩ := Option.bind_eq_some_iff.1 h
      have HF := Aside0.mk hb
      clear hb
      cases b
      · rw [if_neg (by decide)] at h
        have H' : Aside0 (jAt 3 a0 a1 a2_0 a2_1 a2_2 a2_3 a2_4 a2_5 a2_6 a2_7 a2_8 a2_9 a2_10 a2_11 a2_12 a3_0 a3_1 a3_2 a3_3 a3_4 a3_5 a3_6 a3_7 a3_8 a3_9 a3_10 a3_11 a3_12 = some r) := ⟨h⟩
        clear h
        go_wp2_with (first | (go_at_call 66; (with_reducible refine (policy_rulings_4.calls a0 a1 a2_0 a2_1 a2_2 a2_3 a2_4 a2_5 a2_6 a2_7 a2_8 a2_9 a2_10 a2_11 a2_12 a3_0 a3_1 a3_2 a3_3 a3_4 a3_5 a3_6 a3_7 a3_8 a3_9 a3_10 a3_11 a3_12 false _ HF.out).mono ?_); rintro e w1 ⟨rfl, hb⟩; have hb1 := Aside0.mk hb; clear hb))
        go_roundw
        case rel => exact ⟨3, by omega, by go_num, H', by rw [hb1.out.block _ (Array.getElem?_eq_some_iff.1 k0a).1]; exact k0a, by rw [hb1.out.block _ (Array.getElem?_eq_some_iff.1 k1a).1]; exact k1a, by rw [hb1.out.block _ (Array.getElem?_eq_some_iff.1 h2a).1]; exact h2a, ⟨below_then HBa.out HBa.out.size hb1.out⟩⟩
        case measure => simp [intOf]
      · rw [if_pos rfl] at h
        have h' := Option.some.inj h
        subst h'
        clear h
        go_wp2_with (first | (go_at_call 66; (with_reducible refine (policy_rulings_4.calls a0 a1 a2_0 a2_1 a2_2 a2_3 a2_4 a2_5 a2_6 a2_7 a2_8 a2_9 a2_10 a2_11 a2_12 a3_0 a3_1 a3_2 a3_3 a3_4 a3_5 a3_6 a3_7 a3_8 a3_9 a3_10 a3_11 a3_12 true _ HF.out).mono ?_); rintro e w1 ⟨rfl, hb⟩; have hb1 := Aside0.mk hb; clear hb; have hx : w1.cell? ⟨wr.heap.size, 1, none⟩ = some (.int .i64 2) := cells_at (by rw [hb1.out.block _ (Array.getElem?_eq_some_iff.1 hz).1]; exact hz) 1))
        go_ret
        exact ⟨rfl, below_then HBa.out HBa.out.size hb1.out⟩
    · have hf := c0 6
      have ht := c0 7
      simp only [rulingsRow] at hf ht
      clear c0
      have hz := heap_alloc_new wr (.cells #[.func (.func 67) #[] #[], .int .i64 2] 76 (0, 0))
      have k0a := heap_old2 (.cells #[.func (.func 67) #[] #[], .int .i64 2] 76 (0, 0)) k0
      have k1a := heap_old2 (.cells #[.func (.func 67) #[] #[], .int .i64 2] 76 (0, 0)) k1
      have h2a := heap_old2 (.cells #[.func (.func 67) #[] #[], .int .i64 2] 76 (0, 0)) h2
      have HBa : Aside0 (Below w.heap.size w (wr.alloc (.cells #[.func (.func 67) #[] #[], .int .i64 2] 76 (0, 0)))) := ⟨HB.out.alloc HB.out.size _⟩
      obtain ⟨p0, p1, p2, p3, p4, p5, p6, p7, p8, p9, p10, p11, p12⟩ := cells13 k0a
      obtain ⟨q0, q1, q2, q3, q4, q5, q6, q7, q8, q9, q10, q11, q12⟩ := cells13 k1a
      have h := H.out
      clear H
      simp only [jAt] at h
      unfold judge3 at h
      obtain ⟨b, hb, h⟩ := Option.bind_eq_some_iff.1 h
      have HF := Aside0.mk hb
      clear hb
      cases b
      · rw [if_neg (by decide)] at h
        have H' : Aside0 (jAt 4 a0 a1 a2_0 a2_1 a2_2 a2_3 a2_4 a2_5 a2_6 a2_7 a2_8 a2_9 a2_10 a2_11 a2_12 a3_0 a3_1 a3_2 a3_3 a3_4 a3_5 a3_6 a3_7 a3_8 a3_9 a3_10 a3_11 a3_12 = some r) := ⟨h⟩
        clear h
        go_wp2_with (first | (go_at_call 67; (with_reducible refine (policy_rulings_5.calls a0 a1 a2_0 a2_1 a2_2 a2_3 a2_4 a2_5 a2_6 a2_7 a2_8 a2_9 a2_10 a2_11 a2_12 a3_0 a3_1 a3_2 a3_3 a3_4 a3_5 a3_6 a3_7 a3_8 a3_9 a3_10 a3_11 a3_12 false _ HF.out).mono ?_); rintro e w1 ⟨rfl, hb⟩; have hb1 := Aside0.mk hb; clear hb))
        go_roundw
        case rel => exact ⟨4, by omega, by go_num, H', by rw [hb1.out.block _ (Array.getElem?_eq_some_iff.1 k0a).1]; exact k0a, by rw [hb1.out.block _ (Array.getElem?_eq_some_iff.1 k1a).1]; exact k1a, by rw [hb1.out.block _ (Array.getElem?_eq_some_iff.1 h2a).1]; exact h2a, ⟨below_then HBa.out HBa.out.size hb1.out⟩⟩
        case measure => simp [intOf]
      · rw [if_pos rfl] at h
        have h' := Option.some.inj h
        subst h'
        clear h
        go_wp2_with (first | (go_at_call 67; (with_reducible refine (policy_rulings_5.calls a0 a1 a2_0 a2_1 a2_2 a2_3 a2_4 a2_5 a2_6 a2_7 a2_8 a2_9 a2_10 a2_11 a2_12 a3_0 a3_1 a3_2 a3_3 a3_4 a3_5 a3_6 a3_7 a3_8 a3_9 a3_10 a3_11 a3_12 true _ HF.out).mono ?_); rintro e w1 ⟨rfl, hb⟩; have hb1 := Aside0.mk hb; clear hb; have hx : w1.cell? ⟨wr.heap.size, 1, none⟩ = some (.int .i64 2) := cells_at (by rw [hb1.out.block _ (Array.getElem?_eq_some_iff.1 hz).1]; exact hz) 1))
        go_ret
        exact ⟨rfl, below_then HBa.out HBa.out.size hb1.out⟩
    · have hf := c0 8
      have ht := c0 9
      simp only [rulingsRow] at hf ht
      clear c0
      have hz := heap_alloc_new wr (.cells #[.func (.func 68) #[] #[], .int .i64 2] 76 (0, 0))
      have k0a := heap_old2 (.cells #[.func (.func 68) #[] #[], .int .i64 2] 76 (0, 0)) k0
      have k1a := heap_old2 (.cells #[.func (.func 68) #[] #[], .int .i64 2] 76 (0, 0)) k1
      have h2a := heap_old2 (.cells #[.func (.func 68) #[] #[], .int .i64 2] 76 (0, 0)) h2
      have HBa : Aside0 (Below w.heap.size w (wr.alloc (.cells #[.func (.func 68) #[] #[], .int .i64 2] 76 (0, 0)))) := ⟨HB.out.alloc HB.out.size _⟩
      obtain ⟨p0, p1, p2, p3, p4, p5, p6, p7, p8, p9, p10, p11, p12⟩ := cells13 k0a
      obtain ⟨q0, q1, q2, q3, q4, q5, q6, q7, q8, q9, q10, q11, q12⟩ := cells13 k1a
      have h := H.out
      clear H
      simp only [jAt] at h
      unfold judge4 at h
      obtain ⟨b, hb, h⟩ := Option.bind_eq_some_iff.1 h
      have HF := Aside0.mk hb
      clear hb
      cases b
      · rw [if_neg (by decide)] at h
        have H' : Aside0 (jAt 5 a0 a1 a2_0 a2_1 a2_2 a2_3 a2_4 a2_5 a2_6 a2_7 a2_8 a2_9 a2_10 a2_11 a2_12 a3_0 a3_1 a3_2 a3_3 a3_4 a3_5 a3_6 a3_7 a3_8 a3_9 a3_10 a3_11 a3_12 = some r) := ⟨h⟩
        clear h
        go_wp2_with (first | (go_at_call 68; (with_reducible refine (policy_rulings_6.calls a0 a1 a2_0 a2_1 a2_2 a2_3 a2_4 a2_5 a2_6 a2_7 a2_8 a2_9 a2_10 a2_11 a2_12 a3_0 a3_1 a3_2 a3_3 a3_4 a3_5 a3_6 a3_7 a3_8 a3_9 a3_10 a3_11 a3_12 false _ HF.out).mono ?_); rintro e w1 ⟨rfl, hb⟩; have hb1 := Aside0.mk hb; clear hb))
        go_roundw
        case rel => exact ⟨5, by omega, by go_num, H', by rw [hb1.out.block _ (Array.getElem?_eq_some_iff.1 k0a).1]; exact k0a, by rw [hb1.out.block _ (Array.getElem?_eq_some_iff.1 k1a).1]; exact k1a, by rw [hb1.out.block _ (Array.getElem?_eq_some_iff.1 h2a).1]; exact h2a, ⟨below_then HBa.out HBa.out.size hb1.out⟩⟩
        case measure => simp [intOf]
      · rw [if_pos rfl] at h
        have h' := Option.some.inj h
        subst h'
        clear h
        go_wp2_with (first | (go_at_call 68; (with_reducible refine (policy_rulings_6.calls a0 a1 a2_0 a2_1 a2_2 a2_3 a2_4 a2_5 a2_6 a2_7 a2_8 a2_9 a2_10 a2_11 a2_12 a3_0 a3_1 a3_2 a3_3 a3_4 a3_5 a3_6 a3_7 a3_8 a3_9 a3_10 a3_11 a3_12 true _ HF.out).mono ?_); rintro e w1 ⟨rfl, hb⟩; have hb1 := Aside0.mk hb; clear hb; have hx : w1.cell? ⟨wr.heap.size, 1, none⟩ = some (.int .i64 2) := cells_at (by rw [hb1.out.block _ (Array.getElem?_eq_some_iff.1 hz).1]; exact hz) 1))
        go_ret
        exact ⟨rfl, below_then HBa.out HBa.out.size hb1.out⟩
    · have hf := c0 10
      have ht := c0 11
      simp only [rulingsRow] at hf ht
      clear c0
      have hz := heap_alloc_new wr (.cells #[.func (.func 63) #[] #[], .int .i64 0] 76 (0, 0))
      have k0a := heap_old2 (.cells #[.func (.func 63) #[] #[], .int .i64 0] 76 (0, 0)) k0
      have k1a := heap_old2 (.cells #[.func (.func 63) #[] #[], .int .i64 0] 76 (0, 0)) k1
      have h2a := heap_old2 (.cells #[.func (.func 63) #[] #[], .int .i64 0] 76 (0, 0)) h2
      have HBa : Aside0 (Below w.heap.size w (wr.alloc (.cells #[.func (.func 63) #[] #[], .int .i64 0] 76 (0, 0)))) := ⟨HB.out.alloc HB.out.size _⟩
      obtain ⟨p0, p1, p2, p3, p4, p5, p6, p7, p8, p9, p10, p11, p12⟩ := cells13 k0a
      obtain ⟨q0, q1, q2, q3, q4, q5, q6, q7, q8, q9, q10, q11, q12⟩ := cells13 k1a
      have h := H.out
      clear H
      simp only [jAt] at h
      unfold judge5 at h
      obtain ⟨b, hb, h⟩ := Option.bind_eq_some_iff.1 h
      have HF := Aside0.mk hb
      clear hb
      cases b
      · rw [if_neg (by decide)] at h
        have H' : Aside0 (jAt 6 a0 a1 a2_0 a2_1 a2_2 a2_3 a2_4 a2_5 a2_6 a2_7 a2_8 a2_9 a2_10 a2_11 a2_12 a3_0 a3_1 a3_2 a3_3 a3_4 a3_5 a3_6 a3_7 a3_8 a3_9 a3_10 a3_11 a3_12 = some r) := ⟨h⟩
        clear h
        go_wp2_with (first | (go_at_call 63; (with_reducible refine (policy_rulings_1.calls a0 a1 a2_0 a2_1 a2_2 a2_3 a2_4 a2_5 a2_6 a2_7 a2_8 a2_9 a2_10 a2_11 a2_12 a3_0 a3_1 a3_2 a3_3 a3_4 a3_5 a3_6 a3_7 a3_8 a3_9 a3_10 a3_11 a3_12 false _ HF.out).mono ?_); rintro e w1 ⟨rfl, hb⟩; have hb1 := Aside0.mk hb; clear hb))
        go_roundw
        case rel => exact ⟨6, by omega, by go_num, H', by rw [hb1.out.block _ (Array.getElem?_eq_some_iff.1 k0a).1]; exact k0a, by rw [hb1.out.block _ (Array.getElem?_eq_some_iff.1 k1a).1]; exact k1a, by rw [hb1.out.block _ (Array.getElem?_eq_some_iff.1 h2a).1]; exact h2a, ⟨below_then HBa.out HBa.out.size hb1.out⟩⟩
        case measure => simp [intOf]
      · rw [if_pos rfl] at h
        have h' := Option.some.inj h
        subst h'
        clear h
        go_wp2_with (first | (go_at_call 63; (with_reducible refine (policy_rulings_1.calls a0 a1 a2_0 a2_1 a2_2 a2_3 a2_4 a2_5 a2_6 a2_7 a2_8 a2_9 a2_10 a2_11 a2_12 a3_0 a3_1 a3_2 a3_3 a3_4 a3_5 a3_6 a3_7 a3_8 a3_9 a3_10 a3_11 a3_12 true _ HF.out).mono ?_); rintro e w1 ⟨rfl, hb⟩; have hb1 := Aside0.mk hb; clear hb; have hx : w1.cell? ⟨wr.heap.size, 1, none⟩ = some (.int .i64 0) := cells_at (by rw [hb1.out.block _ (Array.getElem?_eq_some_iff.1 hz).1]; exact hz) 1))
        go_ret
        exact ⟨rfl, below_then HBa.out HBa.out.size hb1.out⟩
    · have hf := c0 12
      have ht := c0 13
      simp only [rulingsRow] at hf ht
      clear c0
      have hz := heap_alloc_new wr (.cells #[.func (.func 69) #[] #[], .int .i64 0] 76 (0, 0))
      have k0a := heap_old2 (.cells #[.func (.func 69) #[] #[], .int .i64 0] 76 (0, 0)) k0
      have k1a := heap_old2 (.cells #[.func (.func 69) #[] #[], .int .i64 0] 76 (0, 0)) k1
      have h2a := heap_old2 (.cells #[.func (.func 69) #[] #[], .int .i64 0] 76 (0, 0)) h2
      have HBa : Aside0 (Below w.heap.size w (wr.alloc (.cells #[.func (.func 69) #[] #[], .int .i64 0] 76 (0, 0)))) := ⟨HB.out.alloc HB.out.size _⟩
      obtain ⟨p0, p1, p2, p3, p4, p5, p6, p7, p8, p9, p10, p11, p12⟩ := cells13 k0a
      obtain ⟨q0, q1, q2, q3, q4, q5, q6, q7, q8, q9, q10, q11, q12⟩ := cells13 k1a
      have h := H.out
      clear H
      simp only [jAt] at h
      unfold judge6 at h
      obtain ⟨b, hb, h⟩ := Option.bind_eq_some_iff.1 h
      have HF := Aside0.mk hb
      clear hb
      cases b
      · rw [if_neg (by decide)] at h
        have H' : Aside0 (jAt 7 a0 a1 a2_0 a2_1 a2_2 a2_3 a2_4 a2_5 a2_6 a2_7 a2_8 a2_9 a2_10 a2_11 a2_12 a3_0 a3_1 a3_2 a3_3 a3_4 a3_5 a3_6 a3_7 a3_8 a3_9 a3_10 a3_11 a3_12 = some r) := ⟨h⟩
        clear h
        go_wp2_with (first | (go_at_call 69; (with_reducible refine (policy_rulings_7.calls a0 a1 a2_0 a2_1 a2_2 a2_3 a2_4 a2_5 a2_6 a2_7 a2_8 a2_9 a2_10 a2_11 a2_12 a3_0 a3_1 a3_2 a3_3 a3_4 a3_5 a3_6 a3_7 a3_8 a3_9 a3_10 a3_11 a3_12 false _ HF.out).mono ?_); rintro e w1 ⟨rfl, hb⟩; have hb1 := Aside0.mk hb; clear hb))
        go_roundw
        case rel => exact ⟨7, by omega, by go_num, H', by rw [hb1.out.block _ (Array.getElem?_eq_some_iff.1 k0a).1]; exact k0a, by rw [hb1.out.block _ (Array.getElem?_eq_some_iff.1 k1a).1]; exact k1a, by rw [hb1.out.block _ (Array.getElem?_eq_some_iff.1 h2a).1]; exact h2a, ⟨below_then HBa.out HBa.out.size hb1.out⟩⟩
        case measure => simp [intOf]
      · rw [if_pos rfl] at h
        have h' := Option.some.inj h
        subst h'
        clear h
        go_wp2_with (first | (go_at_call 69; (with_reducible refine (policy_rulings_7.calls a0 a1 a2_0 a2_1 a2_2 a2_3 a2_4 a2_5 a2_6 a2_7 a2_8 a2_9 a2_10 a2_11 a2_12 a3_0 a3_1 a3_2 a3_3 a3_4 a3_5 a3_6 a3_7 a3_8 a3_9 a3_10 a3_11 a3_12 true _ HF.out).mono ?_); rintro e w1 ⟨rfl, hb⟩; have hb1 := Aside0.mk hb; clear hb; have hx : w1.cell? ⟨wr.heap.size, 1, none⟩ = some (.int .i64 0) := cells_at (by rw [hb1.out.block _ (Array.getElem?_eq_some_iff.1 hz).1]; exact hz) 1))
        go_ret
        exact ⟨rfl, below_then HBa.out HBa.out.size hb1.out⟩
    · have h := H.out
      clear H
      simp only [jAt] at h
      unfold judge7 at h
      have h' := Option.some.inj h
      subst h'
      clear h
      go_wp2
      go_ret
      exact ⟨rfl, HB.out⟩
end Go.Proofs.YtebfpnbnoinhbaaGreatDoor.Q
namespace Go.Proofs.YtebfpnbnoinhbaaGreatDoor.Q
open Go.RowKit Go.Proofs.YtebfpnbnoinhbaaGreatDoorW.PrintWords Go.Proofs.YtebfpnbnoinhbaaGreatDoorW.PrintLast Go.Proofs.YtebfpnbnoinhbaaGreatDoorW.PrintMore
set_option linter.unusedVariables false
set_option linter.unusedSimpArgs false
theorem strict_is (b0 b1 b2 b3 b4 b5 b6 b7 : Bool) (n8 n9 n10 n11 n12 : Int) : ∃ v, policy_strict.f b0 b1 b2 b3 b4 b5 b6 b7 n8 n9 n10 n11 n12 = some v ∧ sculleryref14_strict.f b0 b1 b2 b3 b4 b5 b6 b7 n8 n9 n10 n11 n12 = some v := by
  unfold policy_strict.f sculleryref14_strict.f
  by_cases h1 : b4 = true
  · exact ⟨true, by rw [if_pos h1], by rw [if_pos h1]⟩
  · by_cases h2 : b5 = true
    · exact ⟨true, by rw [if_neg h1, if_pos h2], by rw [if_neg h1, if_pos h2]⟩
    · exact ⟨_, by rw [if_neg h1, if_neg h2], by rw [if_neg h1, if_neg h2]⟩
end Go.Proofs.YtebfpnbnoinhbaaGreatDoor.Q
namespace Go.Proofs.YtebfpnbnoinhbaaGreatDoor.Q
open Go.RowKit Go.Proofs.YtebfpnbnoinhbaaGreatDoorW.PrintWords Go.Proofs.YtebfpnbnoinhbaaGreatDoorW.PrintLast Go.Proofs.YtebfpnbnoinhbaaGreatDoorW.PrintMore
set_option linter.unusedVariables false
set_option linter.unusedSimpArgs false
def jVal (a0 a1 : Int) (nc im anc s : Bool) (ma mf ms : Int) : Int := if nc = true then 1 else if a0 < a1 ∧ im = true then 0 else if anc = true then 2 else if 0 ≤ ma ∧ ma < a0 then 2 else if 0 ≤ mf ∧ wrap64 (a1 - a0) < mf then 2 else if a0 < a1 then 0 else if 0 ≤ ms ∧ wrap64 (a0 - a1) ≤ ms ∧ s = false then 0 else 1
def oVal (a0 a1 : Int) (nc s mr : Bool) (si : Int) : Bool := !nc && (decide (a0 < a1) || !s || (decide (0 ≤ si) && decide (wrap64 (a0 - a1) ≤ si) && !mr))
set_option maxHeartbeats 8000000 in
theorem judge_val (t : Bool) (r_0 : Bool) (r_1 : Bool) (r_2 : Bool) (r_3 : Bool) (r_4 : Bool) (r_5 : Bool) (r_6 : Bool) (r_7 : Bool) (r_8 : Int) (r_9 : Int) (r_10 : Int) (r_11 : Int) (r_12 : Int) (s_0 : Bool) (s_1 : Bool) (s_2 : Bool) (s_3 : Bool) (s_4 : Bool) (s_5 : Bool) (s_6 : Bool) (s_7 : Bool) (s_8 : Int) (s_9 : Int) (s_10 : Int) (s_11 : Int) (s_12 : Int) (ht : policy_strict.f r_0 r_1 r_2 r_3 r_4 r_5 r_6 r_7 r_8 r_9 r_10 r_11 r_12 = some t) : ∀ a0 a1, policy_Judge.f a0 a1 r_0 r_1 r_2 r_3 r_4 r_5 r_6 r_7 r_8 r_9 r_10 r_11 r_12 s_0 s_1 s_2 s_3 s_4 s_5 s_6 s_7 s_8 s_9 s_10 s_11 s_12 = some (jVal a0 a1 r_1 r_6 s_1 t s_8 s_11 s_10) := by
  intro a0 a1
  unfold policy_Judge.f judge0 judge1 judge2 judge3 judge4 judge5 judge6 policy_rulings_1.f policy_rulings_2.f policy_rulings_3.f policy_rulings_4.f policy_rulings_5.f policy_rulings_6.f policy_rulings_7.f jVal
  simp only [ht, Option.bind_some]
  by_cases c1 : r_1 = true <;> by_cases c2 : a0 < a1 <;> by_cases c3 : r_6 = true <;> by_cases c4 : s_1 = true <;> by_cases c5 : 0 ≤ s_8 <;> by_cases c6 : s_8 < a0 <;> by_cases c7 : 0 ≤ s_11 <;> by_cases c8 : wrap64 (a1 - a0) < s_11 <;> simp [c1, c2, c3, c4, c5, c6, c7, c8]
  all_goals (by_cases c9 : 0 ≤ s_10 <;> by_cases c10 : wrap64 (a0 - a1) ≤ s_10 <;> cases t <;> simp [c9, c10])
set_option maxHeartbeats 4000000 in
theorem onError_val (t : Bool) (r_0 : Bool) (r_1 : Bool) (r_2 : Bool) (r_3 : Bool) (r_4 : Bool) (r_5 : Bool) (r_6 : Bool) (r_7 : Bool) (r_8 : Int) (r_9 : Int) (r_10 : Int) (r_11 : Int) (r_12 : Int) (ht : policy_strict.f r_0 r_1 r_2 r_3 r_4 r_5 r_6 r_7 r_8 r_9 r_10 r_11 r_12 = some t) : ∀ a0 a1, policy_OnError.f a0 a1 r_0 r_1 r_2 r_3 r_4 r_5 r_6 r_7 r_8 r_9 r_10 r_11 r_12 = some (oVal a0 a1 r_1 t r_4 r_12) := by
  intro a0 a1
  unfold policy_OnError.f oVal
  rw [ht]
  simp only [Option.bind_some]
  by_cases c1 : r_1 = true <;> by_cases c2 : a0 < a1 <;> cases t <;> by_cases c3 : 0 ≤ r_12 <;> by_cases c4 : wrap64 (a0 - a1) ≤ r_12 <;> cases r_4 <;> simp [c1, c2, c3, c4]
theorem w_sub (x y : Int) (h1 : -9223372036854775808 ≤ x - y) (h2 : x - y ≤ 9223372036854775807) : wrap64 (x - y) = x - y := by unfold wrap64; omega
theorem jVal_range (a0 a1 : Int) (nc im anc s : Bool) (ma mf ms : Int) : 0 ≤ jVal a0 a1 nc im anc s ma mf ms ∧ jVal a0 a1 nc im anc s ma mf ms ≤ 2 := by
  unfold jVal
  repeat' split
  all_goals omega
theorem jVal_younger (a l n m : Int) (nc im anc s : Bool) (ma mf ms : Int) (h1 : 0 ≤ a) (h2 : a ≤ 2147483648) (h3 : 0 ≤ l) (h4 : l ≤ 2147483648) (h5 : 0 ≤ n) (h6 : n ≤ a) (h7 : 0 ≤ m) (h8 : m ≤ 2147483648 - l)
    (h : jVal a l nc im anc s ma mf ms = 0) : jVal (a - n) (l + m) nc im anc s ma mf ms = 0 := by
  unfold jVal at h ⊢
  rw [w_sub _ _ (by omega) (by omega), w_sub _ _ (by omega) (by omega)] at h ⊢
  cases nc <;> cases im <;> cases anc <;> cases s <;> simp at h ⊢ <;> (repeat' split at h) <;> (repeat' split) <;> omega
theorem jVal_fresh (a l : Int) (s anc : Bool) (ma mf ms : Int) (h : a < l) : jVal a l false true anc s ma mf ms = 0 := by
  unfold jVal
  simp [h]
theorem oVal_younger (a l n m : Int) (nc s mr : Bool) (si : Int) (h1 : 0 ≤ a) (h2 : a ≤ 2147483648) (h3 : 0 ≤ l) (h4 : l ≤ 2147483648) (h5 : 0 ≤ n) (h6 : n ≤ a) (h7 : 0 ≤ m) (h8 : m ≤ 2147483648 - l)
    (h : oVal a l nc s mr si = true) : oVal (a - n) (l + m) nc s mr si = true := by
  unfold oVal at h ⊢
  rw [w_sub _ _ (by omega) (by omega)] at h ⊢
  cases nc <;> cases s <;> cases mr <;> simp at h ⊢ <;> omega
theorem jo (a l : Int) (nc im anc s mr : Bool) (ma mf ms si : Int) (h : jVal a l nc im anc s ma mf ms = 0) (hl : a < l) : oVal a l nc s mr si = true := by
  unfold jVal at h
  unfold oVal
  cases nc <;> simp [hl] at h ⊢
end Go.Proofs.YtebfpnbnoinhbaaGreatDoor.Q
