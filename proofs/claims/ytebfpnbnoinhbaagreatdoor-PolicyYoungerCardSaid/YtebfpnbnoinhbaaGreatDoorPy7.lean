/- scullerylaw14.PolicyYounger tells true of every two ages and lifetimes and every pair of rules. No condition. -/
import Derived.RangeFuncBox
import Derived.RangeFuncLeaves
import Derived.Shelf.Abstract
import Derived.WalkKit
import Derived.OwnWalkIn
import Derived.TacticsInMore
import Derived.LoopNIn
import Derived.LoopIn
import Derived.Maps.AppendAt
import Derived.ChangeSlices
import Derived.Test.YtebfpnbnoinhbaaGreatDoorPy1
import Derived.Test.YtebfpnbnoinhbaaGreatDoorPy2
import Derived.Test.YtebfpnbnoinhbaaGreatDoorPy3
import Derived.Test.YtebfpnbnoinhbaaGreatDoorPy4
namespace Go.Proofs.YtebfpnbnoinhbaaGreatDoor.Q
open Go.RowKit Go.Shelf Go.Proofs.YtebfpnbnoinhbaaGreatDoorW.PrintWords Go.Proofs.YtebfpnbnoinhbaaGreatDoorW.PrintLast Go.Proofs.YtebfpnbnoinhbaaGreatDoorW.PrintMore
set_option linter.unusedVariables false
set_option linter.unusedSimpArgs false
attribute [local go_sem] Oper.semAt_some
abbrev FieldS := S51
def allTo (l : List FieldS) (n : ByteArray) : Nat → List ByteArray
  | 0 => []
  | k + 1 => if ((rd_T51 l (k : Int)).f0.toList == n.toList) = true then allTo l n k ++ [(rd_T51 l (k : Int)).f1] else allTo l n k
theorem allTo_length (l : List FieldS) (n : ByteArray) : ∀ k, (allTo l n k).length ≤ k
  | 0 => Nat.le_refl _
  | k + 1 => by
    have := allTo_length l n k
    simp only [allTo]
    split
    · simp; exact this
    · omega
def head_All.f (l0 : List FieldS) (a1 : ByteArray) : Option (List ByteArray) := if l0.length < 8796093022208 then some (allTo l0 a1 l0.length) else none
set_option maxHeartbeats 1000000 in
theorem named_in (F : Fence) (n : Nat) (h5 : F.fn 110) (hro : F.round = none) (A0 : Option Addr) (m c : Nat) (s : ByteArray) (w : World) :
    CallsIn F n Tryz.prog 110 #[.slice A0 m c, .string s] w fun e w' => e = .returned (.func (.func 147) #[] #[.pointer (some ⟨w.heap.size, 0, none⟩), .pointer (some ⟨w.heap.size + 1, 0, none⟩)]) ∧ w' = (w.alloc (.cells #[.slice A0 m c] 22)).alloc (.cells #[.string s] 9) := by
  refine callsIn_of_wp Tryz.func110 rfl h5 ?_ hro
  simp only [Tryz.ntmps110, List.size_toArray, List.length_cons, List.length_nil, Nat.reduceAdd, Nat.reduceSub, Array.replicate_succ, Array.replicate_zero, List.push_toArray, List.append_toArray, List.nil_append, List.cons_append]
  gi_wp2
  go_ret
  exact ⟨rfl, by simp⟩
theorem heap_old {w : World} {k : Nat} {x : Obj} (o : Obj) (h : w.heap[k]? = some x) : (w.alloc o).heap[k]? = some x := by
  rw [Below.heap_alloc w o k (Array.getElem?_eq_some_iff.1 h).1]; exact h
def KeepN (n0 b : Nat) (A B : World) : Prop := Below n0 A B ∧ B.heap[b]? = A.heap[b]?
set_option maxRecDepth 100000 in
set_option maxHeartbeats 4000000 in
theorem named1_in (F : Fence) (n : Nat) (h7 : F.fn 147) (hro : F.round = none) (hn : 1 ≤ n) (lp b1 : Nat) (w0 : World) (A0 : Option Addr) (c0 : Nat) (l0 : List FieldS) (a1 : ByteArray) (hl0 : l0.length < 8796093022208)
    (hr0 : Kd.C k51 w0 A0 l0.length l0) (J Jx : List ByteArray → World → Prop) (W : World) (hJ : AbidesFrom W.heap.size J)
    (hY : ∀ pre x W, J pre W → pre.length < l0.length → YieldAt F (n - 1) Tryz.prog lp #[.string x] W fun e W' =>
      (e = .returned (.bool true) ∧ J (pre ++ [x]) W' ∧ KeepN w0.heap.size (b1 + 1) W W') ∨ (e = .returned (.bool false) ∧ Jx (pre ++ [x]) W'))
    (hB : Below w0.heap.size w0 W) (hb1 : W.heap[b1]? = some (.cells #[.slice A0 l0.length c0] 22 (0, 0))) (hb2 : W.heap[b1 + 1]? = some (.cells #[.string a1] 9 (0, 0))) (h0 : J [] W) :
    CallsIn F n Tryz.prog 147 #[.func (.yield lp) #[] #[], .pointer (some ⟨b1, 0, none⟩), .pointer (some ⟨b1 + 1, 0, none⟩)] W fun e W' => (∃ v, e = .returned v) ∧
      ((∃ ys, ys = allTo l0 a1 l0.length ∧ J ys W') ∨ (∃ pre, True ∧ Jx pre W')) := by
  have hc1 := (box_cell hb1).1
  refine callsIn_of_wp Tryz.func147 rfl h7 ?_ hro
  simp only [Tryz.ntmps147, List.size_toArray, List.length_cons, List.length_nil, Nat.reduceAdd, Nat.reduceSub, Array.replicate_succ, Array.replicate_zero, List.push_toArray, List.append_toArray, List.nil_append, List.cons_append]
  gi_wp2
  gi_loopw [8] (fun i wr => ∃ k : Nat, k ≤ l0.length ∧ i = .int .i64 k ∧ J (allTo l0 a1 k) wr ∧ Below w0.heap.size w0 wr ∧ W.heap.size ≤ wr.heap.size ∧ wr.heap[b1 + 1]? = some (.cells #[.string a1] 9 (0, 0)))
    (fun i _ => l0.length - (intOf i).toNat)
  case atStart => exact ⟨0, Nat.zero_le _, rfl, h0, hB, Nat.le_refl _, hb2⟩
  case round =>
    obtain ⟨k, hk, rfl, hJs, hBr, hsz, hbr⟩ := hrel
    have hc2 := (box_cell hbr).1
    have hw : wrap64 ((k : Int) + 1) = ((k + 1 : Nat) : Int) := by unfold wrap64; omega
    by_cases hlt : k < l0.length
    · have hd : decide (k < l0.length) = true := decide_eq_true hlt
      obtain ⟨ad, e, hx0, hx1⟩ := at_T51 hr0 (k : Int) (by omega) (by omega)
      cases e
      replace hx0 := (hBr.cell (World.block_lt_of_cell? w0 _ hx0)).trans hx0
      replace hx1 := (hBr.cell (World.block_lt_of_cell? w0 _ hx1)).trans hx1
      simp only [Int.toNat_natCast] at hx0 hx1
      by_cases he : (rd_T51 l0 (k : Int)).f0.toList = a1.toList
      · have heb : ((rd_T51 l0 (k : Int)).f0.toList == a1.toList) = true := beq_iff_eq.mpr he
        have hA : allTo l0 a1 (k + 1) = allTo l0 a1 k ++ [(rd_T51 l0 (k : Int)).f1] := by
          simp only [allTo]
          rw [if_pos heb]
        have hlen := allTo_length l0 a1 k
        generalize rd_T51 l0 (k : Int) = x at hx0 hx1 he heb hA
        have HA := Aside0.mk hA
        clear hA
        have hBW := Aside0.mk hBr
        have hJ2 : J (allTo l0 a1 k) (wr.alloc (.cells #[.string x.f0, .string x.f1] 51)) := hJ _ _ _ none hJs (World.grownBy_alloc wr _ none) (fun r e => by cases e)
        have hb3 := heap_old (.cells #[.string x.f0, .string x.f1] 51) hbr
        have hc3 := (box_cell hb3).1
        have hB3 : Below w0.heap.size w0 (wr.alloc (.cells #[.string x.f0, .string x.f1] 51)) := hBr.alloc hBr.size _
        obtain ⟨fn, tmps, assign, body, hy, hR⟩ := hY _ x.f1 _ hJ2 (by omega)
        gi_wp2
        refine hR.mono ?_
        rintro e W3 (⟨rfl, hJ3, hk3⟩ | ⟨rfl, hJx3⟩)
        · gi_wp2
          refine ⟨⟨k + 1, by omega, rfl, by rw [HA.out]; exact hJ3, hB3.trans hk3.1, ?_, hk3.2.trans hb3⟩, by simp [intOf]; omega⟩
          have h1 := hk3.1.size
          simp at h1
          omega
        · gi_wp2
          refine bodyPost_ret (results_none rfl _ _ _) rfl ?_
          exact ⟨⟨_, rfl⟩, .inr ⟨_, trivial, hJx3⟩⟩
      · have heb : ((rd_T51 l0 (k : Int)).f0.toList == a1.toList) = false := beq_eq_false_iff_ne.mpr he
        have hA : allTo l0 a1 (k + 1) = allTo l0 a1 k := by
          simp only [allTo]
          rw [if_neg (by rw [heb]; simp)]
        have HA := Aside0.mk hA
        clear hA
        generalize rd_T51 l0 (k : Int) = x at hx0 hx1 he heb
        have hJ2 : J (allTo l0 a1 k) (wr.alloc (.cells #[.string x.f0, .string x.f1] 51)) := hJ _ _ _ none hJs (World.grownBy_alloc wr _ none) (fun r e => by cases e)
        have hb3 := heap_old (.cells #[.string x.f0, .string x.f1] 51) hbr
        have hc3 := (box_cell hb3).1
        have hB3 : Below w0.heap.size w0 (wr.alloc (.cells #[.string x.f0, .string x.f1] 51)) := hBr.alloc hBr.size _
        gi_wp2
        refine ⟨fun _ h => (by cases h), ?_⟩
        gi_wp2
        refine ⟨⟨k + 1, by omega, rfl, by rw [HA.out]; exact hJ2, hB3, by simp; omega, hb3⟩, by simp [intOf]; omega⟩
    · obtain rfl : k = l0.length := by omega
      have hd : decide (l0.length < l0.length) = false := decide_eq_false hlt
      gi_wp2
      go_end0
      exact ⟨⟨_, rfl⟩, .inl ⟨_, rfl, hJs⟩⟩
theorem own_strs {W : World} {base : Nat} {v : Value} : ∀ {xs : List ByteArray}, W.ownsRow base 9 1 v xs.length (xs.map Value.string) → Kd.R Kd.string 9 W base (fun _ => True) v xs := by
  intro xs h
  refine ⟨fun _ _ => trivial, xs.map Value.string, h, by rw [List.length_map]; exact (Nat.mul_one _).symm, fun j p hj => ?_⟩
  show (List.take 1 (List.drop (j * 1) (xs.map Value.string))) = [Value.string p]
  have hlt : j < xs.length := (List.getElem?_eq_some_iff.1 hj).1
  rw [Nat.mul_one, List.take_one, List.head?_drop]
  simp [hj]
theorem keepN_t {n0 b : Nat} {A B C : World} (h : KeepN n0 b A B) (k : KeepN n0 b B C) : KeepN n0 b A C := ⟨h.1.trans k.1, k.2.trans h.2⟩
theorem keepN_b {n0 b m : Nat} (h0 : n0 ≤ m) (hb : b < m) (W : World) (l : Nat) (o o' : Obj) (hl : m ≤ l) (hw : W.heap[l]? = some o) (hc : o.isCells = false) (hk : o.isWalk = false) : KeepN n0 b W (W.putObj l o') :=
  ⟨⟨rfl, rfl, rfl, by simp, fun k hk => World.putObj_heap_other (fun e => by omega)⟩, World.putObj_heap_other (fun e => by omega)⟩
set_option maxRecDepth 100000 in
set_option maxHeartbeats 4000000 in
theorem head_All.calls (A0 : Option Addr) (c0 : Nat) (l0 : List FieldS) (a1 : ByteArray) (r : List ByteArray) (w : World) (hr0 : Kd.C k51 w A0 l0.length l0) (hc0 : l0.length ≤ c0) (h : head_All.f l0 a1 = some r) :
    Calls Tryz.prog 77 #[.slice A0 l0.length c0, .string a1] w fun e w' => ∃ v0_ : Value, e = .returned v0_ ∧ Kd.R Kd.string 9 w' w.heap.size (fun _ => True) v0_ r ∧ Below w.heap.size w w' := by
  unfold head_All.f at h
  split at h
  case isFalse => cases h
  rename_i hl0
  obtain rfl := Option.some.inj h
  clear h
  obtain ⟨i0, hi, hz0, hz1, hz2⟩ := info_parts info9
  refine (callsIn_wide (n := 3)).1 ?_
  refine callsIn_of_wp_marks Tryz.func77 rfl trivial ?_ rfl
  simp only [Tryz.ntmps77, List.size_toArray, List.length_cons, List.length_nil, Nat.reduceAdd, Nat.reduceSub, Array.replicate_succ, Array.replicate_zero, List.push_toArray, List.append_toArray, List.nil_append, List.cons_append]
  gi_wp2_with (refine ⟨trivial, ?_⟩; gi_at_call 110; refine (named_in Fence.wide 2 trivial rfl _ _ _ _ _).mono ?_; rintro e w' ⟨rfl, rfl⟩)
  have bO := Boxed.new w 77 (.slice none 0 0)
  have b1 := Boxed.new (w.alloc (.cells #[.slice none 0 0] 77)) 22 (.slice A0 l0.length c0)
  have b2 := Boxed.new ((w.alloc (.cells #[.slice none 0 0] 77)).alloc (.cells #[.slice A0 l0.length c0] 22)) 9 (.string a1)
  rw [World.size_alloc] at b1
  rw [World.size_alloc, World.size_alloc] at b2
  have hB0 : Below w.heap.size w (((w.alloc (.cells #[.slice none 0 0] 77)).alloc (.cells #[.slice A0 l0.length c0] 22)).alloc (.cells #[.string a1] 9)) := (((Below.refl _ w).alloc (Nat.le_refl _) _).alloc (by simp) _).alloc (by simp; omega) _
  have bO3 := (bO.alloc (.cells #[.slice A0 l0.length c0] 22)).alloc (.cells #[.string a1] 9)
  have b13 := b1.alloc (.cells #[.string a1] 9)
  have hsz : (((w.alloc (.cells #[.slice none 0 0] 77)).alloc (.cells #[.slice A0 l0.length c0] 22)).alloc (.cells #[.string a1] 9)).heap.size = w.heap.size + 3 := by simp
  generalize ((w.alloc (.cells #[.slice none 0 0] 77)).alloc (.cells #[.slice A0 l0.length c0] 22)).alloc (.cells #[.string a1] 9) = W0 at bO3 b13 b2 hB0 hsz ⊢
  clear bO b1
  have hst : SeqStopsK Fence.wide 2 Tryz.prog 147 #[.pointer (some ⟨w.heap.size + 1, 0, none⟩), .pointer (some ⟨w.heap.size + 1 + 1, 0, none⟩)] (fun x : ByteArray => #[Value.string x]) (KeepN w.heap.size (w.heap.size + 1 + 1)) (fun ys => ys = allTo l0 a1 l0.length) (fun _ => True) l0.length W0 :=
    fun l J Jx W hW hJ _ hY h0 => named1_in Fence.wide 2 trivial rfl (by omega) l (w.heap.size + 1) w A0 c0 l0 a1 hl0 hr0 J Jx W hJ hY (hB0.trans (hW.mono (by omega))) (by rw [hW.block _ b13.lt]; exact b13) (by rw [hW.block _ b2.lt]; exact b2) h0
  refine wpIn_rangeFunc_ownF rfl (by omega) (gf := 147) (lb := #[.pointer (some ⟨w.heap.size + 1, 0, none⟩), .pointer (some ⟨w.heap.size + 1 + 1, 0, none⟩)]) rfl trivial (enters_of Tryz.func147 (by kernel_rfl) rfl) hst
    keepN_t (keepN_b (by omega) (by omega)) (Below.refl _ _) (fun _ => rfl)
    (fun pre W => (∃ v, Boxed W w.heap.size 77 v ∧ W.ownsRow (w.heap.size + 3) 9 1 v pre.length (pre.map Value.string) ∧ True) ∧ Below w.heap.size w W ∧ w.heap.size + 3 ≤ W.heap.size)
    (fun _ _ _ => False)
    (OwnFrom.and (Own.from (holdsRow_own (w.heap.size + 3) w.heap.size 77 9 1 (fun pre : List ByteArray => pre.length) (fun pre : List ByteArray => pre.map Value.string) (fun _ _ => True)) _) (OwnFrom.and (ownFrom_below (Nat.le_refl _) (by omega)) (fun _ _ _ _ hs hg _ => Nat.le_trans hs hg.size)))
    (fun _ _ _ _ _ hs _ _ => hs)
    ⟨⟨_, bO3, World.ownsRow_nil _ _ _ _, trivial⟩, hB0, by omega⟩
    (fun x => { tmps := #[.slice A0 l0.length c0, .string a1, undef, undef, .slice none 0 0, .pointer (some ⟨w.heap.size, 0, none⟩), .string x, .slice A0 l0.length c0, .string a1, .func (.func 147) #[] #[.pointer (some ⟨w.heap.size + 1, 0, none⟩), .pointer (some ⟨w.heap.size + 1 + 1, 0, none⟩)], .string x, undef, undef, undef, undef, undef], defers := [] }) ?assign ?body ?done ?stop
  case assign =>
    intro l x W K hK
    gi_wp2
    exact hK
  case body =>
    rintro l pre x W ⟨⟨v, hv, hrow, _⟩, hB, hWs⟩ hlt
    have hc := hv.cell
    have hb0 := own_weaken (base' := w.heap.size) hrow (by omega)
    gi_wp2_with (gi_at_builtin; refine wpListIn_append_own _ rfl _ _ 77 rfl (w.heap.size + 3) 9 i0 (.string ⟨#[]⟩) 1 16 Tryz.underlying77 hi hz0 hz1 hz2 rfl (by decide) _ _ _ rfl (hrow.alloc _) ⟨W.heap.size, 0, none⟩ 1 1 [.string x] rfl rfl (cell_one_new _ _ _) (by simp [Value.oneCell']) (by simp [maxLen]; omega) (by omega) (by simp; omega) ?_; intro v' w1 hown' hgrow _; obtain ⟨g', cap', rfl⟩ := ownsRow_succ hown'; obtain ⟨hv1, hv2, hr2, hk2, hb2⟩ := hv.appended (by decide) hb0 hB.size (Nat.le_refl _) (own_weaken hown' (by omega)) hgrow; have hc1 := hv1.cell; have hf1 := hv1.frozen)
    refine ⟨hk2, ⟨hb2, ?_⟩, ⟨_, hv2, ?_, trivial⟩, hB.trans hb2, Nat.le_trans hWs hb2.size⟩
    · exact (Below.heap_setCell w1 _ _ _ (by simp; omega)).trans ((hgrow.block _ (by simp; omega) (fun e => by have := own_base hrow _ e.symm; omega)).trans (Below.heap_alloc W _ _ (by omega)))
    · have h3 := own_setCell hown' (p := ⟨w.heap.size, 0, none⟩) (hv1.not_row (by decide) hown') (.slice (some ⟨g', 0, none⟩) (pre.length + 1) cap')
      rw [List.length_append, List.map_append]
      exact h3
  case done =>
    rintro D ys W hD rfl ⟨⟨v, hv, hrow, _⟩, hB, hWs⟩ hK
    have hc := hv.cell
    gi_wp2
    refine ⟨by simp, .inl ⟨_, _, rfl, run_takeDeferred hK, ?_⟩⟩
    exact ⟨_, results_tmp rfl _ _ _, v, rfl, own_strs (own_weaken (ownsRow_putObj hrow _ hK rfl) (by omega)), hB.trans (belowK_b (w := w) (Nat.le_refl _) W D _ _ (by omega) hK rfl rfl)⟩
  case stop =>
    rintro D c pre W _ _ h _
    exact h.elim
end Go.Proofs.YtebfpnbnoinhbaaGreatDoor.Q
