/- scullerylaw14.PolicyJudges tells true of every age, lifetime and pair of rules. No condition. -/
import Derived.KernelRfl
import Derived.ChangeSlices
import Derived.Test.YtebfpnbnoinhbaaGreatDoorPj1
import Derived.Test.YtebfpnbnoinhbaaGreatDoorPj2
import Derived.Test.YtebfpnbnoinhbaaGreatDoorPj3
import Derived.Test.YtebfpnbnoinhbaaGreatDoorPj4
import Derived.Test.YtebfpnbnoinhbaaGreatDoorPj5
import Derived.Test.YtebfpnbnoinhbaaGreatDoorPj6
import Derived.Test.YtebfpnbnoinhbaaGreatDoorPj7
import Derived.Test.YtebfpnbnoinhbaaGreatDoorPj8
import Derived.Test.YtebfpnbnoinhbaaGreatDoorPj9
import Derived.Test.YtebfpnbnoinhbaaGreatDoorPj10
import Derived.Test.YtebfpnbnoinhbaaGreatDoorPj11
import Derived.Test.YtebfpnbnoinhbaaGreatDoorPj12
namespace Go.Proofs.YtebfpnbnoinhbaaGreatDoor.Q
open Go.RowKit Go.Proofs.YtebfpnbnoinhbaaGreatDoorW.PrintWords Go.Proofs.YtebfpnbnoinhbaaGreatDoorW.PrintLast Go.Proofs.YtebfpnbnoinhbaaGreatDoorW.PrintMore
attribute [local go_sem] max2_int max_two
set_option linter.unusedVariables false
set_option linter.unusedSimpArgs false
def policy_Lifetime.f (k : Nat) (a0_0 : Int) (l0_1 : List (S51)) (l0_2 : List Int) (a1 : Int) : Option (Int) := (modern_Choose.f k l0_1).bind fun bt2 => (if bt2.2.2.2.2.2.2.2.2.2.1 ≥ 0 then (some bt2.2.2.2.2.2.2.2.2.2.1) else (if bt2.2.2.2.2.2.2.2.2.1 ≥ 0 then (some bt2.2.2.2.2.2.2.2.2.1) else (if bt2.2.2.2.2.2.2.2.2.2.2.2.2.2 = 2 then (some 0) else ((age_Date.f l0_1 a1).bind fun t17 => ((policy_guessed.f a0_0 l0_1 l0_2 bt2.1 bt2.2.1 bt2.2.2.1 bt2.2.2.2.1 bt2.2.2.2.2.1 bt2.2.2.2.2.2.1 bt2.2.2.2.2.2.2.1 bt2.2.2.2.2.2.2.2.1 bt2.2.2.2.2.2.2.2.2.1 bt2.2.2.2.2.2.2.2.2.2.1 bt2.2.2.2.2.2.2.2.2.2.2.1 bt2.2.2.2.2.2.2.2.2.2.2.2.1 bt2.2.2.2.2.2.2.2.2.2.2.2.2.1 t17).bind fun t18 => (some t18))))))
def policy_Lifetime.T8 : Bool × List (List Nat × List Nat) := (true, [([], []), ([], []), ([], []), ([2], [2]), ([], []), ([3, 4], [3, 4]), ([0, 1, 5, 5], [0, 1, 5]), ([6, 6, 0, 1, 2, 3, 4, 5, 6], [6])])
def policy_Lifetime.B8 : List Nat := [0, 0, 0, 4, 0, 28, 63, 127]
theorem policy_Lifetime.tab8 : rtab .any (opsOf Tryz.f11 8) = policy_Lifetime.T8 := by kernel_rfl
theorem policy_Lifetime.bits8 : waitsOk policy_Lifetime.T8.2 policy_Lifetime.B8 = true := by kernel_rfl
set_option maxHeartbeats 8000000 in
set_option maxRecDepth 100000 in
theorem policy_Lifetime.calls (k : Nat) (a0_0 : Int) (A0_1 : Option Addr) (c0_1 : Nat) (l0_1 : List (S51)) (A0_2 : Option Addr) (c0_2 : Nat) (l0_2 : List Int) (a1 : Int) (r : Int) (w : World) (hr0_1 : Kd.C k51 w A0_1 l0_1.length l0_1) (hc0_1 : l0_1.length ≤ c0_1) (hr0_2 : Kd.C (Kd.int .u8) w A0_2 l0_2.length l0_2) (hc0_2 : l0_2.length ≤ c0_2) (HG0 : GL w) (h : policy_Lifetime.f k a0_0 l0_1 l0_2 a1 = some r) :
    Calls Tryz.prog 11 #[.agg #[.int .i64 a0_0, .slice A0_1 l0_1.length c0_1, .slice A0_2 l0_2.length c0_2], .int .i64 a1] w fun e w' => e = .returned (.int .i64 r) ∧ Below w.heap.size w w' := by
  have hu27 := Tryz.underlying27
  have hu34 := Tryz.underlying34
  have HG := Aside0.mk HG0
  clear HG0
  have HR0_1 := Aside0.mk hr0_1
  have HC0_1 := Aside0.mk hc0_1
  clear hr0_1 hc0_1
  have HR0_2 := Aside0.mk hr0_2
  have HC0_2 := Aside0.mk hc0_2
  clear hr0_2 hc0_2
  have HB := Aside0.mk (Below.refl w.heap.size w)
  have H : ((modern_Choose.f k l0_1).bind fun bt2 => (if bt2.2.2.2.2.2.2.2.2.2.1 ≥ 0 then (some bt2.2.2.2.2.2.2.2.2.2.1) else (if bt2.2.2.2.2.2.2.2.2.1 ≥ 0 then (some bt2.2.2.2.2.2.2.2.2.1) else (if bt2.2.2.2.2.2.2.2.2.2.2.2.2.2 = 2 then (some 0) else ((age_Date.f l0_1 a1).bind fun t17 => ((policy_guessed.f a0_0 l0_1 l0_2 bt2.1 bt2.2.1 bt2.2.2.1 bt2.2.2.2.1 bt2.2.2.2.2.1 bt2.2.2.2.2.2.1 bt2.2.2.2.2.2.2.1 bt2.2.2.2.2.2.2.2.1 bt2.2.2.2.2.2.2.2.2.1 bt2.2.2.2.2.2.2.2.2.2.1 bt2.2.2.2.2.2.2.2.2.2.2.1 bt2.2.2.2.2.2.2.2.2.2.2.2.1 bt2.2.2.2.2.2.2.2.2.2.2.2.2.1 t17).bind fun t18 => (some t18))))))) = some r := h
  clear h
  replace H := Option.bind_eq_some_iff.mp H
  obtain ⟨⟨t2, t3, t4, t5, t6, t7, t8, t9, t10, t11, t12, t13, t14, t15⟩, A30, H⟩ := H
  replace H : (if t11 ≥ 0 then (some t11) else (if t10 ≥ 0 then (some t10) else (if t15 = 2 then (some 0) else ((age_Date.f l0_1 a1).bind fun t17 => ((policy_guessed.f a0_0 l0_1 l0_2 t2 t3 t4 t5 t6 t7 t8 t9 t10 t11 t12 t13 t14 t17).bind fun t18 => (some t18)))))) = some r := H
  have A3 := Aside0.mk A30
  clear A30
  by_cases c4 : t11 ≥ 0
  · rw [if_pos c4] at H
    have c4b0 : decide (0 ≤ t11) = true := decide_eq_true c4
    clear c4
    obtain rfl := Option.some.inj H
    go_enter Tryz.func11, Tryz.ntmps11
    go_wp2_with (first | ((with_reducible refine gate_dst (N := 2) rfl ?_); refine box_event ?hg (N := 2) ?hd (cs := #[.int .i64 a0_0, .slice A0_1 l0_1.length c0_1, .slice A0_2 l0_2.length c0_2]) (t := 27) ?hr ?_; (case hd => rfl); (case hg => rfl); (case hr => first | (go_simp; done) | (go_simp; rfl)); intro gb1 hg w5 hbox hb; have n0_ := Aside0.mk (below_step (by repeat (first | (with_reducible first | exact HB.out | apply below_alloc | apply pw_below_drewN | apply below_drew1) | exact HB.out)) hb); have n1_ := Aside0.mk (hbox); have n2_ := Aside0.mk ((by rw [hg]; exact (below_size (by repeat (first | (with_reducible first | exact HB.out | apply below_alloc | apply pw_below_drewN | apply below_drew1) | exact HB.out))) : w.heap.size ≤ gb1)); have n3_ := Aside0.mk ((by rw [hg]; exact (below_size (by repeat (first | (with_reducible first | exact HB.out | apply below_alloc | apply pw_below_drewN | apply below_drew1) | exact HB.out))) : w.heap.size ≤ gb1)); clear HB; have HB := n0_; have BK1 := n1_; have GW1 := n2_; have GE1 := n3_; clear n0_ n1_ n2_ n3_; clear hb hbox hg; have hcz6_0 : w5.cell? ⟨gb1, 0, none⟩ = some (.int .i64 a0_0) := (blk_cell BK1.out 0).trans rfl; have hcz6_1 : w5.cell? ⟨gb1, 1, none⟩ = some (.slice A0_1 l0_1.length c0_1) := (blk_cell BK1.out 1).trans rfl; have hcz6_2 : w5.cell? ⟨gb1, 2, none⟩ = some (.slice A0_2 l0_2.length c0_2) := (blk_cell BK1.out 2).trans rfl; have hfz6_0 := blk_frozen BK1.out 0; have hfz6_1 := blk_frozen BK1.out 1; have hfz6_2 := blk_frozen BK1.out 2) | ((with_reducible refine gate_callee (f := 21) rfl ?_); refine goesL_ (some 10) rfl rfl Tryz.func21 (by kernel_rfl) rfl #[.slice A0_1 l0_1.length c0_1] rfl (by (try simp only [List.map_toArray, List.map_cons, List.map_nil]); first | done | rfl | (simp only [List.length_drop, List.length_take]; rfl)) ?_; (with_reducible refine (modern_Choose.calls k _ _ l0_1 t2 t3 t4 t5 t6 t7 t8 t9 t10 t11 t12 t13 t14 t15 _ ?side1 ?side2 ?side3 A3.out).mono ?_); (case side1 => repeat (first | exact (Kd.C_below HR0_1.out HB.out) | (with_reducible refine Kd.C_alloc ?_ _) | (with_reducible refine Kd.C_drewN ?_ _) | (with_reducible refine Kd.C_drew ?_))); (case side2 => exact HC0_1.out); (case side3 => exact GL.below HG.out (by repeat (first | (with_reducible first | exact HB.out | apply below_alloc | apply pw_below_drewN | apply below_drew1 | refine below_set ?_ GE1.out) | exact HB.out))); rintro e w7 ⟨rfl, hb⟩; refine ⟨_, rfl, ?_⟩; have n0_ := Aside0.mk (blk_below (g := gb1) (o := .cells #[.int .i64 a0_0, .slice A0_1 l0_1.length c0_1, .slice A0_2 l0_2.length c0_2] 27 (0, 0)) (by (with_reducible repeat (first | refine blk_drewN ?_ _ | refine blk_drew ?_ | refine blk_alloc ?_ _)); exact BK1.out) hb); have n1_ := Aside0.mk (below_step (by repeat (first | (with_reducible first | exact HB.out | apply below_alloc | apply pw_below_drewN | apply below_drew1 | refine below_set ?_ GE1.out) | exact HB.out)) hb); clear BK1; clear HB; have BK1 := n0_; have HB := n1_; clear n0_ n1_; (try clear hb); (try clear hb2); (try clear hk); (try clear hi)) | ((with_reducible refine gate_dst (N := 5) rfl ?_); refine box_event ?hg (N := 5) ?hd (cs := #[.bool false, .bool false, .bool false, .bool false, .bool false, .bool false, .bool false, .bool false, .int .i64 0, .int .i64 0, .int .i64 0, .int .i64 0, .int .i64 0]) (t := 34) ?hr ?_; (case hd => rfl); (case hg => rfl); (case hr => first | (go_simp; done) | (go_simp; rfl)); intro gb16 hg w8 hbox hb; have n0_ := Aside0.mk (blk_below (g := gb1) (o := .cells #[.int .i64 a0_0, .slice A0_1 l0_1.length c0_1, .slice A0_2 l0_2.length c0_2] 27 (0, 0)) (by (with_reducible repeat (first | refine blk_drewN ?_ _ | refine blk_drew ?_ | refine blk_alloc ?_ _)); exact BK1.out) hb); have n1_ := Aside0.mk (below_step (by repeat (first | (with_reducible first | exact HB.out | apply below_alloc | apply pw_below_drewN | apply below_drew1 | refine below_set ?_ GE1.out) | exact HB.out)) hb); have n2_ := Aside0.mk (hbox); have n3_ := Aside0.mk ((by rw [hg]; exact (below_size (by repeat (first | (with_reducible first | exact HB.out | apply below_alloc | apply pw_below_drewN | apply below_drew1 | refine below_set ?_ GE1.out) | exact HB.out))) : w.heap.size ≤ gb16)); have n4_ := Aside0.mk ((by rw [hg]; exact (below_size (by repeat (first | (with_reducible first | exact HB.out | apply below_alloc | apply pw_below_drewN | apply below_drew1 | refine below_set ?_ GE1.out) | exact HB.out))) : w.heap.size ≤ gb16)); have n5_ := Aside0.mk ((by rw [hg]; exact Nat.ne_of_lt (blk_lt (g := gb1) (o := .cells #[.int .i64 a0_0, .slice A0_1 l0_1.length c0_1, .slice A0_2 l0_2.length c0_2] 27 (0, 0)) (by (with_reducible repeat (first | refine blk_drewN ?_ _ | refine blk_drew ?_ | refine blk_alloc ?_ _)); exact BK1.out)) : gb1 ≠ gb16)); have n6_ := Aside0.mk ((by rw [hg]; exact Nat.ne_of_gt (blk_lt (g := gb1) (o := .cells #[.int .i64 a0_0, .slice A0_1 l0_1.length c0_1, .slice A0_2 l0_2.length c0_2] 27 (0, 0)) (by (with_reducible repeat (first | refine blk_drewN ?_ _ | refine blk_drew ?_ | refine blk_alloc ?_ _)); exact BK1.out)) : gb16 ≠ gb1)); clear BK1; clear HB; have BK1 := n0_; have HB := n1_; have BK16 := n2_; have GW16 := n3_; have GE16 := n4_; have NB1_16 := n5_; have NB16_1 := n6_; clear n0_ n1_ n2_ n3_ n4_ n5_ n6_; clear hb hbox hg; have hnb9 := NB16_1.out; have hnc9 := NB1_16.out; have hcz10_0 : w8.cell? ⟨gb16, 0, none⟩ = some (.bool false) := (blk_cell BK16.out 0).trans rfl; have hcz10_1 : w8.cell? ⟨gb16, 1, none⟩ = some (.bool false) := (blk_cell BK16.out 1).trans rfl; have hcz10_2 : w8.cell? ⟨gb16, 2, none⟩ = some (.bool false) := (blk_cell BK16.out 2).trans rfl; have hcz10_3 : w8.cell? ⟨gb16, 3, none⟩ = some (.bool false) := (blk_cell BK16.out 3).trans rfl; have hcz10_4 : w8.cell? ⟨gb16, 4, none⟩ = some (.bool false) := (blk_cell BK16.out 4).trans rfl; have hcz10_5 : w8.cell? ⟨gb16, 5, none⟩ = some (.bool false) := (blk_cell BK16.out 5).trans rfl; have hcz10_6 : w8.cell? ⟨gb16, 6, none⟩ = some (.bool false) := (blk_cell BK16.out 6).trans rfl; have hcz10_7 : w8.cell? ⟨gb16, 7, none⟩ = some (.bool false) := (blk_cell BK16.out 7).trans rfl; have hcz10_8 : w8.cell? ⟨gb16, 8, none⟩ = some (.int .i64 0) := (blk_cell BK16.out 8).trans rfl; have hcz10_9 : w8.cell? ⟨gb16, 9, none⟩ = some (.int .i64 0) := (blk_cell BK16.out 9).trans rfl; have hcz10_10 : w8.cell? ⟨gb16, 10, none⟩ = some (.int .i64 0) := (blk_cell BK16.out 10).trans rfl; have hcz10_11 : w8.cell? ⟨gb16, 11, none⟩ = some (.int .i64 0) := (blk_cell BK16.out 11).trans rfl; have hcz10_12 : w8.cell? ⟨gb16, 12, none⟩ = some (.int .i64 0) := (blk_cell BK16.out 12).trans rfl; have hfz10_0 := blk_frozen BK16.out 0; have hfz10_1 := blk_frozen BK16.out 1; have hfz10_2 := blk_frozen BK16.out 2; have hfz10_3 := blk_frozen BK16.out 3; have hfz10_4 := blk_frozen BK16.out 4; have hfz10_5 := blk_frozen BK16.out 5; have hfz10_6 := blk_frozen BK16.out 6; have hfz10_7 := blk_frozen BK16.out 7; have hfz10_8 := blk_frozen BK16.out 8; have hfz10_9 := blk_frozen BK16.out 9; have hfz10_10 := blk_frozen BK16.out 10; have hfz10_11 := blk_frozen BK16.out 11; have hfz10_12 := blk_frozen BK16.out 12))
    go_ret
    exact ⟨by first | rfl | (simp [errW_none, errW_some] <;> rfl) | (simp [*, errW_none, errW_some] <;> rfl), by repeat (first | (with_reducible first | exact HB.out | apply below_alloc | apply pw_below_drewN | apply below_drew1 | refine below_set ?_ GE1.out | refine below_set ?_ GE16.out) | exact HB.out)⟩
  · rw [if_neg c4] at H
    have c4b0 : decide (0 ≤ t11) = false := decide_eq_false c4
    clear c4
    by_cases c11 : t10 ≥ 0
    · rw [if_pos c11] at H
      have c11b0 : decide (0 ≤ t10) = true := decide_eq_true c11
      clear c11
      obtain rfl := Option.some.inj H
      go_enter Tryz.func11, Tryz.ntmps11
      go_wp2_with (first | ((with_reducible refine gate_dst (N := 2) rfl ?_); refine box_event ?hg (N := 2) ?hd (cs := #[.int .i64 a0_0, .slice A0_1 l0_1.length c0_1, .slice A0_2 l0_2.length c0_2]) (t := 27) ?hr ?_; (case hd => rfl); (case hg => rfl); (case hr => first | (go_simp; done) | (go_simp; rfl)); intro gb1 hg w12 hbox hb; have n0_ := Aside0.mk (below_step (by repeat (first | (with_reducible first | exact HB.out | apply below_alloc | apply pw_below_drewN | apply below_drew1) | exact HB.out)) hb); have n1_ := Aside0.mk (hbox); have n2_ := Aside0.mk ((by rw [hg]; exact (below_size (by repeat (first | (with_reducible first | exact HB.out | apply below_alloc | apply pw_below_drewN | apply below_drew1) | exact HB.out))) : w.heap.size ≤ gb1)); have n3_ := Aside0.mk ((by rw [hg]; exact (below_size (by repeat (first | (with_reducible first | exact HB.out | apply below_alloc | apply pw_below_drewN | apply below_drew1) | exact HB.out))) : w.heap.size ≤ gb1)); clear HB; have HB := n0_; have BK1 := n1_; have GW1 := n2_; have GE1 := n3_; clear n0_ n1_ n2_ n3_; clear hb hbox hg; have hcz13_0 : w12.cell? ⟨gb1, 0, none⟩ = some (.int .i64 a0_0) := (blk_cell BK1.out 0).trans rfl; have hcz13_1 : w12.cell? ⟨gb1, 1, none⟩ = some (.slice A0_1 l0_1.length c0_1) := (blk_cell BK1.out 1).trans rfl; have hcz13_2 : w12.cell? ⟨gb1, 2, none⟩ = some (.slice A0_2 l0_2.length c0_2) := (blk_cell BK1.out 2).trans rfl; have hfz13_0 := blk_frozen BK1.out 0; have hfz13_1 := blk_frozen BK1.out 1; have hfz13_2 := blk_frozen BK1.out 2) | ((with_reducible refine gate_callee (f := 21) rfl ?_); refine goesL_ (some 10) rfl rfl Tryz.func21 (by kernel_rfl) rfl #[.slice A0_1 l0_1.length c0_1] rfl (by (try simp only [List.map_toArray, List.map_cons, List.map_nil]); first | done | rfl | (simp only [List.length_drop, List.length_take]; rfl)) ?_; (with_reducible refine (modern_Choose.calls k _ _ l0_1 t2 t3 t4 t5 t6 t7 t8 t9 t10 t11 t12 t13 t14 t15 _ ?side1 ?side2 ?side3 A3.out).mono ?_); (case side1 => repeat (first | exact (Kd.C_below HR0_1.out HB.out) | (with_reducible refine Kd.C_alloc ?_ _) | (with_reducible refine Kd.C_drewN ?_ _) | (with_reducible refine Kd.C_drew ?_))); (case side2 => exact HC0_1.out); (case side3 => exact GL.below HG.out (by repeat (first | (with_reducible first | exact HB.out | apply below_alloc | apply pw_below_drewN | apply below_drew1 | refine below_set ?_ GE1.out) | exact HB.out))); rintro e w14 ⟨rfl, hb⟩; refine ⟨_, rfl, ?_⟩; have n0_ := Aside0.mk (blk_below (g := gb1) (o := .cells #[.int .i64 a0_0, .slice A0_1 l0_1.length c0_1, .slice A0_2 l0_2.length c0_2] 27 (0, 0)) (by (with_reducible repeat (first | refine blk_drewN ?_ _ | refine blk_drew ?_ | refine blk_alloc ?_ _)); exact BK1.out) hb); have n1_ := Aside0.mk (below_step (by repeat (first | (with_reducible first | exact HB.out | apply below_alloc | apply pw_below_drewN | apply below_drew1 | refine below_set ?_ GE1.out) | exact HB.out)) hb); clear BK1; clear HB; have BK1 := n0_; have HB := n1_; clear n0_ n1_; (try clear hb); (try clear hb2); (try clear hk); (try clear hi)) | ((with_reducible refine gate_dst (N := 5) rfl ?_); refine box_event ?hg (N := 5) ?hd (cs := #[.bool false, .bool false, .bool false, .bool false, .bool false, .bool false, .bool false, .bool false, .int .i64 0, .int .i64 0, .int .i64 0, .int .i64 0, .int .i64 0]) (t := 34) ?hr ?_; (case hd => rfl); (case hg => rfl); (case hr => first | (go_simp; done) | (go_simp; rfl)); intro gb16 hg w15 hbox hb; have n0_ := Aside0.mk (blk_below (g := gb1) (o := .cells #[.int .i64 a0_0, .slice A0_1 l0_1.length c0_1, .slice A0_2 l0_2.length c0_2] 27 (0, 0)) (by (with_reducible repeat (first | refine blk_drewN ?_ _ | refine blk_drew ?_ | refine blk_alloc ?_ _)); exact BK1.out) hb); have n1_ := Aside0.mk (below_step (by repeat (first | (with_reducible first | exact HB.out | apply below_alloc | apply pw_below_drewN | apply below_drew1 | refine below_set ?_ GE1.out) | exact HB.out)) hb); have n2_ := Aside0.mk (hbox); have n3_ := Aside0.mk ((by rw [hg]; exact (below_size (by repeat (first | (with_reducible first | exact HB.out | apply below_alloc | apply pw_below_drewN | apply below_drew1 | refine below_set ?_ GE1.out) | exact HB.out))) : w.heap.size ≤ gb16)); have n4_ := Aside0.mk ((by rw [hg]; exact (below_size (by repeat (first | (with_reducible first | exact HB.out | apply below_alloc | apply pw_below_drewN | apply below_drew1 | refine below_set ?_ GE1.out) | exact HB.out))) : w.heap.size ≤ gb16)); have n5_ := Aside0.mk ((by rw [hg]; exact Nat.ne_of_lt (blk_lt (g := gb1) (o := .cells #[.int .i64 a0_0, .slice A0_1 l0_1.length c0_1, .slice A0_2 l0_2.length c0_2] 27 (0, 0)) (by (with_reducible repeat (first | refine blk_drewN ?_ _ | refine blk_drew ?_ | refine blk_alloc ?_ _)); exact BK1.out)) : gb1 ≠ gb16)); have n6_ := Aside0.mk ((by rw [hg]; exact Nat.ne_of_gt (blk_lt (g := gb1) (o := .cells #[.int .i64 a0_0, .slice A0_1 l0_1.length c0_1, .slice A0_2 l0_2.length c0_2] 27 (0, 0)) (by (with_reducible repeat (first | refine blk_drewN ?_ _ | refine blk_drew ?_ | refine blk_alloc ?_ _)); exact BK1.out)) : gb16 ≠ gb1)); clear BK1; clear HB; have BK1 := n0_; have HB := n1_; have BK16 := n2_; have GW16 := n3_; have GE16 := n4_; have NB1_16 := n5_; have NB16_1 := n6_; clear n0_ n1_ n2_ n3_ n4_ n5_ n6_; clear hb hbox hg; have hnb16 := NB16_1.out; have hnc16 := NB1_16.out; have hcz17_0 : w15.cell? ⟨gb16, 0, none⟩ = some (.bool false) := (blk_cell BK16.out 0).trans rfl; have hcz17_1 : w15.cell? ⟨gb16, 1, none⟩ = some (.bool false) := (blk_cell BK16.out 1).trans rfl; have hcz17_2 : w15.cell? ⟨gb16, 2, none⟩ = some (.bool false) := (blk_cell BK16.out 2).trans rfl; have hcz17_3 : w15.cell? ⟨gb16, 3, none⟩ = some (.bool false) := (blk_cell BK16.out 3).trans rfl; have hcz17_4 : w15.cell? ⟨gb16, 4, none⟩ = some (.bool false) := (blk_cell BK16.out 4).trans rfl; have hcz17_5 : w15.cell? ⟨gb16, 5, none⟩ = some (.bool false) := (blk_cell BK16.out 5).trans rfl; have hcz17_6 : w15.cell? ⟨gb16, 6, none⟩ = some (.bool false) := (blk_cell BK16.out 6).trans rfl; have hcz17_7 : w15.cell? ⟨gb16, 7, none⟩ = some (.bool false) := (blk_cell BK16.out 7).trans rfl; have hcz17_8 : w15.cell? ⟨gb16, 8, none⟩ = some (.int .i64 0) := (blk_cell BK16.out 8).trans rfl; have hcz17_9 : w15.cell? ⟨gb16, 9, none⟩ = some (.int .i64 0) := (blk_cell BK16.out 9).trans rfl; have hcz17_10 : w15.cell? ⟨gb16, 10, none⟩ = some (.int .i64 0) := (blk_cell BK16.out 10).trans rfl; have hcz17_11 : w15.cell? ⟨gb16, 11, none⟩ = some (.int .i64 0) := (blk_cell BK16.out 11).trans rfl; have hcz17_12 : w15.cell? ⟨gb16, 12, none⟩ = some (.int .i64 0) := (blk_cell BK16.out 12).trans rfl; have hfz17_0 := blk_frozen BK16.out 0; have hfz17_1 := blk_frozen BK16.out 1; have hfz17_2 := blk_frozen BK16.out 2; have hfz17_3 := blk_frozen BK16.out 3; have hfz17_4 := blk_frozen BK16.out 4; have hfz17_5 := blk_frozen BK16.out 5; have hfz17_6 := blk_frozen BK16.out 6; have hfz17_7 := blk_frozen BK16.out 7; have hfz17_8 := blk_frozen BK16.out 8; have hfz17_9 := blk_frozen BK16.out 9; have hfz17_10 := blk_frozen BK16.out 10; have hfz17_11 := blk_frozen BK16.out 11; have hfz17_12 := blk_frozen BK16.out 12))
      go_ret
      exact ⟨by first | rfl | (simp [errW_none, errW_some] <;> rfl) | (simp [*, errW_none, errW_some] <;> rfl), by repeat (first | (with_reducible first | exact HB.out | apply below_alloc | apply pw_below_drewN | apply below_drew1 | refine below_set ?_ GE1.out | refine below_set ?_ GE16.out) | exact HB.out)⟩
    · rw [if_neg c11] at H
      have c11b0 : decide (0 ≤ t10) = false := decide_eq_false c11
      clear c11
      by_cases c18 : t15 = 2
      · rw [if_pos c18] at H
        have c18b0 : (t15 == 2) = true := beq_iff_eq.mpr c18
        have c18b1 : (t15 != 2) = false := bne_eq_false_iff_eq.mpr c18
        clear c18
        obtain rfl := Option.some.inj H
        go_enter Tryz.func11, Tryz.ntmps11
        go_wp2_with (first | ((with_reducible refine gate_dst (N := 2) rfl ?_); refine box_event ?hg (N := 2) ?hd (cs := #[.int .i64 a0_0, .slice A0_1 l0_1.length c0_1, .slice A0_2 l0_2.length c0_2]) (t := 27) ?hr ?_; (case hd => rfl); (case hg => rfl); (case hr => first | (go_simp; done) | (go_simp; rfl)); intro gb1 hg w19 hbox hb; have n0_ := Aside0.mk (below_step (by repeat (first | (with_reducible first | exact HB.out | apply below_alloc | apply pw_below_drewN | apply below_drew1) | exact HB.out)) hb); have n1_ := Aside0.mk (hbox); have n2_ := Aside0.mk ((by rw [hg]; exact (below_size (by repeat (first | (with_reducible first | exact HB.out | apply below_alloc | apply pw_below_drewN | apply below_drew1) | exact HB.out))) : w.heap.size ≤ gb1)); have n3_ := Aside0.mk ((by rw [hg]; exact (below_size (by repeat (first | (with_reducible first | exact HB.out | apply below_alloc | apply pw_below_drewN | apply below_drew1) | exact HB.out))) : w.heap.size ≤ gb1)); clear HB; have HB := n0_; have BK1 := n1_; have GW1 := n2_; have GE1 := n3_; clear n0_ n1_ n2_ n3_; clear hb hbox hg; have hcz20_0 : w19.cell? ⟨gb1, 0, none⟩ = some (.int .i64 a0_0) := (blk_cell BK1.out 0).trans rfl; have hcz20_1 : w19.cell? ⟨gb1, 1, none⟩ = some (.slice A0_1 l0_1.length c0_1) := (blk_cell BK1.out 1).trans rfl; have hcz20_2 : w19.cell? ⟨gb1, 2, none⟩ = some (.slice A0_2 l0_2.length c0_2) := (blk_cell BK1.out 2).trans rfl; have hfz20_0 := blk_frozen BK1.out 0; have hfz20_1 := blk_frozen BK1.out 1; have hfz20_2 := blk_frozen BK1.out 2) | ((with_reducible refine gate_callee (f := 21) rfl ?_); refine goesL_ (some 10) rfl rfl Tryz.func21 (by kernel_rfl) rfl #[.slice A0_1 l0_1.length c0_1] rfl (by (try simp only [List.map_toArray, List.map_cons, List.map_nil]); first | done | rfl | (simp only [List.length_drop, List.length_take]; rfl)) ?_; (with_reducible refine (modern_Choose.calls k _ _ l0_1 t2 t3 t4 t5 t6 t7 t8 t9 t10 t11 t12 t13 t14 t15 _ ?side1 ?side2 ?side3 A3.out).mono ?_); (case side1 => repeat (first | exact (Kd.C_below HR0_1.out HB.out) | (with_reducible refine Kd.C_alloc ?_ _) | (with_reducible refine Kd.C_drewN ?_ _) | (with_reducible refine Kd.C_drew ?_))); (case side2 => exact HC0_1.out); (case side3 => exact GL.below HG.out (by repeat (first | (with_reducible first | exact HB.out | apply below_alloc | apply pw_below_drewN | apply below_drew1 | refine below_set ?_ GE1.out) | exact HB.out))); rintro e w21 ⟨rfl, hb⟩; refine ⟨_, rfl, ?_⟩; have n0_ := Aside0.mk (blk_below (g := gb1) (o := .cells #[.int .i64 a0_0, .slice A0_1 l0_1.length c0_1, .slice A0_2 l0_2.length c0_2] 27 (0, 0)) (by (with_reducible repeat (first | refine blk_drewN ?_ _ | refine blk_drew ?_ | refine blk_alloc ?_ _)); exact BK1.out) hb); have n1_ := Aside0.mk (below_step (by repeat (first | (with_reducible first | exact HB.out | apply below_alloc | apply pw_below_drewN | apply below_drew1 | refine below_set ?_ GE1.out) | exact HB.out)) hb); clear BK1; clear HB; have BK1 := n0_; have HB := n1_; clear n0_ n1_; (try clear hb); (try clear hb2); (try clear hk); (try clear hi)) | ((with_reducible refine gate_dst (N := 5) rfl ?_); refine box_event ?hg (N := 5) ?hd (cs := #[.bool false, .bool false, .bool false, .bool false, .bool false, .bool false, .bool false, .bool false, .int .i64 0, .int .i64 0, .int .i64 0, .int .i64 0, .int .i64 0]) (t := 34) ?hr ?_; (case hd => rfl); (case hg => rfl); (case hr => first | (go_simp; done) | (go_simp; rfl)); intro gb16 hg w22 hbox hb; have n0_ := Aside0.mk (blk_below (g := gb1) (o := .cells #[.int .i64 a0_0, .slice A0_1 l0_1.length c0_1, .slice A0_2 l0_2.length c0_2] 27 (0, 0)) (by (with_reducible repeat (first | refine blk_drewN ?_ _ | refine blk_drew ?_ | refine blk_alloc ?_ _)); exact BK1.out) hb); have n1_ := Aside0.mk (below_step (by repeat (first | (with_reducible first | exact HB.out | apply below_alloc | apply pw_below_drewN | apply below_drew1 | refine below_set ?_ GE1.out) | exact HB.out)) hb); have n2_ := Aside0.mk (hbox); have n3_ := Aside0.mk ((by rw [hg]; exact (below_size (by repeat (first | (with_reducible first | exact HB.out | apply below_alloc | apply pw_below_drewN | apply below_drew1 | refine below_set ?_ GE1.out) | exact HB.out))) : w.heap.size ≤ gb16)); have n4_ := Aside0.mk ((by rw [hg]; exact (below_size (by repeat (first | (with_reducible first | exact HB.out | apply below_alloc | apply pw_below_drewN | apply below_drew1 | refine below_set ?_ GE1.out) | exact HB.out))) : w.heap.size ≤ gb16)); have n5_ := Aside0.mk ((by rw [hg]; exact Nat.ne_of_lt (blk_lt (g := gb1) (o := .cells #[.int .i64 a0_0, .slice A0_1 l0_1.length c0_1, .slice A0_2 l0_2.length c0_2] 27 (0, 0)) (by (with_reducible repeat (first | refine blk_drewN ?_ _ | refine blk_drew ?_ | refine blk_alloc ?_ _)); exact BK1.out)) : gb1 ≠ gb16)); have n6_ := Aside0.mk ((by rw [hg]; exact Nat.ne_of_gt (blk_lt (g := gb1) (o := .cells #[.int .i64 a0_0, .slice A0_1 l0_1.length c0_1, .slice A0_2 l0_2.length c0_2] 27 (0, 0)) (by (with_reducible repeat (first | refine blk_drewN ?_ _ | refine blk_drew ?_ | refine blk_alloc ?_ _)); exact BK1.out)) : gb16 ≠ gb1)); clear BK1; clear HB; have BK1 := n0_; have HB := n1_; have BK16 := n2_; have GW16 := n3_; have GE16 := n4_; have NB1_16 := n5_; have NB16_1 := n6_; clear n0_ n1_ n2_ n3_ n4_ n5_ n6_; clear hb hbox hg; have hnb23 := NB16_1.out; have hnc23 := NB1_16.out; have hcz24_0 : w22.cell? ⟨gb16, 0, none⟩ = some (.bool false) := (blk_cell BK16.out 0).trans rfl; have hcz24_1 : w22.cell? ⟨gb16, 1, none⟩ = some (.bool false) := (blk_cell BK16.out 1).trans rfl; have hcz24_2 : w22.cell? ⟨gb16, 2, none⟩ = some (.bool false) := (blk_cell BK16.out 2).trans rfl; have hcz24_3 : w22.cell? ⟨gb16, 3, none⟩ = some (.bool false) := (blk_cell BK16.out 3).trans rfl; have hcz24_4 : w22.cell? ⟨gb16, 4, none⟩ = some (.bool false) := (blk_cell BK16.out 4).trans rfl; have hcz24_5 : w22.cell? ⟨gb16, 5, none⟩ = some (.bool false) := (blk_cell BK16.out 5).trans rfl; have hcz24_6 : w22.cell? ⟨gb16, 6, none⟩ = some (.bool false) := (blk_cell BK16.out 6).trans rfl; have hcz24_7 : w22.cell? ⟨gb16, 7, none⟩ = some (.bool false) := (blk_cell BK16.out 7).trans rfl; have hcz24_8 : w22.cell? ⟨gb16, 8, none⟩ = some (.int .i64 0) := (blk_cell BK16.out 8).trans rfl; have hcz24_9 : w22.cell? ⟨gb16, 9, none⟩ = some (.int .i64 0) := (blk_cell BK16.out 9).trans rfl; have hcz24_10 : w22.cell? ⟨gb16, 10, none⟩ = some (.int .i64 0) := (blk_cell BK16.out 10).trans rfl; have hcz24_11 : w22.cell? ⟨gb16, 11, none⟩ = some (.int .i64 0) := (blk_cell BK16.out 11).trans rfl; have hcz24_12 : w22.cell? ⟨gb16, 12, none⟩ = some (.int .i64 0) := (blk_cell BK16.out 12).trans rfl; have hfz24_0 := blk_frozen BK16.out 0; have hfz24_1 := blk_frozen BK16.out 1; have hfz24_2 := blk_frozen BK16.out 2; have hfz24_3 := blk_frozen BK16.out 3; have hfz24_4 := blk_frozen BK16.out 4; have hfz24_5 := blk_frozen BK16.out 5; have hfz24_6 := blk_frozen BK16.out 6; have hfz24_7 := blk_frozen BK16.out 7; have hfz24_8 := blk_frozen BK16.out 8; have hfz24_9 := blk_frozen BK16.out 9; have hfz24_10 := blk_frozen BK16.out 10; have hfz24_11 := blk_frozen BK16.out 11; have hfz24_12 := blk_frozen BK16.out 12))
        go_ret
        exact ⟨by first | rfl | (simp [errW_none, errW_some] <;> rfl) | (simp [*, errW_none, errW_some] <;> rfl), by repeat (first | (with_reducible first | exact HB.out | apply below_alloc | apply pw_below_drewN | apply below_drew1 | refine below_set ?_ GE1.out | refine below_set ?_ GE16.out) | exact HB.out)⟩
      · rw [if_neg c18] at H
        have c18b0 : (t15 == 2) = false := beq_eq_false_iff_ne.mpr c18
        have c18b1 : (t15 != 2) = true := bne_iff_ne.mpr c18
        replace H := Option.bind_eq_some_iff.mp H
        obtain ⟨t17, A250, H⟩ := H
        replace H : ((policy_guessed.f a0_0 l0_1 l0_2 t2 t3 t4 t5 t6 t7 t8 t9 t10 t11 t12 t13 t14 t17).bind fun t18 => (some t18)) = some r := H
        have A25 := Aside0.mk A250
        clear A250
        replace H := Option.bind_eq_some_iff.mp H
        obtain ⟨t18, A260, H⟩ := H
        replace H : (some t18) = some r := H
        have A26 := Aside0.mk A260
        clear A260
        obtain rfl := Option.some.inj H
        go_enter Tryz.func11, Tryz.ntmps11
        try go_wp2_with (first | ((with_reducible refine gate_dst (N := 2) rfl ?_); refine box_event ?hg (N := 2) ?hd (cs := #[.int .i64 a0_0, .slice A0_1 l0_1.length c0_1, .slice A0_2 l0_2.length c0_2]) (t := 27) ?hr ?_; (case hd => rfl); (case hg => rfl); (case hr => first | (go_simp; done) | (go_simp; rfl)); intro gb1 hg w27 hbox hb; have n0_ := Aside0.mk (below_step (by repeat (first | (with_reducible first | exact HB.out | apply below_alloc | apply pw_below_drewN | apply below_drew1) | exact HB.out)) hb); have n1_ := Aside0.mk (hbox); have n2_ := Aside0.mk ((by rw [hg]; exact (below_size (by repeat (first | (with_reducible first | exact HB.out | apply below_alloc | apply pw_below_drewN | apply below_drew1) | exact HB.out))) : w.heap.size ≤ gb1)); have n3_ := Aside0.mk ((by rw [hg]; exact (below_size (by repeat (first | (with_reducible first | exact HB.out | apply below_alloc | apply pw_below_drewN | apply below_drew1) | exact HB.out))) : w.heap.size ≤ gb1)); clear HB; have HB := n0_; have BK1 := n1_; have GW1 := n2_; have GE1 := n3_; clear n0_ n1_ n2_ n3_; clear hb hbox hg; have hcz28_0 : w27.cell? ⟨gb1, 0, none⟩ = some (.int .i64 a0_0) := (blk_cell BK1.out 0).trans rfl; have hcz28_1 : w27.cell? ⟨gb1, 1, none⟩ = some (.slice A0_1 l0_1.length c0_1) := (blk_cell BK1.out 1).trans rfl; have hcz28_2 : w27.cell? ⟨gb1, 2, none⟩ = some (.slice A0_2 l0_2.length c0_2) := (blk_cell BK1.out 2).trans rfl; have hfz28_0 := blk_frozen BK1.out 0; have hfz28_1 := blk_frozen BK1.out 1; have hfz28_2 := blk_frozen BK1.out 2) | ((with_reducible refine gate_callee (f := 21) rfl ?_); refine goesL_ (some 10) rfl rfl Tryz.func21 (by kernel_rfl) rfl #[.slice A0_1 l0_1.length c0_1] rfl (by (try simp only [List.map_toArray, List.map_cons, List.map_nil]); first | done | rfl | (simp only [List.length_drop, List.length_take]; rfl)) ?_; (with_reducible refine (modern_Choose.calls k _ _ l0_1 t2 t3 t4 t5 t6 t7 t8 t9 t10 t11 t12 t13 t14 t15 _ ?side1 ?side2 ?side3 A3.out).mono ?_); (case side1 => repeat (first | exact (Kd.C_below HR0_1.out HB.out) | (with_reducible refine Kd.C_alloc ?_ _) | (with_reducible refine Kd.C_drewN ?_ _) | (with_reducible refine Kd.C_drew ?_))); (case side2 => exact HC0_1.out); (case side3 => exact GL.below HG.out (by repeat (first | (with_reducible first | exact HB.out | apply below_alloc | apply pw_below_drewN | apply below_drew1 | refine below_set ?_ GE1.out) | exact HB.out))); rintro e w29 ⟨rfl, hb⟩; refine ⟨_, rfl, ?_⟩; have n0_ := Aside0.mk (blk_below (g := gb1) (o := .cells #[.int .i64 a0_0, .slice A0_1 l0_1.length c0_1, .slice A0_2 l0_2.length c0_2] 27 (0, 0)) (by (with_reducible repeat (first | refine blk_drewN ?_ _ | refine blk_drew ?_ | refine blk_alloc ?_ _)); exact BK1.out) hb); have n1_ := Aside0.mk (below_step (by repeat (first | (with_reducible first | exact HB.out | apply below_alloc | apply pw_below_drewN | apply below_drew1 | refine below_set ?_ GE1.out) | exact HB.out)) hb); clear BK1; clear HB; have BK1 := n0_; have HB := n1_; clear n0_ n1_; (try clear hb); (try clear hb2); (try clear hk); (try clear hi)) | ((with_reducible refine gate_dst (N := 5) rfl ?_); refine box_event ?hg (N := 5) ?hd (cs := #[.bool false, .bool false, .bool false, .bool false, .bool false, .bool false, .bool false, .bool false, .int .i64 0, .int .i64 0, .int .i64 0, .int .i64 0, .int .i64 0]) (t := 34) ?hr ?_; (case hd => rfl); (case hg => rfl); (case hr => first | (go_simp; done) | (go_simp; rfl)); intro gb16 hg w30 hbox hb; have n0_ := Aside0.mk (blk_below (g := gb1) (o := .cells #[.int .i64 a0_0, .slice A0_1 l0_1.length c0_1, .slice A0_2 l0_2.length c0_2] 27 (0, 0)) (by (with_reducible repeat (first | refine blk_drewN ?_ _ | refine blk_drew ?_ | refine blk_alloc ?_ _)); exact BK1.out) hb); have n1_ := Aside0.mk (below_step (by repeat (first | (with_reducible first | exact HB.out | apply below_alloc | apply pw_below_drewN | apply below_drew1 | refine below_set ?_ GE1.out) | exact HB.out)) hb); have n2_ := Aside0.mk (hbox); have n3_ := Aside0.mk ((by rw [hg]; exact (below_size (by repeat (first | (with_reducible first | exact HB.out | apply below_alloc | apply pw_below_drewN | apply below_drew1 | refine below_set ?_ GE1.out) | exact HB.out))) : w.heap.size ≤ gb16)); have n4_ := Aside0.mk ((by rw [hg]; exact (below_size (by repeat (first | (with_reducible first | exact HB.out | apply below_alloc | apply pw_below_drewN | apply below_drew1 | refine below_set ?_ GE1.out) | exact HB.out))) : w.heap.size ≤ gb16)); have n5_ := Aside0.mk ((by rw [hg]; exact Nat.ne_of_lt (blk_lt (g := gb1) (o := .cells #[.int .i64 a0_0, .slice A0_1 l0_1.length c0_1, .slice A0_2 l0_2.length c0_2] 27 (0, 0)) (by (with_reducible repeat (first | refine blk_drewN ?_ _ | refine blk_drew ?_ | refine blk_alloc ?_ _)); exact BK1.out)) : gb1 ≠ gb16)); have n6_ := Aside0.mk ((by rw [hg]; exact Nat.ne_of_gt (blk_lt (g := gb1) (o := .cells #[.int .i64 a0_0, .slice A0_1 l0_1.length c0_1, .slice A0_2 l0_2.length c0_2] 27 (0, 0)) (by (with_reducible repeat (first | refine blk_drewN ?_ _ | refine blk_drew ?_ | refine blk_alloc ?_ _)); exact BK1.out)) : gb16 ≠ gb1)); clear BK1; clear HB; have BK1 := n0_; have HB := n1_; have BK16 := n2_; have GW16 := n3_; have GE16 := n4_; have NB1_16 := n5_; have NB16_1 := n6_; clear n0_ n1_ n2_ n3_ n4_ n5_ n6_; clear hb hbox hg; have hnb31 := NB16_1.out; have hnc31 := NB1_16.out; have hcz32_0 : w30.cell? ⟨gb16, 0, none⟩ = some (.bool false) := (blk_cell BK16.out 0).trans rfl; have hcz32_1 : w30.cell? ⟨gb16, 1, none⟩ = some (.bool false) := (blk_cell BK16.out 1).trans rfl; have hcz32_2 : w30.cell? ⟨gb16, 2, none⟩ = some (.bool false) := (blk_cell BK16.out 2).trans rfl; have hcz32_3 : w30.cell? ⟨gb16, 3, none⟩ = some (.bool false) := (blk_cell BK16.out 3).trans rfl; have hcz32_4 : w30.cell? ⟨gb16, 4, none⟩ = some (.bool false) := (blk_cell BK16.out 4).trans rfl; have hcz32_5 : w30.cell? ⟨gb16, 5, none⟩ = some (.bool false) := (blk_cell BK16.out 5).trans rfl; have hcz32_6 : w30.cell? ⟨gb16, 6, none⟩ = some (.bool false) := (blk_cell BK16.out 6).trans rfl; have hcz32_7 : w30.cell? ⟨gb16, 7, none⟩ = some (.bool false) := (blk_cell BK16.out 7).trans rfl; have hcz32_8 : w30.cell? ⟨gb16, 8, none⟩ = some (.int .i64 0) := (blk_cell BK16.out 8).trans rfl; have hcz32_9 : w30.cell? ⟨gb16, 9, none⟩ = some (.int .i64 0) := (blk_cell BK16.out 9).trans rfl; have hcz32_10 : w30.cell? ⟨gb16, 10, none⟩ = some (.int .i64 0) := (blk_cell BK16.out 10).trans rfl; have hcz32_11 : w30.cell? ⟨gb16, 11, none⟩ = some (.int .i64 0) := (blk_cell BK16.out 11).trans rfl; have hcz32_12 : w30.cell? ⟨gb16, 12, none⟩ = some (.int .i64 0) := (blk_cell BK16.out 12).trans rfl; have hfz32_0 := blk_frozen BK16.out 0; have hfz32_1 := blk_frozen BK16.out 1; have hfz32_2 := blk_frozen BK16.out 2; have hfz32_3 := blk_frozen BK16.out 3; have hfz32_4 := blk_frozen BK16.out 4; have hfz32_5 := blk_frozen BK16.out 5; have hfz32_6 := blk_frozen BK16.out 6; have hfz32_7 := blk_frozen BK16.out 7; have hfz32_8 := blk_frozen BK16.out 8; have hfz32_9 := blk_frozen BK16.out 9; have hfz32_10 := blk_frozen BK16.out 10; have hfz32_11 := blk_frozen BK16.out 11; have hfz32_12 := blk_frozen BK16.out 12))
        have n0_ : Aside0 ((((((((((((((w30.setCell ⟨gb16, 0, none⟩ (.bool t2)).setCell ⟨gb16, 1, none⟩ (.bool t3)).setCell ⟨gb16, 2, none⟩ (.bool t4)).setCell ⟨gb16, 3, none⟩ (.bool t5)).setCell ⟨gb16, 4, none⟩ (.bool t6)).setCell ⟨gb16, 5, none⟩ (.bool t7)).setCell ⟨gb16, 6, none⟩ (.bool t8)).setCell ⟨gb16, 7, none⟩ (.bool t9)).setCell ⟨gb16, 8, none⟩ (.int .i64 t10)).setCell ⟨gb16, 9, none⟩ (.int .i64 t11)).setCell ⟨gb16, 10, none⟩ (.int .i64 t12)).setCell ⟨gb16, 11, none⟩ (.int .i64 t13)).setCell ⟨gb16, 12, none⟩ (.int .i64 t14)).heap[gb1]? = some (.cells #[.int .i64 a0_0, .slice A0_1 l0_1.length c0_1, .slice A0_2 l0_2.length c0_2] 27 (0, 0))) := ⟨by (with_reducible repeat (first | refine blk_drewN ?_ _ | refine blk_drew ?_ | refine blk_alloc ?_ _)); refine blk_far ?_ NB1_16.out _; (with_reducible repeat (first | refine blk_drewN ?_ _ | refine blk_drew ?_ | refine blk_alloc ?_ _)); refine blk_far ?_ NB1_16.out _; (with_reducible repeat (first | refine blk_drewN ?_ _ | refine blk_drew ?_ | refine blk_alloc ?_ _)); refine blk_far ?_ NB1_16.out _; (with_reducible repeat (first | refine blk_drewN ?_ _ | refine blk_drew ?_ | refine blk_alloc ?_ _)); refine blk_far ?_ NB1_16.out _; (with_reducible repeat (first | refine blk_drewN ?_ _ | refine blk_drew ?_ | refine blk_alloc ?_ _)); refine blk_far ?_ NB1_16.out _; (with_reducible repeat (first | refine blk_drewN ?_ _ | refine blk_drew ?_ | refine blk_alloc ?_ _)); refine blk_far ?_ NB1_16.out _; (with_reducible repeat (first | refine blk_drewN ?_ _ | refine blk_drew ?_ | refine blk_alloc ?_ _)); refine blk_far ?_ NB1_16.out _; (with_reducible repeat (first | refine blk_drewN ?_ _ | refine blk_drew ?_ | refine blk_alloc ?_ _)); refine blk_far ?_ NB1_16.out _; (with_reducible repeat (first | refine blk_drewN ?_ _ | refine blk_drew ?_ | refine blk_alloc ?_ _)); refine blk_far ?_ NB1_16.out _; (with_reducible repeat (first | refine blk_drewN ?_ _ | refine blk_drew ?_ | refine blk_alloc ?_ _)); refine blk_far ?_ NB1_16.out _; (with_reducible repeat (first | refine blk_drewN ?_ _ | refine blk_drew ?_ | refine blk_alloc ?_ _)); refine blk_far ?_ NB1_16.out _; (with_reducible repeat (first | refine blk_drewN ?_ _ | refine blk_drew ?_ | refine blk_alloc ?_ _)); refine blk_far ?_ NB1_16.out _; (with_reducible repeat (first | refine blk_drewN ?_ _ | refine blk_drew ?_ | refine blk_alloc ?_ _)); refine blk_far ?_ NB1_16.out _; (with_reducible repeat (first | refine blk_drewN ?_ _ | refine blk_drew ?_ | refine blk_alloc ?_ _)); exact BK1.out⟩
        have n1_ : Aside0 ((((((((((((((w30.setCell ⟨gb16, 0, none⟩ (.bool t2)).setCell ⟨gb16, 1, none⟩ (.bool t3)).setCell ⟨gb16, 2, none⟩ (.bool t4)).setCell ⟨gb16, 3, none⟩ (.bool t5)).setCell ⟨gb16, 4, none⟩ (.bool t6)).setCell ⟨gb16, 5, none⟩ (.bool t7)).setCell ⟨gb16, 6, none⟩ (.bool t8)).setCell ⟨gb16, 7, none⟩ (.bool t9)).setCell ⟨gb16, 8, none⟩ (.int .i64 t10)).setCell ⟨gb16, 9, none⟩ (.int .i64 t11)).setCell ⟨gb16, 10, none⟩ (.int .i64 t12)).setCell ⟨gb16, 11, none⟩ (.int .i64 t13)).setCell ⟨gb16, 12, none⟩ (.int .i64 t14)).heap[gb16]? = some (.cells #[.bool t2, .bool t3, .bool t4, .bool t5, .bool t6, .bool t7, .bool t8, .bool t9, .int .i64 t10, .int .i64 t11, .int .i64 t12, .int .i64 t13, .int .i64 t14] 34 (0, 0))) := ⟨by (with_reducible repeat (first | refine blk_drewN ?_ _ | refine blk_drew ?_ | refine blk_alloc ?_ _)); refine blk_put (cs := #[.bool t2, .bool t3, .bool t4, .bool t5, .bool t6, .bool t7, .bool t8, .bool t9, .int .i64 t10, .int .i64 t11, .int .i64 t12, .int .i64 t13, .int .i64 0]) ?_ 12 _ rfl; (with_reducible repeat (first | refine blk_drewN ?_ _ | refine blk_drew ?_ | refine blk_alloc ?_ _)); refine blk_put (cs := #[.bool t2, .bool t3, .bool t4, .bool t5, .bool t6, .bool t7, .bool t8, .bool t9, .int .i64 t10, .int .i64 t11, .int .i64 t12, .int .i64 0, .int .i64 0]) ?_ 11 _ rfl; (with_reducible repeat (first | refine blk_drewN ?_ _ | refine blk_drew ?_ | refine blk_alloc ?_ _)); refine blk_put (cs := #[.bool t2, .bool t3, .bool t4, .bool t5, .bool t6, .bool t7, .bool t8, .bool t9, .int .i64 t10, .int .i64 t11, .int .i64 0, .int .i64 0, .int .i64 0]) ?_ 10 _ rfl; (with_reducible repeat (first | refine blk_drewN ?_ _ | refine blk_drew ?_ | refine blk_alloc ?_ _)); refine blk_put (cs := #[.bool t2, .bool t3, .bool t4, .bool t5, .bool t6, .bool t7, .bool t8, .bool t9, .int .i64 t10, .int .i64 0, .int .i64 0, .int .i64 0, .int .i64 0]) ?_ 9 _ rfl; (with_reducible repeat (first | refine blk_drewN ?_ _ | refine blk_drew ?_ | refine blk_alloc ?_ _)); refine blk_put (cs := #[.bool t2, .bool t3, .bool t4, .bool t5, .bool t6, .bool t7, .bool t8, .bool t9, .int .i64 0, .int .i64 0, .int .i64 0, .int .i64 0, .int .i64 0]) ?_ 8 _ rfl; (with_reducible repeat (first | refine blk_drewN ?_ _ | refine blk_drew ?_ | refine blk_alloc ?_ _)); refine blk_put (cs := #[.bool t2, .bool t3, .bool t4, .bool t5, .bool t6, .bool t7, .bool t8, .bool false, .int .i64 0, .int .i64 0, .int .i64 0, .int .i64 0, .int .i64 0]) ?_ 7 _ rfl; (with_reducible repeat (first | refine blk_drewN ?_ _ | refine blk_drew ?_ | refine blk_alloc ?_ _)); refine blk_put (cs := #[.bool t2, .bool t3, .bool t4, .bool t5, .bool t6, .bool t7, .bool false, .bool false, .int .i64 0, .int .i64 0, .int .i64 0, .int .i64 0, .int .i64 0]) ?_ 6 _ rfl; (with_reducible repeat (first | refine blk_drewN ?_ _ | refine blk_drew ?_ | refine blk_alloc ?_ _)); refine blk_put (cs := #[.bool t2, .bool t3, .bool t4, .bool t5, .bool t6, .bool false, .bool false, .bool false, .int .i64 0, .int .i64 0, .int .i64 0, .int .i64 0, .int .i64 0]) ?_ 5 _ rfl; (with_reducible repeat (first | refine blk_drewN ?_ _ | refine blk_drew ?_ | refine blk_alloc ?_ _)); refine blk_put (cs := #[.bool t2, .bool t3, .bool t4, .bool t5, .bool false, .bool false, .bool false, .bool false, .int .i64 0, .int .i64 0, .int .i64 0, .int .i64 0, .int .i64 0]) ?_ 4 _ rfl; (with_reducible repeat (first | refine blk_drewN ?_ _ | refine blk_drew ?_ | refine blk_alloc ?_ _)); refine blk_put (cs := #[.bool t2, .bool t3, .bool t4, .bool false, .bool false, .bool false, .bool false, .bool false, .int .i64 0, .int .i64 0, .int .i64 0, .int .i64 0, .int .i64 0]) ?_ 3 _ rfl; (with_reducible repeat (first | refine blk_drewN ?_ _ | refine blk_drew ?_ | refine blk_alloc ?_ _)); refine blk_put (cs := #[.bool t2, .bool t3, .bool false, .bool false, .bool false, .bool false, .bool false, .bool false, .int .i64 0, .int .i64 0, .int .i64 0, .int .i64 0, .int .i64 0]) ?_ 2 _ rfl; (with_reducible repeat (first | refine blk_drewN ?_ _ | refine blk_drew ?_ | refine blk_alloc ?_ _)); refine blk_put (cs := #[.bool t2, .bool false, .bool false, .bool false, .bool false, .bool false, .bool false, .bool false, .int .i64 0, .int .i64 0, .int .i64 0, .int .i64 0, .int .i64 0]) ?_ 1 _ rfl; (with_reducible repeat (first | refine blk_drewN ?_ _ | refine blk_drew ?_ | refine blk_alloc ?_ _)); refine blk_put (cs := #[.bool false, .bool false, .bool false, .bool false, .bool false, .bool false, .bool false, .bool false, .int .i64 0, .int .i64 0, .int .i64 0, .int .i64 0, .int .i64 0]) ?_ 0 _ rfl; (with_reducible repeat (first | refine blk_drewN ?_ _ | refine blk_drew ?_ | refine blk_alloc ?_ _)); exact BK16.out⟩
        have n2_ : Aside0 (Below w.heap.size w (((((((((((((w30.setCell ⟨gb16, 0, none⟩ (.bool t2)).setCell ⟨gb16, 1, none⟩ (.bool t3)).setCell ⟨gb16, 2, none⟩ (.bool t4)).setCell ⟨gb16, 3, none⟩ (.bool t5)).setCell ⟨gb16, 4, none⟩ (.bool t6)).setCell ⟨gb16, 5, none⟩ (.bool t7)).setCell ⟨gb16, 6, none⟩ (.bool t8)).setCell ⟨gb16, 7, none⟩ (.bool t9)).setCell ⟨gb16, 8, none⟩ (.int .i64 t10)).setCell ⟨gb16, 9, none⟩ (.int .i64 t11)).setCell ⟨gb16, 10, none⟩ (.int .i64 t12)).setCell ⟨gb16, 11, none⟩ (.int .i64 t13)).setCell ⟨gb16, 12, none⟩ (.int .i64 t14))) := ⟨by repeat (first | (with_reducible first | exact HB.out | apply below_alloc | apply pw_below_drewN | apply below_drew1 | refine below_set ?_ GE1.out | refine below_set ?_ GE16.out) | exact HB.out)⟩
        (try clear BK1)
        (try clear BK16)
        (try clear HB)
        generalize (((((((((((((w30.setCell ⟨gb16, 0, none⟩ (.bool t2)).setCell ⟨gb16, 1, none⟩ (.bool t3)).setCell ⟨gb16, 2, none⟩ (.bool t4)).setCell ⟨gb16, 3, none⟩ (.bool t5)).setCell ⟨gb16, 4, none⟩ (.bool t6)).setCell ⟨gb16, 5, none⟩ (.bool t7)).setCell ⟨gb16, 6, none⟩ (.bool t8)).setCell ⟨gb16, 7, none⟩ (.bool t9)).setCell ⟨gb16, 8, none⟩ (.int .i64 t10)).setCell ⟨gb16, 9, none⟩ (.int .i64 t11)).setCell ⟨gb16, 10, none⟩ (.int .i64 t12)).setCell ⟨gb16, 11, none⟩ (.int .i64 t13)).setCell ⟨gb16, 12, none⟩ (.int .i64 t14)) = w33 at n0_ n1_ n2_ ⊢
        have BK1 := n0_
        have BK16 := n1_
        have HB := n2_
        clear n0_ n1_ n2_
        have n0_ := Aside0.mk (blk_drew BK1.out)
        have n1_ := Aside0.mk (blk_drew BK16.out)
        have n2_ := Aside0.mk (below_drew1 HB.out)
        clear BK1
        clear BK16
        clear HB
        have BK1 := n0_
        have BK16 := n1_
        have HB := n2_
        clear n0_ n1_ n2_
        refine start_ (n := 8) (S := fun w' => w'.cell? ⟨gb1, 0, none⟩ = some (.int .i64 a0_0) ∧ w'.cell? ⟨gb1, 1, none⟩ = some (.slice A0_1 l0_1.length c0_1) ∧ w'.cell? ⟨gb1, 2, none⟩ = some (.slice A0_2 l0_2.length c0_2) ∧ w'.cell? ⟨gb16, 0, none⟩ = some (.bool t2) ∧ w'.cell? ⟨gb16, 1, none⟩ = some (.bool t3) ∧ w'.cell? ⟨gb16, 2, none⟩ = some (.bool t4) ∧ w'.cell? ⟨gb16, 3, none⟩ = some (.bool t5) ∧ w'.cell? ⟨gb16, 4, none⟩ = some (.bool t6) ∧ w'.cell? ⟨gb16, 5, none⟩ = some (.bool t7) ∧ w'.cell? ⟨gb16, 6, none⟩ = some (.bool t8) ∧ w'.cell? ⟨gb16, 7, none⟩ = some (.bool t9) ∧ w'.cell? ⟨gb16, 8, none⟩ = some (.int .i64 t10) ∧ w'.cell? ⟨gb16, 9, none⟩ = some (.int .i64 t11) ∧ w'.cell? ⟨gb16, 10, none⟩ = some (.int .i64 t12) ∧ w'.cell? ⟨gb16, 11, none⟩ = some (.int .i64 t13) ∧ w'.cell? ⟨gb16, 12, none⟩ = some (.int .i64 t14)) (ds := []) #[false, false, false, false, false, false, false, false] (by kernel_rfl) rfl rfl ⟨(blk_cell BK1.out 0).trans rfl, (blk_cell BK1.out 1).trans rfl, (blk_cell BK1.out 2).trans rfl, (blk_cell BK16.out 0).trans rfl, (blk_cell BK16.out 1).trans rfl, (blk_cell BK16.out 2).trans rfl, (blk_cell BK16.out 3).trans rfl, (blk_cell BK16.out 4).trans rfl, (blk_cell BK16.out 5).trans rfl, (blk_cell BK16.out 6).trans rfl, (blk_cell BK16.out 7).trans rfl, (blk_cell BK16.out 8).trans rfl, (blk_cell BK16.out 9).trans rfl, (blk_cell BK16.out 10).trans rfl, (blk_cell BK16.out 11).trans rfl, (blk_cell BK16.out 12).trans rfl⟩ (fun hHeld => ?_); refine with_tabW policy_Lifetime.tab8 policy_Lifetime.bits8 (fun HT_ HW_ => ?_)
        generalize w33.drew = w34 at BK1 BK16 HB hHeld ⊢
        refine pure_ (i := 2) (N := some 30) (v := ?_) (a' := ?_) #[false, false, true, false, false, false, false, false] rfl rfl (any_of HT_.out (by kernel_rfl)) (fun _ _ _ h => h) (Or.inl ⟨by rfl, ?_⟩) ?_ ?_
        rotate_left
        · intro w'
          go_simp
          with_reducible rfl
        rotate_left
        · simp only [Act.put, List.setIfInBounds_toArray, List.set_cons_zero, List.set_cons_succ, i64_w, i32_w]
          rfl
        refine pure_ (i := 4) (N := some 32) (v := ?_) (a' := ?_) #[false, false, true, false, true, false, false, false] rfl rfl (any_of HT_.out (by kernel_rfl)) (fun _ _ _ h => h) (Or.inl ⟨by rfl, ?_⟩) ?_ ?_
        rotate_left
        · intro w'
          go_simp
          with_reducible rfl
        rotate_left
        · simp only [Act.put, List.setIfInBounds_toArray, List.set_cons_zero, List.set_cons_succ, i64_w, i32_w]
          rfl
        refine take_ (i := 0) (N := some 28) (v := ?_) (a' := ?_) #[true, false, true, false, true, false, false, false] rfl rfl (take_ofW HT_.out HW_.out (by kernel_rfl)) (fun _ _ _ h => h) (Or.inl ⟨by rfl, ?_⟩) hHeld ?_ ?_
        rotate_left
        · rintro w' ⟨s0, s1, s2, s3, s4, s5, s6, s7, s8, s9, s10, s11, s12, s13, s14, s15⟩
          go_simp
          with_reducible rfl
        rotate_left
        · simp only [Act.put, List.setIfInBounds_toArray, List.set_cons_zero, List.set_cons_succ, i64_w, i32_w]
          rfl
        refine take_ (i := 1) (N := some 29) (v := ?_) (a' := ?_) #[true, true, true, false, true, false, false, false] rfl rfl (take_ofW HT_.out HW_.out (by kernel_rfl)) (fun _ _ _ h => h) (Or.inl ⟨by rfl, ?_⟩) hHeld ?_ ?_
        rotate_left
        · rintro w' ⟨s0, s1, s2, s3, s4, s5, s6, s7, s8, s9, s10, s11, s12, s13, s14, s15⟩
          go_simp
          with_reducible rfl
        rotate_left
        · simp only [Act.put, List.setIfInBounds_toArray, List.set_cons_zero, List.set_cons_succ, i64_w, i32_w]
          rfl
        refine take_ (i := 3) (N := some 31) (v := ?_) (a' := ?_) #[true, true, true, true, true, false, false, false] rfl rfl (take_ofW HT_.out HW_.out (by kernel_rfl)) (fun _ _ _ h => h) (Or.inl ⟨by rfl, ?_⟩) hHeld ?_ ?_
        rotate_left
        · rintro w' ⟨s0, s1, s2, s3, s4, s5, s6, s7, s8, s9, s10, s11, s12, s13, s14, s15⟩
          go_simp
          with_reducible rfl
        rotate_left
        · simp only [Act.put, List.setIfInBounds_toArray, List.set_cons_zero, List.set_cons_succ, i64_w, i32_w]
          rfl
        refine one_ (i := 5) (N := some 33) #[true, true, true, true, true, true, false, false] rfl rfl (one_of HT_.out (by kernel_rfl)) (by decide) (fun K hK => ?_)
        refine goes_ Tryz.func32 (by kernel_rfl) rfl #[.slice A0_1 l0_1.length c0_1, .int .i64 a1] (by rfl) rfl rfl (by (try simp only [List.map_toArray, List.map_cons, List.map_nil]); first | done | rfl | (simp only [List.length_drop, List.length_take]; rfl)) ?_
        with_reducible refine (age_Date.calls _ _ l0_1 a1 t17 _ ?side1 ?side2 ?side3 A25.out).mono ?_
        (case side1 => repeat (first | exact (Kd.C_below HR0_1.out HB.out) | (with_reducible refine Kd.C_alloc ?_ _) | (with_reducible refine Kd.C_drewN ?_ _) | (with_reducible refine Kd.C_drew ?_)))
        (case side2 => exact HC0_1.out)
        (case side3 => exact GL.below HG.out (by repeat (first | (with_reducible first | exact HB.out | apply below_alloc | apply pw_below_drewN | apply below_drew1 | refine below_set ?_ GE1.out | refine below_set ?_ GE16.out) | exact HB.out)))
        rintro e w35 ⟨rfl, hb⟩
        refine ⟨_, rfl, ?_⟩
        have n0_ := Aside0.mk (blk_below (g := gb1) (o := .cells #[.int .i64 a0_0, .slice A0_1 l0_1.length c0_1, .slice A0_2 l0_2.length c0_2] 27 (0, 0)) (by (with_reducible repeat (first | refine blk_drewN ?_ _ | refine blk_drew ?_ | refine blk_alloc ?_ _)); exact BK1.out) hb)
        have n1_ := Aside0.mk (blk_below (g := gb16) (o := .cells #[.bool t2, .bool t3, .bool t4, .bool t5, .bool t6, .bool t7, .bool t8, .bool t9, .int .i64 t10, .int .i64 t11, .int .i64 t12, .int .i64 t13, .int .i64 t14] 34 (0, 0)) (by (with_reducible repeat (first | refine blk_drewN ?_ _ | refine blk_drew ?_ | refine blk_alloc ?_ _)); exact BK16.out) hb)
        have n2_ := Aside0.mk (below_step (by repeat (first | (with_reducible first | exact HB.out | apply below_alloc | apply pw_below_drewN | apply below_drew1 | refine below_set ?_ GE1.out | refine below_set ?_ GE16.out) | exact HB.out)) hb)
        clear BK1
        clear BK16
        clear HB
        have BK1 := n0_
        have BK16 := n1_
        have HB := n2_
        clear n0_ n1_ n2_
        (try clear hb)
        (try clear hb2)
        (try clear hk)
        (try clear hi)
        refine hK.out _ _ ⟨(blk_cell BK1.out 0).trans rfl, (blk_cell BK1.out 1).trans rfl, (blk_cell BK1.out 2).trans rfl, (blk_cell BK16.out 0).trans rfl, (blk_cell BK16.out 1).trans rfl, (blk_cell BK16.out 2).trans rfl, (blk_cell BK16.out 3).trans rfl, (blk_cell BK16.out 4).trans rfl, (blk_cell BK16.out 5).trans rfl, (blk_cell BK16.out 6).trans rfl, (blk_cell BK16.out 7).trans rfl, (blk_cell BK16.out 8).trans rfl, (blk_cell BK16.out 9).trans rfl, (blk_cell BK16.out 10).trans rfl, (blk_cell BK16.out 11).trans rfl, (blk_cell BK16.out 12).trans rfl⟩ (fun hHeld => ?_)
        clear hK K
        refine norm_ (a' := ?_) ?_ ?_
        rotate_left
        · show Act.put _ (some 33) _ = _
          simp only [Act.put, List.setIfInBounds_toArray, List.set_cons_zero, List.set_cons_succ, i64_w, i32_w]
          rfl
        refine one_ (i := 6) (N := some 34) #[true, true, true, true, true, true, true, false] rfl rfl (one_of HT_.out (by kernel_rfl)) (by decide) (fun K hK => ?_)
        refine goes_ Tryz.func31 (by kernel_rfl) rfl #[.agg #[.int .i64 a0_0, .slice A0_1 l0_1.length c0_1, .slice A0_2 l0_2.length c0_2], .agg #[.bool t2, .bool t3, .bool t4, .bool t5, .bool t6, .bool t7, .bool t8, .bool t9, .int .i64 t10, .int .i64 t11, .int .i64 t12, .int .i64 t13, .int .i64 t14], .int .i64 t17] (by rfl) rfl rfl (by (try simp only [List.map_toArray, List.map_cons, List.map_nil]); first | done | rfl | (simp only [List.length_drop, List.length_take]; rfl)) ?_
        with_reducible refine (policy_guessed.calls a0_0 _ _ l0_1 _ _ l0_2 t2 t3 t4 t5 t6 t7 t8 t9 t10 t11 t12 t13 t14 t17 t18 _ ?side1 ?side2 ?side3 ?side4 ?side5 A26.out).mono ?_
        (case side1 => repeat (first | exact (Kd.C_below HR0_1.out HB.out) | (with_reducible refine Kd.C_alloc ?_ _) | (with_reducible refine Kd.C_drewN ?_ _) | (with_reducible refine Kd.C_drew ?_)))
        (case side2 => exact HC0_1.out)
        (case side3 => repeat (first | exact (Kd.C_below HR0_2.out HB.out) | (with_reducible refine Kd.C_alloc ?_ _) | (with_reducible refine Kd.C_drewN ?_ _) | (with_reducible refine Kd.C_drew ?_)))
        (case side4 => exact HC0_2.out)
        (case side5 => exact GL.below HG.out (by repeat (first | (with_reducible first | exact HB.out | apply below_alloc | apply pw_below_drewN | apply below_drew1 | refine below_set ?_ GE1.out | refine below_set ?_ GE16.out) | exact HB.out)))
        rintro e w36 ⟨rfl, hb⟩
        refine ⟨_, rfl, ?_⟩
        have n0_ := Aside0.mk (blk_below (g := gb1) (o := .cells #[.int .i64 a0_0, .slice A0_1 l0_1.length c0_1, .slice A0_2 l0_2.length c0_2] 27 (0, 0)) (by (with_reducible repeat (first | refine blk_drewN ?_ _ | refine blk_drew ?_ | refine blk_alloc ?_ _)); exact BK1.out) hb)
        have n1_ := Aside0.mk (blk_below (g := gb16) (o := .cells #[.bool t2, .bool t3, .bool t4, .bool t5, .bool t6, .bool t7, .bool t8, .bool t9, .int .i64 t10, .int .i64 t11, .int .i64 t12, .int .i64 t13, .int .i64 t14] 34 (0, 0)) (by (with_reducible repeat (first | refine blk_drewN ?_ _ | refine blk_drew ?_ | refine blk_alloc ?_ _)); exact BK16.out) hb)
        have n2_ := Aside0.mk (below_step (by repeat (first | (with_reducible first | exact HB.out | apply below_alloc | apply pw_below_drewN | apply below_drew1 | refine below_set ?_ GE1.out | refine below_set ?_ GE16.out) | exact HB.out)) hb)
        clear BK1
        clear BK16
        clear HB
        have BK1 := n0_
        have BK16 := n1_
        have HB := n2_
        clear n0_ n1_ n2_
        (try clear hb)
        (try clear hb2)
        (try clear hk)
        (try clear hi)
        refine hK.out _ _ ⟨(blk_cell BK1.out 0).trans rfl, (blk_cell BK1.out 1).trans rfl, (blk_cell BK1.out 2).trans rfl, (blk_cell BK16.out 0).trans rfl, (blk_cell BK16.out 1).trans rfl, (blk_cell BK16.out 2).trans rfl, (blk_cell BK16.out 3).trans rfl, (blk_cell BK16.out 4).trans rfl, (blk_cell BK16.out 5).trans rfl, (blk_cell BK16.out 6).trans rfl, (blk_cell BK16.out 7).trans rfl, (blk_cell BK16.out 8).trans rfl, (blk_cell BK16.out 9).trans rfl, (blk_cell BK16.out 10).trans rfl, (blk_cell BK16.out 11).trans rfl, (blk_cell BK16.out 12).trans rfl⟩ (fun hHeld => ?_)
        clear hK K
        refine norm_ (a' := ?_) ?_ ?_
        rotate_left
        · show Act.put _ (some 34) _ = _
          simp only [Act.put, List.setIfInBounds_toArray, List.set_cons_zero, List.set_cons_succ, i64_w, i32_w]
          rfl
        refine pure_ (i := 7) (N := some 4) (v := ?_) (a' := ?_) #[true, true, true, true, true, true, true, true] rfl rfl (any_of HT_.out (by kernel_rfl)) (fun _ _ _ h => h) (Or.inl ⟨by rfl, ?_⟩) ?_ ?_
        rotate_left
        · intro w'
          go_simp
          with_reducible rfl
        rotate_left
        · simp only [Act.put, List.setIfInBounds_toArray, List.set_cons_zero, List.set_cons_succ, i64_w, i32_w]
          rfl
        refine done_ (done_of HT_.out (by kernel_rfl)) ?_
        try go_wp2
        go_ret
        exact ⟨by first | rfl | (simp [errW_none, errW_some] <;> rfl) | (simp [*, errW_none, errW_some] <;> rfl), by repeat (first | (with_reducible first | exact HB.out | apply below_alloc | apply pw_below_drewN | apply below_drew1 | refine below_set ?_ GE1.out | refine below_set ?_ GE16.out) | exact HB.out)⟩
end Go.Proofs.YtebfpnbnoinhbaaGreatDoor.Q
namespace Go.Proofs.YtebfpnbnoinhbaaGreatDoor.Q
open Go.RowKit Go.Proofs.YtebfpnbnoinhbaaGreatDoorW.PrintWords Go.Proofs.YtebfpnbnoinhbaaGreatDoorW.PrintLast Go.Proofs.YtebfpnbnoinhbaaGreatDoorW.PrintMore
set_option linter.unusedVariables false
set_option linter.unusedSimpArgs false
def ccF : List S51 := [⟨(⟨#[99, 97, 99, 104, 101, 45, 99, 111, 110, 116, 114, 111, 108]⟩ : ByteArray), (⟨#[109, 97, 120, 45, 97, 103, 101, 61, 49, 48]⟩ : ByteArray)⟩]
theorem st1 : policy_Storable.f 100 (⟨#[71, 69, 84]⟩ : ByteArray) (⟨#[]⟩ : ByteArray) ([] : List S51) ([] : List Int) 200 ccF ([] : List Int) = some true := by kernel_rfl
theorem st2 : policy_Storable.f 100 (⟨#[80, 79, 83, 84]⟩ : ByteArray) (⟨#[]⟩ : ByteArray) ([] : List S51) ([] : List Int) 200 ccF ([] : List Int) = some false := by kernel_rfl
theorem lf1 : policy_Lifetime.f 100 200 ccF ([] : List Int) 0 = some 10 := by kernel_rfl
theorem jd0 : policy_Judge.f 5 10 false false false false false false false false (-1) (-1) (-1) (-1) (-1) false false false false false false false false (-1) (-1) (-1) (-1) (-1) = some 0 := by kernel_rfl
theorem jd1 : policy_Judge.f 10 10 false false false false false false false false (-1) (-1) (-1) (-1) (-1) false false false false false false false false (-1) (-1) (-1) (-1) (-1) = some 1 := by kernel_rfl
theorem jd2 : policy_Judge.f 5 10 false false false false false false false false (-1) (-1) (-1) (-1) (-1) false true false false false false false false (-1) (-1) (-1) (-1) (-1) = some 2 := by kernel_rfl
theorem jd3 : policy_Judge.f 5 10 false false false false false false true false (-1) (-1) (-1) (-1) (-1) false true false false false false false false (-1) (-1) (-1) (-1) (-1) = some 0 := by kernel_rfl
theorem oe0 : policy_OnError.f 20 10 false false false false false false false false (-1) (-1) (-1) (-1) (-1) = some true := by kernel_rfl
theorem oe1 : policy_OnError.f 5 10 false true false false false false false false (-1) (-1) (-1) (-1) (-1) = some false := by kernel_rfl
theorem cc_reads {W : World} {b : Nat} (h : W.heap[b]? = some (.cells #[.string (⟨#[99, 97, 99, 104, 101, 45, 99, 111, 110, 116, 114, 111, 108]⟩ : ByteArray), .string (⟨#[109, 97, 120, 45, 97, 103, 101, 61, 49, 48]⟩ : ByteArray)] 51 (0, 0))) : Kd.C k51 W (some ⟨b, 0, none⟩) 1 ccF := by
  have hr : Kd.R k51 51 W b (fun _ => True) (.slice (some ⟨b, 0, none⟩) 1 1) ccF := by
    refine ⟨fun _ _ => trivial, [.string (⟨#[99, 97, 99, 104, 101, 45, 99, 111, 110, 116, 114, 111, 108]⟩ : ByteArray), .string (⟨#[109, 97, 120, 45, 97, 103, 101, 61, 49, 48]⟩ : ByteArray)], ⟨rfl, .inr ⟨b, 1, _, rfl, Nat.le_refl _, h, Nat.le_refl _, by decide, rfl, rfl⟩⟩, rfl, fun j p hj => ?_⟩
    have hlt : j < 1 := (List.getElem?_eq_some_iff.1 hj).1
    obtain rfl : j = 0 := by omega
    have : p = ⟨(⟨#[99, 97, 99, 104, 101, 45, 99, 111, 110, 116, 114, 111, 108]⟩ : ByteArray), (⟨#[109, 97, 120, 45, 97, 103, 101, 61, 49, 48]⟩ : ByteArray)⟩ := by simpa [ccF] using hj.symm
    subst this
    exact k51_mkM W _ _ _
  obtain ⟨A, c, e, _, hC⟩ := Kd.R_reads hr
  injection e with e1 e2 e3
  subst e1
  exact hC
def AwI (w : World) (n1 : Nat) (W : World) : Prop := Kps w [(w.heap.size, .cells #[.string (⟨#[71, 69, 84]⟩ : ByteArray), .string (⟨#[]⟩ : ByteArray), .slice none 0 0, .slice none 0 0] 25 (0, 0)), (w.heap.size + 1, .cells #[.string (⟨#[99, 97, 99, 104, 101, 45, 99, 111, 110, 116, 114, 111, 108]⟩ : ByteArray), .string (⟨#[109, 97, 120, 45, 97, 103, 101, 61, 49, 48]⟩ : ByteArray)] 51 (0, 0)), (w.heap.size + 1 + 1, .cells #[.int .i64 200, .slice (some ⟨w.heap.size + 1, 0, none⟩) 1 1, .slice none 0 0] 27 (0, 0)), (n1, .cells #[.bool false, .bool false, .bool false, .bool false, .bool false, .bool false, .bool false, .bool false, .int .i64 (-1), .int .i64 (-1), .int .i64 (-1), .int .i64 (-1), .int .i64 (-1)] 34 (0, 0)), (n1 + 1, .cells #[.bool false, .bool false, .bool false, .bool false, .bool false, .bool false, .bool true, .bool false, .int .i64 (-1), .int .i64 (-1), .int .i64 (-1), .int .i64 (-1), .int .i64 (-1)] 34 (0, 0)), (n1 + 1 + 1, .cells #[.bool false, .bool true, .bool false, .bool false, .bool false, .bool false, .bool false, .bool false, .int .i64 (-1), .int .i64 (-1), .int .i64 (-1), .int .i64 (-1), .int .i64 (-1)] 34 (0, 0))] W
theorem AwI.facts {w W : World} {n1 : Nat} (h : AwI w n1 W) : W.cell? ⟨w.heap.size, 0, none⟩ = some (.string (⟨#[71, 69, 84]⟩ : ByteArray)) ∧ W.cell? ⟨w.heap.size, 1, none⟩ = some (.string (⟨#[]⟩ : ByteArray)) ∧ W.cell? ⟨w.heap.size, 2, none⟩ = some (.slice none 0 0) ∧ W.cell? ⟨w.heap.size, 3, none⟩ = some (.slice none 0 0) ∧ W.cell? ⟨w.heap.size + 1 + 1, 0, none⟩ = some (.int .i64 200) ∧ W.cell? ⟨w.heap.size + 1 + 1, 1, none⟩ = some (.slice (some ⟨w.heap.size + 1, 0, none⟩) 1 1) ∧ W.cell? ⟨w.heap.size + 1 + 1, 2, none⟩ = some (.slice none 0 0) ∧ W.cell? ⟨n1, 0, none⟩ = some (.bool false) ∧ W.cell? ⟨n1, 1, none⟩ = some (.bool false) ∧ W.cell? ⟨n1, 2, none⟩ = some (.bool false) ∧ W.cell? ⟨n1, 3, none⟩ = some (.bool false) ∧ W.cell? ⟨n1, 4, none⟩ = some (.bool false) ∧ W.cell? ⟨n1, 5, none⟩ = some (.bool false) ∧ W.cell? ⟨n1, 6, none⟩ = some (.bool false) ∧ W.cell? ⟨n1, 7, none⟩ = some (.bool false) ∧ W.cell? ⟨n1, 8, none⟩ = some (.int .i64 (-1)) ∧ W.cell? ⟨n1, 9, none⟩ = some (.int .i64 (-1)) ∧ W.cell? ⟨n1, 10, none⟩ = some (.int .i64 (-1)) ∧ W.cell? ⟨n1, 11, none⟩ = some (.int .i64 (-1)) ∧ W.cell? ⟨n1, 12, none⟩ = some (.int .i64 (-1)) ∧ W.cell? ⟨n1 + 1, 0, none⟩ = some (.bool false) ∧ W.cell? ⟨n1 + 1, 1, none⟩ = some (.bool false) ∧ W.cell? ⟨n1 + 1, 2, none⟩ = some (.bool false) ∧ W.cell? ⟨n1 + 1, 3, none⟩ = some (.bool false) ∧ W.cell? ⟨n1 + 1, 4, none⟩ = some (.bool false) ∧ W.cell? ⟨n1 + 1, 5, none⟩ = some (.bool false) ∧ W.cell? ⟨n1 + 1, 6, none⟩ = some (.bool true) ∧ W.cell? ⟨n1 + 1, 7, none⟩ = some (.bool false) ∧ W.cell? ⟨n1 + 1, 8, none⟩ = some (.int .i64 (-1)) ∧ W.cell? ⟨n1 + 1, 9, none⟩ = some (.int .i64 (-1)) ∧ W.cell? ⟨n1 + 1, 10, none⟩ = some (.int .i64 (-1)) ∧ W.cell? ⟨n1 + 1, 11, none⟩ = some (.int .i64 (-1)) ∧ W.cell? ⟨n1 + 1, 12, none⟩ = some (.int .i64 (-1)) ∧ W.cell? ⟨n1 + 1 + 1, 0, none⟩ = some (.bool false) ∧ W.cell? ⟨n1 + 1 + 1, 1, none⟩ = some (.bool true) ∧ W.cell? ⟨n1 + 1 + 1, 2, none⟩ = some (.bool false) ∧ W.cell? ⟨n1 + 1 + 1, 3, none⟩ = some (.bool false) ∧ W.cell? ⟨n1 + 1 + 1, 4, none⟩ = some (.bool false) ∧ W.cell? ⟨n1 + 1 + 1, 5, none⟩ = some (.bool false) ∧ W.cell? ⟨n1 + 1 + 1, 6, none⟩ = some (.bool false) ∧ W.cell? ⟨n1 + 1 + 1, 7, none⟩ = some (.bool false) ∧ W.cell? ⟨n1 + 1 + 1, 8, none⟩ = some (.int .i64 (-1)) ∧ W.cell? ⟨n1 + 1 + 1, 9, none⟩ = some (.int .i64 (-1)) ∧ W.cell? ⟨n1 + 1 + 1, 10, none⟩ = some (.int .i64 (-1)) ∧ W.cell? ⟨n1 + 1 + 1, 11, none⟩ = some (.int .i64 (-1)) ∧ W.cell? ⟨n1 + 1 + 1, 12, none⟩ = some (.int .i64 (-1)) := by
  have b0 := h.1 _ (List.mem_cons_self ..)
  have b2 := h.1 _ (List.mem_cons_of_mem _ (List.mem_cons_of_mem _ (List.mem_cons_self ..)))
  have b3 := h.1 _ (List.mem_cons_of_mem _ (List.mem_cons_of_mem _ (List.mem_cons_of_mem _ (List.mem_cons_self ..))))
  have b4 := h.1 _ (List.mem_cons_of_mem _ (List.mem_cons_of_mem _ (List.mem_cons_of_mem _ (List.mem_cons_of_mem _ (List.mem_cons_self ..)))))
  have b5 := h.1 _ (List.mem_cons_of_mem _ (List.mem_cons_of_mem _ (List.mem_cons_of_mem _ (List.mem_cons_of_mem _ (List.mem_cons_of_mem _ (List.mem_cons_self ..))))))
  exact ⟨(blk_cell b0 0).trans rfl, (blk_cell b0 1).trans rfl, (blk_cell b0 2).trans rfl, (blk_cell b0 3).trans rfl, (blk_cell b2 0).trans rfl, (blk_cell b2 1).trans rfl, (blk_cell b2 2).trans rfl, (blk_cell b3 0).trans rfl, (blk_cell b3 1).trans rfl, (blk_cell b3 2).trans rfl, (blk_cell b3 3).trans rfl, (blk_cell b3 4).trans rfl, (blk_cell b3 5).trans rfl, (blk_cell b3 6).trans rfl, (blk_cell b3 7).trans rfl, (blk_cell b3 8).trans rfl, (blk_cell b3 9).trans rfl, (blk_cell b3 10).trans rfl, (blk_cell b3 11).trans rfl, (blk_cell b3 12).trans rfl, (blk_cell b4 0).trans rfl, (blk_cell b4 1).trans rfl, (blk_cell b4 2).trans rfl, (blk_cell b4 3).trans rfl, (blk_cell b4 4).trans rfl, (blk_cell b4 5).trans rfl, (blk_cell b4 6).trans rfl, (blk_cell b4 7).trans rfl, (blk_cell b4 8).trans rfl, (blk_cell b4 9).trans rfl, (blk_cell b4 10).trans rfl, (blk_cell b4 11).trans rfl, (blk_cell b4 12).trans rfl, (blk_cell b5 0).trans rfl, (blk_cell b5 1).trans rfl, (blk_cell b5 2).trans rfl, (blk_cell b5 3).trans rfl, (blk_cell b5 4).trans rfl, (blk_cell b5 5).trans rfl, (blk_cell b5 6).trans rfl, (blk_cell b5 7).trans rfl, (blk_cell b5 8).trans rfl, (blk_cell b5 9).trans rfl, (blk_cell b5 10).trans rfl, (blk_cell b5 11).trans rfl, (blk_cell b5 12).trans rfl⟩
theorem AwI.cc {w W : World} {n1 : Nat} (h : AwI w n1 W) : Kd.C k51 W (some ⟨w.heap.size + 1, 0, none⟩) 1 ccF := cc_reads (h.1 _ (List.mem_cons_of_mem _ (List.mem_cons_self ..)))
theorem AwI.below {w W W' : World} {n1 : Nat} (h : AwI w n1 W) (hb : Below W.heap.size W W') : AwI w n1 W' := Kps.below h hb
theorem AwI.start {w w1 : World} (hb : Below (((w.alloc (.cells #[.string (⟨#[71, 69, 84]⟩ : ByteArray), .string (⟨#[]⟩ : ByteArray), .slice none 0 0, .slice none 0 0] 25 (0, 0))).alloc (.cells #[.string (⟨#[99, 97, 99, 104, 101, 45, 99, 111, 110, 116, 114, 111, 108]⟩ : ByteArray), .string (⟨#[109, 97, 120, 45, 97, 103, 101, 61, 49, 48]⟩ : ByteArray)] 51 (0, 0))).alloc (.cells #[.int .i64 200, .slice (some ⟨w.heap.size + 1, 0, none⟩) 1 1, .slice none 0 0] 27 (0, 0))).heap.size (((w.alloc (.cells #[.string (⟨#[71, 69, 84]⟩ : ByteArray), .string (⟨#[]⟩ : ByteArray), .slice none 0 0, .slice none 0 0] 25 (0, 0))).alloc (.cells #[.string (⟨#[99, 97, 99, 104, 101, 45, 99, 111, 110, 116, 114, 111, 108]⟩ : ByteArray), .string (⟨#[109, 97, 120, 45, 97, 103, 101, 61, 49, 48]⟩ : ByteArray)] 51 (0, 0))).alloc (.cells #[.int .i64 200, .slice (some ⟨w.heap.size + 1, 0, none⟩) 1 1, .slice none 0 0] 27 (0, 0))) w1) : AwI w w1.heap.size (((w1.alloc (.cells #[.bool false, .bool false, .bool false, .bool false, .bool false, .bool false, .bool false, .bool false, .int .i64 (-1), .int .i64 (-1), .int .i64 (-1), .int .i64 (-1), .int .i64 (-1)] 34 (0, 0))).alloc (.cells #[.bool false, .bool false, .bool false, .bool false, .bool false, .bool false, .bool true, .bool false, .int .i64 (-1), .int .i64 (-1), .int .i64 (-1), .int .i64 (-1), .int .i64 (-1)] 34 (0, 0))).alloc (.cells #[.bool false, .bool true, .bool false, .bool false, .bool false, .bool false, .bool false, .bool false, .int .i64 (-1), .int .i64 (-1), .int .i64 (-1), .int .i64 (-1), .int .i64 (-1)] 34 (0, 0))) := by
  have hB0 : Below w.heap.size w (((w.alloc (.cells #[.string (⟨#[71, 69, 84]⟩ : ByteArray), .string (⟨#[]⟩ : ByteArray), .slice none 0 0, .slice none 0 0] 25 (0, 0))).alloc (.cells #[.string (⟨#[99, 97, 99, 104, 101, 45, 99, 111, 110, 116, 114, 111, 108]⟩ : ByteArray), .string (⟨#[109, 97, 120, 45, 97, 103, 101, 61, 49, 48]⟩ : ByteArray)] 51 (0, 0))).alloc (.cells #[.int .i64 200, .slice (some ⟨w.heap.size + 1, 0, none⟩) 1 1, .slice none 0 0] 27 (0, 0))) := (((Below.refl _ w).alloc (Nat.le_refl _) _).alloc (by simp) _).alloc (by simp; omega) _
  have hB1 : Below w.heap.size w w1 := below_then hB0 hB0.size hb
  have hs := hB1.size
  refine ⟨fun p hp => ?_, ((hB1.alloc hs _).alloc (by simp; omega) _).alloc (by simp; omega) _⟩
  simp only [List.mem_cons, List.not_mem_nil, or_false] at hp
  rcases hp with rfl | rfl | rfl | rfl | rfl | rfl
  · refine heap_old3 _ (heap_old3 _ (heap_old3 _ ?_))
    rw [hb.block _ (by simp <;> omega)]
    exact heap_old3 _ (heap_old3 _ (heap_alloc_new w _))
  · refine heap_old3 _ (heap_old3 _ (heap_old3 _ ?_))
    rw [hb.block _ (by simp <;> omega)]
    have h := heap_alloc_new (w.alloc (.cells #[.string (⟨#[71, 69, 84]⟩ : ByteArray), .string (⟨#[]⟩ : ByteArray), .slice none 0 0, .slice none 0 0] 25 (0, 0))) (.cells #[.string (⟨#[99, 97, 99, 104, 101, 45, 99, 111, 110, 116, 114, 111, 108]⟩ : ByteArray), .string (⟨#[109, 97, 120, 45, 97, 103, 101, 61, 49, 48]⟩ : ByteArray)] 51 (0, 0))
    rw [World.size_alloc] at h
    exact heap_old3 _ h
  · refine heap_old3 _ (heap_old3 _ (heap_old3 _ ?_))
    rw [hb.block _ (by simp <;> omega)]
    have h := heap_alloc_new ((w.alloc (.cells #[.string (⟨#[71, 69, 84]⟩ : ByteArray), .string (⟨#[]⟩ : ByteArray), .slice none 0 0, .slice none 0 0] 25 (0, 0))).alloc (.cells #[.string (⟨#[99, 97, 99, 104, 101, 45, 99, 111, 110, 116, 114, 111, 108]⟩ : ByteArray), .string (⟨#[109, 97, 120, 45, 97, 103, 101, 61, 49, 48]⟩ : ByteArray)] 51 (0, 0))) (.cells #[.int .i64 200, .slice (some ⟨w.heap.size + 1, 0, none⟩) 1 1, .slice none 0 0] 27 (0, 0))
    rw [World.size_alloc, World.size_alloc] at h
    exact h
  · exact heap_old3 _ (heap_old3 _ (heap_alloc_new w1 _))
  · have h := heap_alloc_new (w1.alloc (.cells #[.bool false, .bool false, .bool false, .bool false, .bool false, .bool false, .bool false, .bool false, .int .i64 (-1), .int .i64 (-1), .int .i64 (-1), .int .i64 (-1), .int .i64 (-1)] 34 (0, 0))) (.cells #[.bool false, .bool false, .bool false, .bool false, .bool false, .bool false, .bool true, .bool false, .int .i64 (-1), .int .i64 (-1), .int .i64 (-1), .int .i64 (-1), .int .i64 (-1)] 34 (0, 0))
    rw [World.size_alloc] at h
    exact heap_old3 _ h
  · have h := heap_alloc_new ((w1.alloc (.cells #[.bool false, .bool false, .bool false, .bool false, .bool false, .bool false, .bool false, .bool false, .int .i64 (-1), .int .i64 (-1), .int .i64 (-1), .int .i64 (-1), .int .i64 (-1)] 34 (0, 0))).alloc (.cells #[.bool false, .bool false, .bool false, .bool false, .bool false, .bool false, .bool true, .bool false, .int .i64 (-1), .int .i64 (-1), .int .i64 (-1), .int .i64 (-1), .int .i64 (-1)] 34 (0, 0))) (.cells #[.bool false, .bool true, .bool false, .bool false, .bool false, .bool false, .bool false, .bool false, .int .i64 (-1), .int .i64 (-1), .int .i64 (-1), .int .i64 (-1), .int .i64 (-1)] 34 (0, 0))
    rw [World.size_alloc, World.size_alloc] at h
    exact h
theorem st1c {w W : World} {n1 : Nat} (hO : AwI w n1 W) (HG : GL w) : Calls Tryz.prog 9 #[.agg #[.string (⟨#[71, 69, 84]⟩ : ByteArray), .string (⟨#[]⟩ : ByteArray), .slice none 0 0, .slice none 0 0], .agg #[.int .i64 200, .slice (some ⟨w.heap.size + 1, 0, none⟩) 1 1, .slice none 0 0]] W fun e w' => e = .returned (.bool true) ∧ Below W.heap.size W w' :=
  policy_Storable.calls 100 (⟨#[71, 69, 84]⟩ : ByteArray) (⟨#[]⟩ : ByteArray) none 0 ([] : List S51) none 0 ([] : List Int) 200 (some ⟨w.heap.size + 1, 0, none⟩) 1 ccF none 0 ([] : List Int) true _ (Kd.C_nil _ _) (Nat.le_refl _) (Kd.C_nil _ _) (Nat.le_refl _) hO.cc (Nat.le_refl _) (Kd.C_nil _ _) (Nat.le_refl _) (GL.below HG hO.2) st1
theorem st2c {w W : World} {n1 : Nat} (hO : AwI w n1 W) (HG : GL w) : Calls Tryz.prog 9 #[.agg #[.string (⟨#[80, 79, 83, 84]⟩ : ByteArray), .string (⟨#[]⟩ : ByteArray), .slice none 0 0, .slice none 0 0], .agg #[.int .i64 200, .slice (some ⟨w.heap.size + 1, 0, none⟩) 1 1, .slice none 0 0]] W fun e w' => e = .returned (.bool false) ∧ Below W.heap.size W w' :=
  policy_Storable.calls 100 (⟨#[80, 79, 83, 84]⟩ : ByteArray) (⟨#[]⟩ : ByteArray) none 0 ([] : List S51) none 0 ([] : List Int) 200 (some ⟨w.heap.size + 1, 0, none⟩) 1 ccF none 0 ([] : List Int) false _ (Kd.C_nil _ _) (Nat.le_refl _) (Kd.C_nil _ _) (Nat.le_refl _) hO.cc (Nat.le_refl _) (Kd.C_nil _ _) (Nat.le_refl _) (GL.below HG hO.2) st2
theorem lf1c {w W : World} {n1 : Nat} (hO : AwI w n1 W) (HG : GL w) : Calls Tryz.prog 11 #[.agg #[.int .i64 200, .slice (some ⟨w.heap.size + 1, 0, none⟩) 1 1, .slice none 0 0], .int .i64 0] W fun e w' => e = .returned (.int .i64 10) ∧ Below W.heap.size W w' :=
  policy_Lifetime.calls 100 200 (some ⟨w.heap.size + 1, 0, none⟩) 1 ccF none 0 ([] : List Int) 0 10 _ hO.cc (Nat.le_refl _) (Kd.C_nil _ _) (Nat.le_refl _) (GL.below HG hO.2) lf1
set_option maxHeartbeats 8000000 in
set_option maxRecDepth 100000 in
theorem awake14.calls (w : World) (HG0 : GL w) : Calls Tryz.prog 7 #[] w fun e w' => e = .returned (.bool true) ∧ Below w.heap.size w w' := by
  have HG := Aside0.mk HG0
  clear HG0
  go_enter Tryz.func7, Tryz.ntmps7
  go_wp2_with (first
    | (go_at_call 20; (with_reducible refine (legacy_None.calls false false false false false false false false (-1) (-1) (-1) (-1) (-1) _ rfl).mono ?_); rintro e w1 ⟨rfl, hb⟩; have hO := Aside0.mk (AwI.start hb); clear hb; obtain ⟨f0, f1, f2, f3, f4, f5, f6, f7, f8, f9, f10, f11, f12, f13, f14, f15, f16, f17, f18, f19, f20, f21, f22, f23, f24, f25, f26, f27, f28, f29, f30, f31, f32, f33, f34, f35, f36, f37, f38, f39, f40, f41, f42, f43, f44, f45⟩ := hO.out.facts)
    | (go_at_call 9; (with_reducible refine (st1c hO.out HG.out).mono ?_); rintro e wn ⟨rfl, hb⟩; replace hO := Aside0.mk (hO.out.below hb); clear hb; obtain ⟨f0, f1, f2, f3, f4, f5, f6, f7, f8, f9, f10, f11, f12, f13, f14, f15, f16, f17, f18, f19, f20, f21, f22, f23, f24, f25, f26, f27, f28, f29, f30, f31, f32, f33, f34, f35, f36, f37, f38, f39, f40, f41, f42, f43, f44, f45⟩ := hO.out.facts)
    | (go_at_call 9; (with_reducible refine (st2c hO.out HG.out).mono ?_); rintro e wn ⟨rfl, hb⟩; replace hO := Aside0.mk (hO.out.below hb); clear hb; obtain ⟨f0, f1, f2, f3, f4, f5, f6, f7, f8, f9, f10, f11, f12, f13, f14, f15, f16, f17, f18, f19, f20, f21, f22, f23, f24, f25, f26, f27, f28, f29, f30, f31, f32, f33, f34, f35, f36, f37, f38, f39, f40, f41, f42, f43, f44, f45⟩ := hO.out.facts)
    | (go_at_call 11; (with_reducible refine (lf1c hO.out HG.out).mono ?_); rintro e wn ⟨rfl, hb⟩; replace hO := Aside0.mk (hO.out.below hb); clear hb; obtain ⟨f0, f1, f2, f3, f4, f5, f6, f7, f8, f9, f10, f11, f12, f13, f14, f15, f16, f17, f18, f19, f20, f21, f22, f23, f24, f25, f26, f27, f28, f29, f30, f31, f32, f33, f34, f35, f36, f37, f38, f39, f40, f41, f42, f43, f44, f45⟩ := hO.out.facts)
    | (go_at_call 13; (with_reducible refine (policy_Judge.calls 5 10 false false false false false false false false (-1) (-1) (-1) (-1) (-1) false false false false false false false false (-1) (-1) (-1) (-1) (-1) 0 _ jd0).mono ?_); rintro e wn ⟨rfl, hb⟩; replace hO := Aside0.mk (hO.out.below hb); clear hb; obtain ⟨f0, f1, f2, f3, f4, f5, f6, f7, f8, f9, f10, f11, f12, f13, f14, f15, f16, f17, f18, f19, f20, f21, f22, f23, f24, f25, f26, f27, f28, f29, f30, f31, f32, f33, f34, f35, f36, f37, f38, f39, f40, f41, f42, f43, f44, f45⟩ := hO.out.facts)
    | (go_at_call 13; (with_reducible refine (policy_Judge.calls 10 10 false false false false false false false false (-1) (-1) (-1) (-1) (-1) false false false false false false false false (-1) (-1) (-1) (-1) (-1) 1 _ jd1).mono ?_); rintro e wn ⟨rfl, hb⟩; replace hO := Aside0.mk (hO.out.below hb); clear hb; obtain ⟨f0, f1, f2, f3, f4, f5, f6, f7, f8, f9, f10, f11, f12, f13, f14, f15, f16, f17, f18, f19, f20, f21, f22, f23, f24, f25, f26, f27, f28, f29, f30, f31, f32, f33, f34, f35, f36, f37, f38, f39, f40, f41, f42, f43, f44, f45⟩ := hO.out.facts)
    | (go_at_call 13; (with_reducible refine (policy_Judge.calls 5 10 false false false false false false false false (-1) (-1) (-1) (-1) (-1) false true false false false false false false (-1) (-1) (-1) (-1) (-1) 2 _ jd2).mono ?_); rintro e wn ⟨rfl, hb⟩; replace hO := Aside0.mk (hO.out.below hb); clear hb; obtain ⟨f0, f1, f2, f3, f4, f5, f6, f7, f8, f9, f10, f11, f12, f13, f14, f15, f16, f17, f18, f19, f20, f21, f22, f23, f24, f25, f26, f27, f28, f29, f30, f31, f32, f33, f34, f35, f36, f37, f38, f39, f40, f41, f42, f43, f44, f45⟩ := hO.out.facts)
    | (go_at_call 13; (with_reducible refine (policy_Judge.calls 5 10 false false false false false false true false (-1) (-1) (-1) (-1) (-1) false true false false false false false false (-1) (-1) (-1) (-1) (-1) 0 _ jd3).mono ?_); rintro e wn ⟨rfl, hb⟩; replace hO := Aside0.mk (hO.out.below hb); clear hb; obtain ⟨f0, f1, f2, f3, f4, f5, f6, f7, f8, f9, f10, f11, f12, f13, f14, f15, f16, f17, f18, f19, f20, f21, f22, f23, f24, f25, f26, f27, f28, f29, f30, f31, f32, f33, f34, f35, f36, f37, f38, f39, f40, f41, f42, f43, f44, f45⟩ := hO.out.facts)
    | (go_at_call 15; (with_reducible refine (policy_OnError.calls 20 10 false false false false false false false false (-1) (-1) (-1) (-1) (-1) true _ oe0).mono ?_); rintro e wn ⟨rfl, hb⟩; replace hO := Aside0.mk (hO.out.below hb); clear hb; obtain ⟨f0, f1, f2, f3, f4, f5, f6, f7, f8, f9, f10, f11, f12, f13, f14, f15, f16, f17, f18, f19, f20, f21, f22, f23, f24, f25, f26, f27, f28, f29, f30, f31, f32, f33, f34, f35, f36, f37, f38, f39, f40, f41, f42, f43, f44, f45⟩ := hO.out.facts)
    | (go_at_call 15; (with_reducible refine (policy_OnError.calls 5 10 false true false false false false false false (-1) (-1) (-1) (-1) (-1) false _ oe1).mono ?_); rintro e wn ⟨rfl, hb⟩; replace hO := Aside0.mk (hO.out.below hb); clear hb; obtain ⟨f0, f1, f2, f3, f4, f5, f6, f7, f8, f9, f10, f11, f12, f13, f14, f15, f16, f17, f18, f19, f20, f21, f22, f23, f24, f25, f26, f27, f28, f29, f30, f31, f32, f33, f34, f35, f36, f37, f38, f39, f40, f41, f42, f43, f44, f45⟩ := hO.out.facts))
  go_ret
  exact ⟨rfl, hO.out.2⟩
end Go.Proofs.YtebfpnbnoinhbaaGreatDoor.Q
namespace Go.Proofs.YtebfpnbnoinhbaaGreatDoor.Q
open Go.RowKit Go.Proofs.YtebfpnbnoinhbaaGreatDoorW.PrintWords Go.Proofs.YtebfpnbnoinhbaaGreatDoorW.PrintLast Go.Proofs.YtebfpnbnoinhbaaGreatDoorW.PrintMore
set_option linter.unusedVariables false
set_option linter.unusedSimpArgs false
def PjI (w : World) (n1 : Nat) (a2_0 : Bool) (a2_1 : Bool) (a2_2 : Bool) (a2_3 : Bool) (a2_4 : Bool) (a2_5 : Bool) (a2_6 : Bool) (a2_7 : Bool) (a2_8 : Int) (a2_9 : Int) (a2_10 : Int) (a2_11 : Int) (a2_12 : Int) (a3_0 : Bool) (a3_1 : Bool) (a3_2 : Bool) (a3_3 : Bool) (a3_4 : Bool) (a3_5 : Bool) (a3_6 : Bool) (a3_7 : Bool) (a3_8 : Int) (a3_9 : Int) (a3_10 : Int) (a3_11 : Int) (a3_12 : Int) (W : World) : Prop := Kps w [(w.heap.size, .cells #[.bool a2_0, .bool a2_1, .bool a2_2, .bool a2_3, .bool a2_4, .bool a2_5, .bool a2_6, .bool a2_7, .int .i64 a2_8, .int .i64 a2_9, .int .i64 a2_10, .int .i64 a2_11, .int .i64 a2_12, .bool a3_0, .bool a3_1, .bool a3_2, .bool a3_3, .bool a3_4, .bool a3_5, .bool a3_6, .bool a3_7, .int .i64 a3_8, .int .i64 a3_9, .int .i64 a3_10, .int .i64 a3_11, .int .i64 a3_12] 35 (0, 0)), (n1, .cells #[.bool a2_0, .bool a2_1, .bool a2_2, .bool a2_3, .bool a2_4, .bool a2_5, .bool a2_6, .bool a2_7, .int .i64 a2_8, .int .i64 a2_9, .int .i64 a2_10, .int .i64 a2_11, .int .i64 a2_12] 36 (0, 0)), (n1 + 1, .cells #[.bool a3_0, .bool a3_1, .bool a3_2, .bool a3_3, .bool a3_4, .bool a3_5, .bool a3_6, .bool a3_7, .int .i64 a3_8, .int .i64 a3_9, .int .i64 a3_10, .int .i64 a3_11, .int .i64 a3_12] 36 (0, 0))] W
def PjF (w : World) (n1 : Nat) (a2_0 : Bool) (a2_1 : Bool) (a2_2 : Bool) (a2_3 : Bool) (a2_4 : Bool) (a2_5 : Bool) (a2_6 : Bool) (a2_7 : Bool) (a2_8 : Int) (a2_9 : Int) (a2_10 : Int) (a2_11 : Int) (a2_12 : Int) (a3_0 : Bool) (a3_1 : Bool) (a3_2 : Bool) (a3_3 : Bool) (a3_4 : Bool) (a3_5 : Bool) (a3_6 : Bool) (a3_7 : Bool) (a3_8 : Int) (a3_9 : Int) (a3_10 : Int) (a3_11 : Int) (a3_12 : Int) (W : World) : Prop := W.cell? ⟨w.heap.size, 0, none⟩ = some (.bool a2_0) ∧ W.cell? ⟨w.heap.size, 1, none⟩ = some (.bool a2_1) ∧ W.cell? ⟨w.heap.size, 2, none⟩ = some (.bool a2_2) ∧ W.cell? ⟨w.heap.size, 3, none⟩ = some (.bool a2_3) ∧ W.cell? ⟨w.heap.size, 4, none⟩ = some (.bool a2_4) ∧ W.cell? ⟨w.heap.size, 5, none⟩ = some (.bool a2_5) ∧ W.cell? ⟨w.heap.size, 6, none⟩ = some (.bool a2_6) ∧ W.cell? ⟨w.heap.size, 7, none⟩ = some (.bool a2_7) ∧ W.cell? ⟨w.heap.size, 8, none⟩ = some (.int .i64 a2_8) ∧ W.cell? ⟨w.heap.size, 9, none⟩ = some (.int .i64 a2_9) ∧ W.cell? ⟨w.heap.size, 10, none⟩ = some (.int .i64 a2_10) ∧ W.cell? ⟨w.heap.size, 11, none⟩ = some (.int .i64 a2_11) ∧ W.cell? ⟨w.heap.size, 12, none⟩ = some (.int .i64 a2_12) ∧ W.cell? ⟨w.heap.size, 13, none⟩ = some (.bool a3_0) ∧ W.cell? ⟨w.heap.size, 14, none⟩ = some (.bool a3_1) ∧ W.cell? ⟨w.heap.size, 15, none⟩ = some (.bool a3_2) ∧ W.cell? ⟨w.heap.size, 16, none⟩ = some (.bool a3_3) ∧ W.cell? ⟨w.heap.size, 17, none⟩ = some (.bool a3_4) ∧ W.cell? ⟨w.heap.size, 18, none⟩ = some (.bool a3_5) ∧ W.cell? ⟨w.heap.size, 19, none⟩ = some (.bool a3_6) ∧ W.cell? ⟨w.heap.size, 20, none⟩ = some (.bool a3_7) ∧ W.cell? ⟨w.heap.size, 21, none⟩ = some (.int .i64 a3_8) ∧ W.cell? ⟨w.heap.size, 22, none⟩ = some (.int .i64 a3_9) ∧ W.cell? ⟨w.heap.size, 23, none⟩ = some (.int .i64 a3_10) ∧ W.cell? ⟨w.heap.size, 24, none⟩ = some (.int .i64 a3_11) ∧ W.cell? ⟨w.heap.size, 25, none⟩ = some (.int .i64 a3_12) ∧ W.cell? ⟨n1, 0, none⟩ = some (.bool a2_0) ∧ W.cell? ⟨n1, 1, none⟩ = some (.bool a2_1) ∧ W.cell? ⟨n1, 2, none⟩ = some (.bool a2_2) ∧ W.cell? ⟨n1, 3, none⟩ = some (.bool a2_3) ∧ W.cell? ⟨n1, 4, none⟩ = some (.bool a2_4) ∧ W.cell? ⟨n1, 5, none⟩ = some (.bool a2_5) ∧ W.cell? ⟨n1, 6, none⟩ = some (.bool a2_6) ∧ W.cell? ⟨n1, 7, none⟩ = some (.bool a2_7) ∧ W.cell? ⟨n1, 8, none⟩ = some (.int .i64 a2_8) ∧ W.cell? ⟨n1, 9, none⟩ = some (.int .i64 a2_9) ∧ W.cell? ⟨n1, 10, none⟩ = some (.int .i64 a2_10) ∧ W.cell? ⟨n1, 11, none⟩ = some (.int .i64 a2_11) ∧ W.cell? ⟨n1, 12, none⟩ = some (.int .i64 a2_12) ∧ W.cell? ⟨n1 + 1, 0, none⟩ = some (.bool a3_0) ∧ W.cell? ⟨n1 + 1, 1, none⟩ = some (.bool a3_1) ∧ W.cell? ⟨n1 + 1, 2, none⟩ = some (.bool a3_2) ∧ W.cell? ⟨n1 + 1, 3, none⟩ = some (.bool a3_3) ∧ W.cell? ⟨n1 + 1, 4, none⟩ = some (.bool a3_4) ∧ W.cell? ⟨n1 + 1, 5, none⟩ = some (.bool a3_5) ∧ W.cell? ⟨n1 + 1, 6, none⟩ = some (.bool a3_6) ∧ W.cell? ⟨n1 + 1, 7, none⟩ = some (.bool a3_7) ∧ W.cell? ⟨n1 + 1, 8, none⟩ = some (.int .i64 a3_8) ∧ W.cell? ⟨n1 + 1, 9, none⟩ = some (.int .i64 a3_9) ∧ W.cell? ⟨n1 + 1, 10, none⟩ = some (.int .i64 a3_10) ∧ W.cell? ⟨n1 + 1, 11, none⟩ = some (.int .i64 a3_11) ∧ W.cell? ⟨n1 + 1, 12, none⟩ = some (.int .i64 a3_12)
theorem PjI.facts {w W : World} {n1 : Nat} {a2_0 : Bool} {a2_1 : Bool} {a2_2 : Bool} {a2_3 : Bool} {a2_4 : Bool} {a2_5 : Bool} {a2_6 : Bool} {a2_7 : Bool} {a2_8 : Int} {a2_9 : Int} {a2_10 : Int} {a2_11 : Int} {a2_12 : Int} {a3_0 : Bool} {a3_1 : Bool} {a3_2 : Bool} {a3_3 : Bool} {a3_4 : Bool} {a3_5 : Bool} {a3_6 : Bool} {a3_7 : Bool} {a3_8 : Int} {a3_9 : Int} {a3_10 : Int} {a3_11 : Int} {a3_12 : Int} (h : PjI w n1 a2_0 a2_1 a2_2 a2_3 a2_4 a2_5 a2_6 a2_7 a2_8 a2_9 a2_10 a2_11 a2_12 a3_0 a3_1 a3_2 a3_3 a3_4 a3_5 a3_6 a3_7 a3_8 a3_9 a3_10 a3_11 a3_12 W) : PjF w n1 a2_0 a2_1 a2_2 a2_3 a2_4 a2_5 a2_6 a2_7 a2_8 a2_9 a2_10 a2_11 a2_12 a3_0 a3_1 a3_2 a3_3 a3_4 a3_5 a3_6 a3_7 a3_8 a3_9 a3_10 a3_11 a3_12 W := by
  have b0 := h.1 _ (List.mem_cons_self ..)
  have b1 := h.1 _ (List.mem_cons_of_mem _ (List.mem_cons_self ..))
  have b2 := h.1 _ (List.mem_cons_of_mem _ (List.mem_cons_of_mem _ (List.mem_cons_self ..)))
  exact ⟨(blk_cell b0 0).trans rfl, (blk_cell b0 1).trans rfl, (blk_cell b0 2).trans rfl, (blk_cell b0 3).trans rfl, (blk_cell b0 4).trans rfl, (blk_cell b0 5).trans rfl, (blk_cell b0 6).trans rfl, (blk_cell b0 7).trans rfl, (blk_cell b0 8).trans rfl, (blk_cell b0 9).trans rfl, (blk_cell b0 10).trans rfl, (blk_cell b0 11).trans rfl, (blk_cell b0 12).trans rfl, (blk_cell b0 13).trans rfl, (blk_cell b0 14).trans rfl, (blk_cell b0 15).trans rfl, (blk_cell b0 16).trans rfl, (blk_cell b0 17).trans rfl, (blk_cell b0 18).trans rfl, (blk_cell b0 19).trans rfl, (blk_cell b0 20).trans rfl, (blk_cell b0 21).trans rfl, (blk_cell b0 22).trans rfl, (blk_cell b0 23).trans rfl, (blk_cell b0 24).trans rfl, (blk_cell b0 25).trans rfl, (blk_cell b1 0).trans rfl, (blk_cell b1 1).trans rfl, (blk_cell b1 2).trans rfl, (blk_cell b1 3).trans rfl, (blk_cell b1 4).trans rfl, (blk_cell b1 5).trans rfl, (blk_cell b1 6).trans rfl, (blk_cell b1 7).trans rfl, (blk_cell b1 8).trans rfl, (blk_cell b1 9).trans rfl, (blk_cell b1 10).trans rfl, (blk_cell b1 11).trans rfl, (blk_cell b1 12).trans rfl, (blk_cell b2 0).trans rfl, (blk_cell b2 1).trans rfl, (blk_cell b2 2).trans rfl, (blk_cell b2 3).trans rfl, (blk_cell b2 4).trans rfl, (blk_cell b2 5).trans rfl, (blk_cell b2 6).trans rfl, (blk_cell b2 7).trans rfl, (blk_cell b2 8).trans rfl, (blk_cell b2 9).trans rfl, (blk_cell b2 10).trans rfl, (blk_cell b2 11).trans rfl, (blk_cell b2 12).trans rfl⟩
theorem PjI.start {w w1 : World} {a2_0 : Bool} {a2_1 : Bool} {a2_2 : Bool} {a2_3 : Bool} {a2_4 : Bool} {a2_5 : Bool} {a2_6 : Bool} {a2_7 : Bool} {a2_8 : Int} {a2_9 : Int} {a2_10 : Int} {a2_11 : Int} {a2_12 : Int} {a3_0 : Bool} {a3_1 : Bool} {a3_2 : Bool} {a3_3 : Bool} {a3_4 : Bool} {a3_5 : Bool} {a3_6 : Bool} {a3_7 : Bool} {a3_8 : Int} {a3_9 : Int} {a3_10 : Int} {a3_11 : Int} {a3_12 : Int} (hb : Below (w.alloc (.cells #[.bool a2_0, .bool a2_1, .bool a2_2, .bool a2_3, .bool a2_4, .bool a2_5, .bool a2_6, .bool a2_7, .int .i64 a2_8, .int .i64 a2_9, .int .i64 a2_10, .int .i64 a2_11, .int .i64 a2_12, .bool a3_0, .bool a3_1, .bool a3_2, .bool a3_3, .bool a3_4, .bool a3_5, .bool a3_6, .bool a3_7, .int .i64 a3_8, .int .i64 a3_9, .int .i64 a3_10, .int .i64 a3_11, .int .i64 a3_12] 35 (0, 0))).heap.size (w.alloc (.cells #[.bool a2_0, .bool a2_1, .bool a2_2, .bool a2_3, .bool a2_4, .bool a2_5, .bool a2_6, .bool a2_7, .int .i64 a2_8, .int .i64 a2_9, .int .i64 a2_10, .int .i64 a2_11, .int .i64 a2_12, .bool a3_0, .bool a3_1, .bool a3_2, .bool a3_3, .bool a3_4, .bool a3_5, .bool a3_6, .bool a3_7, .int .i64 a3_8, .int .i64 a3_9, .int .i64 a3_10, .int .i64 a3_11, .int .i64 a3_12] 35 (0, 0))) w1) : PjI w w1.heap.size a2_0 a2_1 a2_2 a2_3 a2_4 a2_5 a2_6 a2_7 a2_8 a2_9 a2_10 a2_11 a2_12 a3_0 a3_1 a3_2 a3_3 a3_4 a3_5 a3_6 a3_7 a3_8 a3_9 a3_10 a3_11 a3_12 ((w1.alloc (.cells #[.bool a2_0, .bool a2_1, .bool a2_2, .bool a2_3, .bool a2_4, .bool a2_5, .bool a2_6, .bool a2_7, .int .i64 a2_8, .int .i64 a2_9, .int .i64 a2_10, .int .i64 a2_11, .int .i64 a2_12] 36 (0, 0))).alloc (.cells #[.bool a3_0, .bool a3_1, .bool a3_2, .bool a3_3, .bool a3_4, .bool a3_5, .bool a3_6, .bool a3_7, .int .i64 a3_8, .int .i64 a3_9, .int .i64 a3_10, .int .i64 a3_11, .int .i64 a3_12] 36 (0, 0))) := by
  have hB0 : Below w.heap.size w (w.alloc (.cells #[.bool a2_0, .bool a2_1, .bool a2_2, .bool a2_3, .bool a2_4, .bool a2_5, .bool a2_6, .bool a2_7, .int .i64 a2_8, .int .i64 a2_9, .int .i64 a2_10, .int .i64 a2_11, .int .i64 a2_12, .bool a3_0, .bool a3_1, .bool a3_2, .bool a3_3, .bool a3_4, .bool a3_5, .bool a3_6, .bool a3_7, .int .i64 a3_8, .int .i64 a3_9, .int .i64 a3_10, .int .i64 a3_11, .int .i64 a3_12] 35 (0, 0))) := (Below.refl _ w).alloc (Nat.le_refl _) _
  have hB1 : Below w.heap.size w w1 := below_then hB0 hB0.size hb
  have hs := hB1.size
  refine ⟨fun p hp => ?_, (hB1.alloc hs _).alloc (by simp; omega) _⟩
  simp only [List.mem_cons, List.not_mem_nil, or_false] at hp
  rcases hp with rfl | rfl | rfl
  · refine heap_old3 _ (heap_old3 _ ?_)
    rw [hb.block _ (by simp)]
    exact heap_alloc_new w _
  · exact heap_old3 _ (heap_alloc_new w1 _)
  · have h := heap_alloc_new (w1.alloc (.cells #[.bool a2_0, .bool a2_1, .bool a2_2, .bool a2_3, .bool a2_4, .bool a2_5, .bool a2_6, .bool a2_7, .int .i64 a2_8, .int .i64 a2_9, .int .i64 a2_10, .int .i64 a2_11, .int .i64 a2_12] 36 (0, 0))) (.cells #[.bool a3_0, .bool a3_1, .bool a3_2, .bool a3_3, .bool a3_4, .bool a3_5, .bool a3_6, .bool a3_7, .int .i64 a3_8, .int .i64 a3_9, .int .i64 a3_10, .int .i64 a3_11, .int .i64 a3_12] 36 (0, 0))
    rw [World.size_alloc] at h
    exact h
theorem PjI.cells0 {w w1 : World} {a2_0 : Bool} {a2_1 : Bool} {a2_2 : Bool} {a2_3 : Bool} {a2_4 : Bool} {a2_5 : Bool} {a2_6 : Bool} {a2_7 : Bool} {a2_8 : Int} {a2_9 : Int} {a2_10 : Int} {a2_11 : Int} {a2_12 : Int} {a3_0 : Bool} {a3_1 : Bool} {a3_2 : Bool} {a3_3 : Bool} {a3_4 : Bool} {a3_5 : Bool} {a3_6 : Bool} {a3_7 : Bool} {a3_8 : Int} {a3_9 : Int} {a3_10 : Int} {a3_11 : Int} {a3_12 : Int} (hb : Below (w.alloc (.cells #[.bool a2_0, .bool a2_1, .bool a2_2, .bool a2_3, .bool a2_4, .bool a2_5, .bool a2_6, .bool a2_7, .int .i64 a2_8, .int .i64 a2_9, .int .i64 a2_10, .int .i64 a2_11, .int .i64 a2_12, .bool a3_0, .bool a3_1, .bool a3_2, .bool a3_3, .bool a3_4, .bool a3_5, .bool a3_6, .bool a3_7, .int .i64 a3_8, .int .i64 a3_9, .int .i64 a3_10, .int .i64 a3_11, .int .i64 a3_12] 35 (0, 0))).heap.size (w.alloc (.cells #[.bool a2_0, .bool a2_1, .bool a2_2, .bool a2_3, .bool a2_4, .bool a2_5, .bool a2_6, .bool a2_7, .int .i64 a2_8, .int .i64 a2_9, .int .i64 a2_10, .int .i64 a2_11, .int .i64 a2_12, .bool a3_0, .bool a3_1, .bool a3_2, .bool a3_3, .bool a3_4, .bool a3_5, .bool a3_6, .bool a3_7, .int .i64 a3_8, .int .i64 a3_9, .int .i64 a3_10, .int .i64 a3_11, .int .i64 a3_12] 35 (0, 0))) w1) : w1.cell? ⟨w.heap.size, 0, none⟩ = some (.bool a2_0) ∧ w1.cell? ⟨w.heap.size, 1, none⟩ = some (.bool a2_1) ∧ w1.cell? ⟨w.heap.size, 2, none⟩ = some (.bool a2_2) ∧ w1.cell? ⟨w.heap.size, 3, none⟩ = some (.bool a2_3) ∧ w1.cell? ⟨w.heap.size, 4, none⟩ = some (.bool a2_4) ∧ w1.cell? ⟨w.heap.size, 5, none⟩ = some (.bool a2_5) ∧ w1.cell? ⟨w.heap.size, 6, none⟩ = some (.bool a2_6) ∧ w1.cell? ⟨w.heap.size, 7, none⟩ = some (.bool a2_7) ∧ w1.cell? ⟨w.heap.size, 8, none⟩ = some (.int .i64 a2_8) ∧ w1.cell? ⟨w.heap.size, 9, none⟩ = some (.int .i64 a2_9) ∧ w1.cell? ⟨w.heap.size, 10, none⟩ = some (.int .i64 a2_10) ∧ w1.cell? ⟨w.heap.size, 11, none⟩ = some (.int .i64 a2_11) ∧ w1.cell? ⟨w.heap.size, 12, none⟩ = some (.int .i64 a2_12) ∧ w1.cell? ⟨w.heap.size, 13, none⟩ = some (.bool a3_0) ∧ w1.cell? ⟨w.heap.size, 14, none⟩ = some (.bool a3_1) ∧ w1.cell? ⟨w.heap.size, 15, none⟩ = some (.bool a3_2) ∧ w1.cell? ⟨w.heap.size, 16, none⟩ = some (.bool a3_3) ∧ w1.cell? ⟨w.heap.size, 17, none⟩ = some (.bool a3_4) ∧ w1.cell? ⟨w.heap.size, 18, none⟩ = some (.bool a3_5) ∧ w1.cell? ⟨w.heap.size, 19, none⟩ = some (.bool a3_6) ∧ w1.cell? ⟨w.heap.size, 20, none⟩ = some (.bool a3_7) ∧ w1.cell? ⟨w.heap.size, 21, none⟩ = some (.int .i64 a3_8) ∧ w1.cell? ⟨w.heap.size, 22, none⟩ = some (.int .i64 a3_9) ∧ w1.cell? ⟨w.heap.size, 23, none⟩ = some (.int .i64 a3_10) ∧ w1.cell? ⟨w.heap.size, 24, none⟩ = some (.int .i64 a3_11) ∧ w1.cell? ⟨w.heap.size, 25, none⟩ = some (.int .i64 a3_12) := by
  have h : w1.heap[w.heap.size]? = _ := (hb.block _ (by simp)).trans (heap_alloc_new w _)
  exact ⟨(blk_cell h 0).trans rfl, (blk_cell h 1).trans rfl, (blk_cell h 2).trans rfl, (blk_cell h 3).trans rfl, (blk_cell h 4).trans rfl, (blk_cell h 5).trans rfl, (blk_cell h 6).trans rfl, (blk_cell h 7).trans rfl, (blk_cell h 8).trans rfl, (blk_cell h 9).trans rfl, (blk_cell h 10).trans rfl, (blk_cell h 11).trans rfl, (blk_cell h 12).trans rfl, (blk_cell h 13).trans rfl, (blk_cell h 14).trans rfl, (blk_cell h 15).trans rfl, (blk_cell h 16).trans rfl, (blk_cell h 17).trans rfl, (blk_cell h 18).trans rfl, (blk_cell h 19).trans rfl, (blk_cell h 20).trans rfl, (blk_cell h 21).trans rfl, (blk_cell h 22).trans rfl, (blk_cell h 23).trans rfl, (blk_cell h 24).trans rfl, (blk_cell h 25).trans rfl⟩
theorem PjI.cells1 {w w1 : World} {a2_0 : Bool} {a2_1 : Bool} {a2_2 : Bool} {a2_3 : Bool} {a2_4 : Bool} {a2_5 : Bool} {a2_6 : Bool} {a2_7 : Bool} {a2_8 : Int} {a2_9 : Int} {a2_10 : Int} {a2_11 : Int} {a2_12 : Int} {a3_0 : Bool} {a3_1 : Bool} {a3_2 : Bool} {a3_3 : Bool} {a3_4 : Bool} {a3_5 : Bool} {a3_6 : Bool} {a3_7 : Bool} {a3_8 : Int} {a3_9 : Int} {a3_10 : Int} {a3_11 : Int} {a3_12 : Int} (hb : Below (w.alloc (.cells #[.bool a2_0, .bool a2_1, .bool a2_2, .bool a2_3, .bool a2_4, .bool a2_5, .bool a2_6, .bool a2_7, .int .i64 a2_8, .int .i64 a2_9, .int .i64 a2_10, .int .i64 a2_11, .int .i64 a2_12, .bool a3_0, .bool a3_1, .bool a3_2, .bool a3_3, .bool a3_4, .bool a3_5, .bool a3_6, .bool a3_7, .int .i64 a3_8, .int .i64 a3_9, .int .i64 a3_10, .int .i64 a3_11, .int .i64 a3_12] 35 (0, 0))).heap.size (w.alloc (.cells #[.bool a2_0, .bool a2_1, .bool a2_2, .bool a2_3, .bool a2_4, .bool a2_5, .bool a2_6, .bool a2_7, .int .i64 a2_8, .int .i64 a2_9, .int .i64 a2_10, .int .i64 a2_11, .int .i64 a2_12, .bool a3_0, .bool a3_1, .bool a3_2, .bool a3_3, .bool a3_4, .bool a3_5, .bool a3_6, .bool a3_7, .int .i64 a3_8, .int .i64 a3_9, .int .i64 a3_10, .int .i64 a3_11, .int .i64 a3_12] 35 (0, 0))) w1) : (w1.alloc (.cells #[.bool a2_0, .bool a2_1, .bool a2_2, .bool a2_3, .bool a2_4, .bool a2_5, .bool a2_6, .bool a2_7, .int .i64 a2_8, .int .i64 a2_9, .int .i64 a2_10, .int .i64 a2_11, .int .i64 a2_12] 36 (0, 0))).cell? ⟨w.heap.size, 13, none⟩ = some (.bool a3_0) ∧ (w1.alloc (.cells #[.bool a2_0, .bool a2_1, .bool a2_2, .bool a2_3, .bool a2_4, .bool a2_5, .bool a2_6, .bool a2_7, .int .i64 a2_8, .int .i64 a2_9, .int .i64 a2_10, .int .i64 a2_11, .int .i64 a2_12] 36 (0, 0))).cell? ⟨w.heap.size, 14, none⟩ = some (.bool a3_1) ∧ (w1.alloc (.cells #[.bool a2_0, .bool a2_1, .bool a2_2, .bool a2_3, .bool a2_4, .bool a2_5, .bool a2_6, .bool a2_7, .int .i64 a2_8, .int .i64 a2_9, .int .i64 a2_10, .int .i64 a2_11, .int .i64 a2_12] 36 (0, 0))).cell? ⟨w.heap.size, 15, none⟩ = some (.bool a3_2) ∧ (w1.alloc (.cells #[.bool a2_0, .bool a2_1, .bool a2_2, .bool a2_3, .bool a2_4, .bool a2_5, .bool a2_6, .bool a2_7, .int .i64 a2_8, .int .i64 a2_9, .int .i64 a2_10, .int .i64 a2_11, .int .i64 a2_12] 36 (0, 0))).cell? ⟨w.heap.size, 16, none⟩ = some (.bool a3_3) ∧ (w1.alloc (.cells #[.bool a2_0, .bool a2_1, .bool a2_2, .bool a2_3, .bool a2_4, .bool a2_5, .bool a2_6, .bool a2_7, .int .i64 a2_8, .int .i64 a2_9, .int .i64 a2_10, .int .i64 a2_11, .int .i64 a2_12] 36 (0, 0))).cell? ⟨w.heap.size, 17, none⟩ = some (.bool a3_4) ∧ (w1.alloc (.cells #[.bool a2_0, .bool a2_1, .bool a2_2, .bool a2_3, .bool a2_4, .bool a2_5, .bool a2_6, .bool a2_7, .int .i64 a2_8, .int .i64 a2_9, .int .i64 a2_10, .int .i64 a2_11, .int .i64 a2_12] 36 (0, 0))).cell? ⟨w.heap.size, 18, none⟩ = some (.bool a3_5) ∧ (w1.alloc (.cells #[.bool a2_0, .bool a2_1, .bool a2_2, .bool a2_3, .bool a2_4, .bool a2_5, .bool a2_6, .bool a2_7, .int .i64 a2_8, .int .i64 a2_9, .int .i64 a2_10, .int .i64 a2_11, .int .i64 a2_12] 36 (0, 0))).cell? ⟨w.heap.size, 19, none⟩ = some (.bool a3_6) ∧ (w1.alloc (.cells #[.bool a2_0, .bool a2_1, .bool a2_2, .bool a2_3, .bool a2_4, .bool a2_5, .bool a2_6, .bool a2_7, .int .i64 a2_8, .int .i64 a2_9, .int .i64 a2_10, .int .i64 a2_11, .int .i64 a2_12] 36 (0, 0))).cell? ⟨w.heap.size, 20, none⟩ = some (.bool a3_7) ∧ (w1.alloc (.cells #[.bool a2_0, .bool a2_1, .bool a2_2, .bool a2_3, .bool a2_4, .bool a2_5, .bool a2_6, .bool a2_7, .int .i64 a2_8, .int .i64 a2_9, .int .i64 a2_10, .int .i64 a2_11, .int .i64 a2_12] 36 (0, 0))).cell? ⟨w.heap.size, 21, none⟩ = some (.int .i64 a3_8) ∧ (w1.alloc (.cells #[.bool a2_0, .bool a2_1, .bool a2_2, .bool a2_3, .bool a2_4, .bool a2_5, .bool a2_6, .bool a2_7, .int .i64 a2_8, .int .i64 a2_9, .int .i64 a2_10, .int .i64 a2_11, .int .i64 a2_12] 36 (0, 0))).cell? ⟨w.heap.size, 22, none⟩ = some (.int .i64 a3_9) ∧ (w1.alloc (.cells #[.bool a2_0, .bool a2_1, .bool a2_2, .bool a2_3, .bool a2_4, .bool a2_5, .bool a2_6, .bool a2_7, .int .i64 a2_8, .int .i64 a2_9, .int .i64 a2_10, .int .i64 a2_11, .int .i64 a2_12] 36 (0, 0))).cell? ⟨w.heap.size, 23, none⟩ = some (.int .i64 a3_10) ∧ (w1.alloc (.cells #[.bool a2_0, .bool a2_1, .bool a2_2, .bool a2_3, .bool a2_4, .bool a2_5, .bool a2_6, .bool a2_7, .int .i64 a2_8, .int .i64 a2_9, .int .i64 a2_10, .int .i64 a2_11, .int .i64 a2_12] 36 (0, 0))).cell? ⟨w.heap.size, 24, none⟩ = some (.int .i64 a3_11) ∧ (w1.alloc (.cells #[.bool a2_0, .bool a2_1, .bool a2_2, .bool a2_3, .bool a2_4, .bool a2_5, .bool a2_6, .bool a2_7, .int .i64 a2_8, .int .i64 a2_9, .int .i64 a2_10, .int .i64 a2_11, .int .i64 a2_12] 36 (0, 0))).cell? ⟨w.heap.size, 25, none⟩ = some (.int .i64 a3_12) := by
  have h : (w1.alloc (.cells #[.bool a2_0, .bool a2_1, .bool a2_2, .bool a2_3, .bool a2_4, .bool a2_5, .bool a2_6, .bool a2_7, .int .i64 a2_8, .int .i64 a2_9, .int .i64 a2_10, .int .i64 a2_11, .int .i64 a2_12] 36 (0, 0))).heap[w.heap.size]? = _ := heap_old3 _ ((hb.block _ (by simp)).trans (heap_alloc_new w _))
  exact ⟨(blk_cell h 13).trans rfl, (blk_cell h 14).trans rfl, (blk_cell h 15).trans rfl, (blk_cell h 16).trans rfl, (blk_cell h 17).trans rfl, (blk_cell h 18).trans rfl, (blk_cell h 19).trans rfl, (blk_cell h 20).trans rfl, (blk_cell h 21).trans rfl, (blk_cell h 22).trans rfl, (blk_cell h 23).trans rfl, (blk_cell h 24).trans rfl, (blk_cell h 25).trans rfl⟩
def polJudges.T6 : Bool × List (List Nat × List Nat) := (true, [([], []), ([0], [0]), ([1], [1]), ([1], [1]), ([1], [1]), ([4, 1], [1, 4]), ([1], [1]), ([6, 1], [1, 6]), ([2, 3, 5, 7, 1, 1], [1, 2, 3, 5, 7]), ([1], [1]), ([1], [1]), ([1], [1]), ([1], [1]), ([9, 10, 11, 12, 8, 1], [1, 9, 10, 11, 12]), ([8, 13, 1], [1, 8, 13]), ([1, 14], [1, 14]), ([15, 13], [15]), ([16], [16]), ([16], [16]), ([16], [16]), ([19, 16], [16, 19]), ([17, 18, 20, 16, 16], [16, 17, 18, 20]), ([16], [16]), ([16], [16]), ([16], [16]), ([22, 23, 24, 21, 16], [16, 22, 23, 24]), ([21, 25, 16], [16, 21, 25]), ([16, 26], [16, 26]), ([27, 25, 0, 1, 2, 3, 4, 5, 6, 7, 8, 9, 10, 11, 12, 13, 14, 15, 16, 17, 18, 19, 20, 21, 22, 23, 24, 25, 26, 27], [27])])
def polJudges.B6 : List Nat := [0, 1, 3, 3, 3, 19, 3, 67, 255, 3, 3, 3, 3, 8191, 16383, 32767, 65535, 131071, 131071, 131071, 655359, 2097151, 131071, 131071, 131071, 33554431, 67108863, 134217727, 268435455]
theorem polJudges.tab6 : rtab .any (opsOf Tryz.f4 6) = polJudges.T6 := by kernel_rfl
theorem polJudges.bits6 : waitsOk polJudges.T6.2 polJudges.B6 = true := by kernel_rfl
set_option maxHeartbeats 16000000 in
set_option maxRecDepth 100000 in
theorem policyJudges.calls (a0 a1 : Int) (a2_0 : Bool) (a2_1 : Bool) (a2_2 : Bool) (a2_3 : Bool) (a2_4 : Bool) (a2_5 : Bool) (a2_6 : Bool) (a2_7 : Bool) (a2_8 : Int) (a2_9 : Int) (a2_10 : Int) (a2_11 : Int) (a2_12 : Int) (a3_0 : Bool) (a3_1 : Bool) (a3_2 : Bool) (a3_3 : Bool) (a3_4 : Bool) (a3_5 : Bool) (a3_6 : Bool) (a3_7 : Bool) (a3_8 : Int) (a3_9 : Int) (a3_10 : Int) (a3_11 : Int) (a3_12 : Int) (w : World) (HG0 : GL w) : Calls Tryz.prog 4 #[.int .i64 a0, .int .i64 a1, .agg #[.bool a2_0, .bool a2_1, .bool a2_2, .bool a2_3, .bool a2_4, .bool a2_5, .bool a2_6, .bool a2_7, .int .i64 a2_8, .int .i64 a2_9, .int .i64 a2_10, .int .i64 a2_11, .int .i64 a2_12, .bool a3_0, .bool a3_1, .bool a3_2, .bool a3_3, .bool a3_4, .bool a3_5, .bool a3_6, .bool a3_7, .int .i64 a3_8, .int .i64 a3_9, .int .i64 a3_10, .int .i64 a3_11, .int .i64 a3_12]] w fun e w' => e = .returned (.bool true) ∧ Below w.heap.size w w' := by
  have HG := Aside0.mk HG0
  clear HG0
  obtain ⟨v, hv1, hv2⟩ := judge_same 0 a0 a1 a2_0 a2_1 a2_2 a2_3 a2_4 a2_5 a2_6 a2_7 a2_8 a2_9 a2_10 a2_11 a2_12 a3_0 a3_1 a3_2 a3_3 a3_4 a3_5 a3_6 a3_7 a3_8 a3_9 a3_10 a3_11 a3_12
  obtain ⟨u, hu1, hu2⟩ := onError_same a0 a1 a2_0 a2_1 a2_2 a2_3 a2_4 a2_5 a2_6 a2_7 a2_8 a2_9 a2_10 a2_11 a2_12
  have V1 := Aside0.mk hv1
  have V2 := Aside0.mk hv2
  have U1 := Aside0.mk hu1
  have U2 := Aside0.mk hu2
  clear hv1 hv2 hu1 hu2
  by_cases h_g1 : a0 < 0
  · have d_g1 : decide (a0 < 0) = true := decide_eq_true h_g1
    go_enter Tryz.func4, Tryz.ntmps4
    go_wp2_with (first | (go_at_call 7; (with_reducible refine (awake14.calls _ (HG.out.below ((Below.refl _ w).alloc (Nat.le_refl _) _))).mono ?_); rintro e w1 ⟨rfl, hb⟩; have hB := Aside0.mk (below_then ((Below.refl w.heap.size w).alloc (Nat.le_refl _) _) (by simp) hb); clear hb))
    go_ret
    exact ⟨rfl, hB.out⟩
  · have d_g1 : decide (a0 < 0) = false := decide_eq_false h_g1
    by_cases h_g2 : a1 < 0
    · have d_g2 : decide (a1 < 0) = true := decide_eq_true h_g2
      go_enter Tryz.func4, Tryz.ntmps4
      go_wp2_with (first | (go_at_call 7; (with_reducible refine (awake14.calls _ (HG.out.below ((Below.refl _ w).alloc (Nat.le_refl _) _))).mono ?_); rintro e w1 ⟨rfl, hb⟩; have hB := Aside0.mk (below_then ((Below.refl w.heap.size w).alloc (Nat.le_refl _) _) (by simp) hb); clear hb))
      go_ret
      exact ⟨rfl, hB.out⟩
    · have d_g2 : decide (a1 < 0) = false := decide_eq_false h_g2
      by_cases h_g3 : 2147483648 < a0
      · have d_g3 : decide (2147483648 < a0) = true := decide_eq_true h_g3
        go_enter Tryz.func4, Tryz.ntmps4
        go_wp2_with (first | (go_at_call 7; (with_reducible refine (awake14.calls _ (HG.out.below ((Below.refl _ w).alloc (Nat.le_refl _) _))).mono ?_); rintro e w1 ⟨rfl, hb⟩; have hB := Aside0.mk (below_then ((Below.refl w.heap.size w).alloc (Nat.le_refl _) _) (by simp) hb); clear hb))
        go_ret
        exact ⟨rfl, hB.out⟩
      · have d_g3 : decide (2147483648 < a0) = false := decide_eq_false h_g3
        by_cases h_g4 : 2147483648 < a1
        · have d_g4 : decide (2147483648 < a1) = true := decide_eq_true h_g4
          go_enter Tryz.func4, Tryz.ntmps4
          go_wp2_with (first | (go_at_call 7; (with_reducible refine (awake14.calls _ (HG.out.below ((Below.refl _ w).alloc (Nat.le_refl _) _))).mono ?_); rintro e w1 ⟨rfl, hb⟩; have hB := Aside0.mk (below_then ((Below.refl w.heap.size w).alloc (Nat.le_refl _) _) (by simp) hb); clear hb))
          go_ret
          exact ⟨rfl, hB.out⟩
        · have d_g4 : decide (2147483648 < a1) = false := decide_eq_false h_g4
          go_enter Tryz.func4, Tryz.ntmps4
          go_wp2_with (first
            | (go_at_call 7; (with_reducible refine (awake14.calls _ (HG.out.below ((Below.refl _ w).alloc (Nat.le_refl _) _))).mono ?_); rintro e w1 ⟨rfl, hb⟩; have hO := Aside0.mk (PjI.start hb); obtain ⟨g0, g1, g2, g3, g4, g5, g6, g7, g8, g9, g10, g11, g12, g13, g14, g15, g16, g17, g18, g19, g20, g21, g22, g23, g24, g25⟩ := PjI.cells0 hb; obtain ⟨m0, m1, m2, m3, m4, m5, m6, m7, m8, m9, m10, m11, m12⟩ := PjI.cells1 hb; clear hb; obtain ⟨f0, f1, f2, f3, f4, f5, f6, f7, f8, f9, f10, f11, f12, f13, f14, f15, f16, f17, f18, f19, f20, f21, f22, f23, f24, f25, f26, f27, f28, f29, f30, f31, f32, f33, f34, f35, f36, f37, f38, f39, f40, f41, f42, f43, f44, f45, f46, f47, f48, f49, f50, f51⟩ := PjI.facts hO.out)
            | (go_at_call 13; (with_reducible refine (policy_Judge.calls a0 a1 a2_0 a2_1 a2_2 a2_3 a2_4 a2_5 a2_6 a2_7 a2_8 a2_9 a2_10 a2_11 a2_12 a3_0 a3_1 a3_2 a3_3 a3_4 a3_5 a3_6 a3_7 a3_8 a3_9 a3_10 a3_11 a3_12 v _ V1.out).mono ?_); rintro e wn ⟨rfl, hb⟩; replace hO := Aside0.mk (Kps.below hO.out hb); clear hb; obtain ⟨f0, f1, f2, f3, f4, f5, f6, f7, f8, f9, f10, f11, f12, f13, f14, f15, f16, f17, f18, f19, f20, f21, f22, f23, f24, f25, f26, f27, f28, f29, f30, f31, f32, f33, f34, f35, f36, f37, f38, f39, f40, f41, f42, f43, f44, f45, f46, f47, f48, f49, f50, f51⟩ := PjI.facts hO.out)
            | (go_at_call 14; (with_reducible refine (sculleryref14_Judge.calls 4 a0 a1 a2_0 a2_1 a2_2 a2_3 a2_4 a2_5 a2_6 a2_7 a2_8 a2_9 a2_10 a2_11 a2_12 a3_0 a3_1 a3_2 a3_3 a3_4 a3_5 a3_6 a3_7 a3_8 a3_9 a3_10 a3_11 a3_12 v _ V2.out).mono ?_); rintro e wn ⟨rfl, hb⟩; replace hO := Aside0.mk (Kps.below hO.out hb); clear hb; obtain ⟨f0, f1, f2, f3, f4, f5, f6, f7, f8, f9, f10, f11, f12, f13, f14, f15, f16, f17, f18, f19, f20, f21, f22, f23, f24, f25, f26, f27, f28, f29, f30, f31, f32, f33, f34, f35, f36, f37, f38, f39, f40, f41, f42, f43, f44, f45, f46, f47, f48, f49, f50, f51⟩ := PjI.facts hO.out)
            | (go_at_call 15; (with_reducible refine (policy_OnError.calls a0 a1 a2_0 a2_1 a2_2 a2_3 a2_4 a2_5 a2_6 a2_7 a2_8 a2_9 a2_10 a2_11 a2_12 u _ U1.out).mono ?_); rintro e wn ⟨rfl, hb⟩; replace hO := Aside0.mk (Kps.below hO.out hb); clear hb; obtain ⟨f0, f1, f2, f3, f4, f5, f6, f7, f8, f9, f10, f11, f12, f13, f14, f15, f16, f17, f18, f19, f20, f21, f22, f23, f24, f25, f26, f27, f28, f29, f30, f31, f32, f33, f34, f35, f36, f37, f38, f39, f40, f41, f42, f43, f44, f45, f46, f47, f48, f49, f50, f51⟩ := PjI.facts hO.out)
            | (go_at_call 16; (with_reducible refine (sculleryref14_OnError.calls a0 a1 a2_0 a2_1 a2_2 a2_3 a2_4 a2_5 a2_6 a2_7 a2_8 a2_9 a2_10 a2_11 a2_12 u _ U2.out).mono ?_); rintro e wn ⟨rfl, hb⟩; replace hO := Aside0.mk (Kps.below hO.out hb); clear hb; obtain ⟨f0, f1, f2, f3, f4, f5, f6, f7, f8, f9, f10, f11, f12, f13, f14, f15, f16, f17, f18, f19, f20, f21, f22, f23, f24, f25, f26, f27, f28, f29, f30, f31, f32, f33, f34, f35, f36, f37, f38, f39, f40, f41, f42, f43, f44, f45, f46, f47, f48, f49, f50, f51⟩ := PjI.facts hO.out))
          have hO2 := Aside0.mk (Kps.below hO.out (below_drew1 (Below.refl _ _)))
          clear hO
          have hO := hO2
          clear hO2
          refine start_ (n := 29) (S := PjF w w1.heap.size a2_0 a2_1 a2_2 a2_3 a2_4 a2_5 a2_6 a2_7 a2_8 a2_9 a2_10 a2_11 a2_12 a3_0 a3_1 a3_2 a3_3 a3_4 a3_5 a3_6 a3_7 a3_8 a3_9 a3_10 a3_11 a3_12) (ds := []) #[false, false, false, false, false, false, false, false, false, false, false, false, false, false, false, false, false, false, false, false, false, false, false, false, false, false, false, false, false] (by kernel_rfl) rfl rfl (PjI.facts hO.out) (fun hHeld => ?_); refine with_tabW polJudges.tab6 polJudges.bits6 (fun HT_ HW_ => ?_)
          refine pure_ (i := 0) (N := some 30) (v := ?_) (a' := ?_) #[true, false, false, false, false, false, false, false, false, false, false, false, false, false, false, false, false, false, false, false, false, false, false, false, false, false, false, false, false] rfl rfl (any_of HT_.out (by kernel_rfl)) (fun _ _ _ h => h) (Or.inl ⟨by rfl, ?_⟩) ?_ ?_
          rotate_left
          · intro w'
            go_simp
            with_reducible rfl
          rotate_left
          · simp only [Act.put, List.setIfInBounds_toArray, List.set_cons_zero, List.set_cons_succ, i64_w, i32_w]
            rfl
          refine pure_ (i := 1) (N := some 31) (v := ?_) (a' := ?_) #[true, true, false, false, false, false, false, false, false, false, false, false, false, false, false, false, false, false, false, false, false, false, false, false, false, false, false, false, false] rfl rfl (any_of HT_.out (by kernel_rfl)) (fun _ _ _ h => h) (Or.inl ⟨by rfl, ?_⟩) ?_ ?_
          rotate_left
          · intro w'
            go_simp
            with_reducible rfl
          rotate_left
          · simp only [Act.put, List.setIfInBounds_toArray, List.set_cons_zero, List.set_cons_succ, i64_w, i32_w]
            rfl
          refine pure_ (i := 2) (N := some 32) (v := ?_) (a' := ?_) #[true, true, true, false, false, false, false, false, false, false, false, false, false, false, false, false, false, false, false, false, false, false, false, false, false, false, false, false, false] rfl rfl (any_of HT_.out (by kernel_rfl)) (fun _ _ _ h => h) (Or.inl ⟨by rfl, ?_⟩) ?_ ?_
          rotate_left
          · intro w'
            go_simp
            with_reducible rfl
          rotate_left
          · simp only [Act.put, List.setIfInBounds_toArray, List.set_cons_zero, List.set_cons_succ, i64_w, i32_w]
            rfl
          refine pure_ (i := 3) (N := some 33) (v := ?_) (a' := ?_) #[true, true, true, true, false, false, false, false, false, false, false, false, false, false, false, false, false, false, false, false, false, false, false, false, false, false, false, false, false] rfl rfl (any_of HT_.out (by kernel_rfl)) (fun _ _ _ h => h) (Or.inl ⟨by rfl, ?_⟩) ?_ ?_
          rotate_left
          · intro w'
            go_simp
            with_reducible rfl
          rotate_left
          · simp only [Act.put, List.setIfInBounds_toArray, List.set_cons_zero, List.set_cons_succ, i64_w, i32_w]
            rfl
          refine pure_ (i := 4) (N := some 34) (v := ?_) (a' := ?_) #[true, true, true, true, true, false, false, false, false, false, false, false, false, false, false, false, false, false, false, false, false, false, false, false, false, false, false, false, false] rfl rfl (any_of HT_.out (by kernel_rfl)) (fun _ _ _ h => h) (Or.inl ⟨by rfl, ?_⟩) ?_ ?_
          rotate_left
          · intro w'
            go_simp
            with_reducible rfl
          rotate_left
          · simp only [Act.put, List.setIfInBounds_toArray, List.set_cons_zero, List.set_cons_succ, i64_w, i32_w]
            rfl
          refine pure_ (i := 6) (N := some 36) (v := ?_) (a' := ?_) #[true, true, true, true, true, false, true, false, false, false, false, false, false, false, false, false, false, false, false, false, false, false, false, false, false, false, false, false, false] rfl rfl (any_of HT_.out (by kernel_rfl)) (fun _ _ _ h => h) (Or.inl ⟨by rfl, ?_⟩) ?_ ?_
          rotate_left
          · intro w'
            go_simp
            with_reducible rfl
          rotate_left
          · simp only [Act.put, List.setIfInBounds_toArray, List.set_cons_zero, List.set_cons_succ, i64_w, i32_w]
            rfl
          refine pure_ (i := 9) (N := some 39) (v := ?_) (a' := ?_) #[true, true, true, true, true, false, true, false, false, true, false, false, false, false, false, false, false, false, false, false, false, false, false, false, false, false, false, false, false] rfl rfl (any_of HT_.out (by kernel_rfl)) (fun _ _ _ h => h) (Or.inl ⟨by rfl, ?_⟩) ?_ ?_
          rotate_left
          · intro w'
            go_simp
            with_reducible rfl
          rotate_left
          · simp only [Act.put, List.setIfInBounds_toArray, List.set_cons_zero, List.set_cons_succ, i64_w, i32_w]
            rfl
          refine pure_ (i := 10) (N := some 40) (v := ?_) (a' := ?_) #[true, true, true, true, true, false, true, false, false, true, true, false, false, false, false, false, false, false, false, false, false, false, false, false, false, false, false, false, false] rfl rfl (any_of HT_.out (by kernel_rfl)) (fun _ _ _ h => h) (Or.inl ⟨by rfl, ?_⟩) ?_ ?_
          rotate_left
          · intro w'
            go_simp
            with_reducible rfl
          rotate_left
          · simp only [Act.put, List.setIfInBounds_toArray, List.set_cons_zero, List.set_cons_succ, i64_w, i32_w]
            rfl
          refine take_ (i := 5) (N := some 35) (v := ?_) (a' := ?_) #[true, true, true, true, true, true, true, false, false, true, true, false, false, false, false, false, false, false, false, false, false, false, false, false, false, false, false, false, false] rfl rfl (take_ofW HT_.out HW_.out (by kernel_rfl)) (fun _ _ _ h => h) (Or.inl ⟨by rfl, ?_⟩) hHeld ?_ ?_
          rotate_left
          · rintro w' ⟨s0, s1, s2, s3, s4, s5, s6, s7, s8, s9, s10, s11, s12, s13, s14, s15, s16, s17, s18, s19, s20, s21, s22, s23, s24, s25, s26, s27, s28, s29, s30, s31, s32, s33, s34, s35, s36, s37, s38, s39, s40, s41, s42, s43, s44, s45, s46, s47, s48, s49, s50, s51⟩
            go_simp
            with_reducible rfl
          rotate_left
          · simp only [Act.put, List.setIfInBounds_toArray, List.set_cons_zero, List.set_cons_succ, i64_w, i32_w]
            rfl
          refine take_ (i := 7) (N := some 37) (v := ?_) (a' := ?_) #[true, true, true, true, true, true, true, true, false, true, true, false, false, false, false, false, false, false, false, false, false, false, false, false, false, false, false, false, false] rfl rfl (take_ofW HT_.out HW_.out (by kernel_rfl)) (fun _ _ _ h => h) (Or.inl ⟨by rfl, ?_⟩) hHeld ?_ ?_
          rotate_left
          · rintro w' ⟨s0, s1, s2, s3, s4, s5, s6, s7, s8, s9, s10, s11, s12, s13, s14, s15, s16, s17, s18, s19, s20, s21, s22, s23, s24, s25, s26, s27, s28, s29, s30, s31, s32, s33, s34, s35, s36, s37, s38, s39, s40, s41, s42, s43, s44, s45, s46, s47, s48, s49, s50, s51⟩
            go_simp
            with_reducible rfl
          rotate_left
          · simp only [Act.put, List.setIfInBounds_toArray, List.set_cons_zero, List.set_cons_succ, i64_w, i32_w]
            rfl
          refine take_ (i := 11) (N := some 41) (v := ?_) (a' := ?_) #[true, true, true, true, true, true, true, true, false, true, true, true, false, false, false, false, false, false, false, false, false, false, false, false, false, false, false, false, false] rfl rfl (take_ofW HT_.out HW_.out (by kernel_rfl)) (fun _ _ _ h => h) (Or.inl ⟨by rfl, ?_⟩) hHeld ?_ ?_
          rotate_left
          · rintro w' ⟨s0, s1, s2, s3, s4, s5, s6, s7, s8, s9, s10, s11, s12, s13, s14, s15, s16, s17, s18, s19, s20, s21, s22, s23, s24, s25, s26, s27, s28, s29, s30, s31, s32, s33, s34, s35, s36, s37, s38, s39, s40, s41, s42, s43, s44, s45, s46, s47, s48, s49, s50, s51⟩
            go_simp
            with_reducible rfl
          rotate_left
          · simp only [Act.put, List.setIfInBounds_toArray, List.set_cons_zero, List.set_cons_succ, i64_w, i32_w]
            rfl
          refine take_ (i := 12) (N := some 42) (v := ?_) (a' := ?_) #[true, true, true, true, true, true, true, true, false, true, true, true, true, false, false, false, false, false, false, false, false, false, false, false, false, false, false, false, false] rfl rfl (take_ofW HT_.out HW_.out (by kernel_rfl)) (fun _ _ _ h => h) (Or.inl ⟨by rfl, ?_⟩) hHeld ?_ ?_
          rotate_left
          · rintro w' ⟨s0, s1, s2, s3, s4, s5, s6, s7, s8, s9, s10, s11, s12, s13, s14, s15, s16, s17, s18, s19, s20, s21, s22, s23, s24, s25, s26, s27, s28, s29, s30, s31, s32, s33, s34, s35, s36, s37, s38, s39, s40, s41, s42, s43, s44, s45, s46, s47, s48, s49, s50, s51⟩
            go_simp
            with_reducible rfl
          rotate_left
          · simp only [Act.put, List.setIfInBounds_toArray, List.set_cons_zero, List.set_cons_succ, i64_w, i32_w]
            rfl
          refine one_ (i := 8) (N := some 38) #[true, true, true, true, true, true, true, true, true, true, true, true, true, false, false, false, false, false, false, false, false, false, false, false, false, false, false, false, false] rfl rfl (one_of HT_.out (by kernel_rfl)) (by decide) (fun K hK => ?_)
          refine goes_ Tryz.func13 (by kernel_rfl) rfl #[.int .i64 a0, .int .i64 a1, .agg #[.bool a2_0, .bool a2_1, .bool a2_2, .bool a2_3, .bool a2_4, .bool a2_5, .bool a2_6, .bool a2_7, .int .i64 a2_8, .int .i64 a2_9, .int .i64 a2_10, .int .i64 a2_11, .int .i64 a2_12], .agg #[.bool a3_0, .bool a3_1, .bool a3_2, .bool a3_3, .bool a3_4, .bool a3_5, .bool a3_6, .bool a3_7, .int .i64 a3_8, .int .i64 a3_9, .int .i64 a3_10, .int .i64 a3_11, .int .i64 a3_12]] (by rfl) rfl rfl (by (try simp only [List.map_toArray, List.map_cons, List.map_nil]); first | done | rfl) ?_
          with_reducible refine (policy_Judge.calls a0 a1 a2_0 a2_1 a2_2 a2_3 a2_4 a2_5 a2_6 a2_7 a2_8 a2_9 a2_10 a2_11 a2_12 a3_0 a3_1 a3_2 a3_3 a3_4 a3_5 a3_6 a3_7 a3_8 a3_9 a3_10 a3_11 a3_12 v _ V1.out).mono ?_
          rintro e wn ⟨rfl, hb⟩
          refine ⟨_, rfl, ?_⟩
          have hO2 := Aside0.mk (Kps.below hO.out hb)
          clear hO hb
          have hO := hO2
          clear hO2
          refine hK.out _ _ (PjI.facts hO.out) (fun hHeld => ?_)
          clear hK K
          refine norm_ (a' := ?_) ?_ ?_
          rotate_left
          · show Act.put _ (some 38) _ = _
            simp only [Act.put, List.setIfInBounds_toArray, List.set_cons_zero, List.set_cons_succ, i64_w, i32_w]
            rfl
          refine one_ (i := 13) (N := some 43) #[true, true, true, true, true, true, true, true, true, true, true, true, true, true, false, false, false, false, false, false, false, false, false, false, false, false, false, false, false] rfl rfl (one_of HT_.out (by kernel_rfl)) (by decide) (fun K hK => ?_)
          refine goes_ Tryz.func14 (by kernel_rfl) rfl #[.int .i64 a0, .int .i64 a1, .agg #[.bool a2_0, .bool a2_1, .bool a2_2, .bool a2_3, .bool a2_4, .bool a2_5, .bool a2_6, .bool a2_7, .int .i64 a2_8, .int .i64 a2_9, .int .i64 a2_10, .int .i64 a2_11, .int .i64 a2_12], .agg #[.bool a3_0, .bool a3_1, .bool a3_2, .bool a3_3, .bool a3_4, .bool a3_5, .bool a3_6, .bool a3_7, .int .i64 a3_8, .int .i64 a3_9, .int .i64 a3_10, .int .i64 a3_11, .int .i64 a3_12]] (by rfl) rfl rfl (by (try simp only [List.map_toArray, List.map_cons, List.map_nil]); first | done | rfl) ?_
          with_reducible refine (sculleryref14_Judge.calls 4 a0 a1 a2_0 a2_1 a2_2 a2_3 a2_4 a2_5 a2_6 a2_7 a2_8 a2_9 a2_10 a2_11 a2_12 a3_0 a3_1 a3_2 a3_3 a3_4 a3_5 a3_6 a3_7 a3_8 a3_9 a3_10 a3_11 a3_12 v _ V2.out).mono ?_
          rintro e wn ⟨rfl, hb⟩
          refine ⟨_, rfl, ?_⟩
          have hO2 := Aside0.mk (Kps.below hO.out hb)
          clear hO hb
          have hO := hO2
          clear hO2
          refine hK.out _ _ (PjI.facts hO.out) (fun hHeld => ?_)
          clear hK K
          refine norm_ (a' := ?_) ?_ ?_
          rotate_left
          · show Act.put _ (some 43) _ = _
            simp only [Act.put, List.setIfInBounds_toArray, List.set_cons_zero, List.set_cons_succ, i64_w, i32_w]
            rfl
          refine pure_ (i := 14) (N := some 44) (v := ?_) (a' := ?_) #[true, true, true, true, true, true, true, true, true, true, true, true, true, true, true, false, false, false, false, false, false, false, false, false, false, false, false, false, false] rfl rfl (any_of HT_.out (by kernel_rfl)) (fun _ _ _ h => h) (Or.inl ⟨by rfl, ?_⟩) ?_ ?_
          rotate_left
          · intro w'
            go_simp
            with_reducible rfl
          rotate_left
          · simp only [Act.put, List.setIfInBounds_toArray, List.set_cons_zero, List.set_cons_succ, i64_w, i32_w]
            rfl
          refine pure_ (i := 15) (N := some 45) (v := ?_) (a' := ?_) #[true, true, true, true, true, true, true, true, true, true, true, true, true, true, true, true, false, false, false, false, false, false, false, false, false, false, false, false, false] rfl rfl (any_of HT_.out (by kernel_rfl)) (fun _ _ _ h => h) (Or.inl ⟨by rfl, ?_⟩) ?_ ?_
          rotate_left
          · intro w'
            go_simp
            with_reducible rfl
          rotate_left
          · simp only [Act.put, List.setIfInBounds_toArray, List.set_cons_zero, List.set_cons_succ, i64_w, i32_w]
            rfl
          refine pure_ (i := 16) (N := some 46) (v := ?_) (a' := ?_) #[true, true, true, true, true, true, true, true, true, true, true, true, true, true, true, true, true, false, false, false, false, false, false, false, false, false, false, false, false] rfl rfl (any_of HT_.out (by kernel_rfl)) (fun _ _ _ h => h) (Or.inl ⟨by rfl, ?_⟩) ?_ ?_
          rotate_left
          · intro w'
            go_simp
            with_reducible rfl
          rotate_left
          · simp only [Act.put, List.setIfInBounds_toArray, List.set_cons_zero, List.set_cons_succ, i64_w, i32_w]
            rfl
          refine pure_ (i := 17) (N := some 47) (v := ?_) (a' := ?_) #[true, true, true, true, true, true, true, true, true, true, true, true, true, true, true, true, true, true, false, false, false, false, false, false, false, false, false, false, false] rfl rfl (any_of HT_.out (by kernel_rfl)) (fun _ _ _ h => h) (Or.inl ⟨by rfl, ?_⟩) ?_ ?_
          rotate_left
          · intro w'
            go_simp
            with_reducible rfl
          rotate_left
          · simp only [Act.put, List.setIfInBounds_toArray, List.set_cons_zero, List.set_cons_succ, i64_w, i32_w]
            rfl
          refine pure_ (i := 18) (N := some 48) (v := ?_) (a' := ?_) #[true, true, true, true, true, true, true, true, true, true, true, true, true, true, true, true, true, true, true, false, false, false, false, false, false, false, false, false, false] rfl rfl (any_of HT_.out (by kernel_rfl)) (fun _ _ _ h => h) (Or.inl ⟨by rfl, ?_⟩) ?_ ?_
          rotate_left
          · intro w'
            go_simp
            with_reducible rfl
          rotate_left
          · simp only [Act.put, List.setIfInBounds_toArray, List.set_cons_zero, List.set_cons_succ, i64_w, i32_w]
            rfl
          refine pure_ (i := 19) (N := some 49) (v := ?_) (a' := ?_) #[true, true, true, true, true, true, true, true, true, true, true, true, true, true, true, true, true, true, true, true, false, false, false, false, false, false, false, false, false] rfl rfl (any_of HT_.out (by kernel_rfl)) (fun _ _ _ h => h) (Or.inl ⟨by rfl, ?_⟩) ?_ ?_
          rotate_left
          · intro w'
            go_simp
            with_reducible rfl
          rotate_left
          · simp only [Act.put, List.setIfInBounds_toArray, List.set_cons_zero, List.set_cons_succ, i64_w, i32_w]
            rfl
          refine pure_ (i := 22) (N := some 52) (v := ?_) (a' := ?_) #[true, true, true, true, true, true, true, true, true, true, true, true, true, true, true, true, true, true, true, true, false, false, true, false, false, false, false, false, false] rfl rfl (any_of HT_.out (by kernel_rfl)) (fun _ _ _ h => h) (Or.inl ⟨by rfl, ?_⟩) ?_ ?_
          rotate_left
          · intro w'
            go_simp
            with_reducible rfl
          rotate_left
          · simp only [Act.put, List.setIfInBounds_toArray, List.set_cons_zero, List.set_cons_succ, i64_w, i32_w]
            rfl
          refine pure_ (i := 23) (N := some 53) (v := ?_) (a' := ?_) #[true, true, true, true, true, true, true, true, true, true, true, true, true, true, true, true, true, true, true, true, false, false, true, true, false, false, false, false, false] rfl rfl (any_of HT_.out (by kernel_rfl)) (fun _ _ _ h => h) (Or.inl ⟨by rfl, ?_⟩) ?_ ?_
          rotate_left
          · intro w'
            go_simp
            with_reducible rfl
          rotate_left
          · simp only [Act.put, List.setIfInBounds_toArray, List.set_cons_zero, List.set_cons_succ, i64_w, i32_w]
            rfl
          refine take_ (i := 20) (N := some 50) (v := ?_) (a' := ?_) #[true, true, true, true, true, true, true, true, true, true, true, true, true, true, true, true, true, true, true, true, true, false, true, true, false, false, false, false, false] rfl rfl (take_ofW HT_.out HW_.out (by kernel_rfl)) (fun _ _ _ h => h) (Or.inl ⟨by rfl, ?_⟩) hHeld ?_ ?_
          rotate_left
          · rintro w' ⟨s0, s1, s2, s3, s4, s5, s6, s7, s8, s9, s10, s11, s12, s13, s14, s15, s16, s17, s18, s19, s20, s21, s22, s23, s24, s25, s26, s27, s28, s29, s30, s31, s32, s33, s34, s35, s36, s37, s38, s39, s40, s41, s42, s43, s44, s45, s46, s47, s48, s49, s50, s51⟩
            go_simp
            with_reducible rfl
          rotate_left
          · simp only [Act.put, List.setIfInBounds_toArray, List.set_cons_zero, List.set_cons_succ, i64_w, i32_w]
            rfl
          refine take_ (i := 24) (N := some 54) (v := ?_) (a' := ?_) #[true, true, true, true, true, true, true, true, true, true, true, true, true, true, true, true, true, true, true, true, true, false, true, true, true, false, false, false, false] rfl rfl (take_ofW HT_.out HW_.out (by kernel_rfl)) (fun _ _ _ h => h) (Or.inl ⟨by rfl, ?_⟩) hHeld ?_ ?_
          rotate_left
          · rintro w' ⟨s0, s1, s2, s3, s4, s5, s6, s7, s8, s9, s10, s11, s12, s13, s14, s15, s16, s17, s18, s19, s20, s21, s22, s23, s24, s25, s26, s27, s28, s29, s30, s31, s32, s33, s34, s35, s36, s37, s38, s39, s40, s41, s42, s43, s44, s45, s46, s47, s48, s49, s50, s51⟩
            go_simp
            with_reducible rfl
          rotate_left
          · simp only [Act.put, List.setIfInBounds_toArray, List.set_cons_zero, List.set_cons_succ, i64_w, i32_w]
            rfl
          refine one_ (i := 21) (N := some 51) #[true, true, true, true, true, true, true, true, true, true, true, true, true, true, true, true, true, true, true, true, true, true, true, true, true, false, false, false, false] rfl rfl (one_of HT_.out (by kernel_rfl)) (by decide) (fun K hK => ?_)
          refine goes_ Tryz.func15 (by kernel_rfl) rfl #[.int .i64 a0, .int .i64 a1, .agg #[.bool a2_0, .bool a2_1, .bool a2_2, .bool a2_3, .bool a2_4, .bool a2_5, .bool a2_6, .bool a2_7, .int .i64 a2_8, .int .i64 a2_9, .int .i64 a2_10, .int .i64 a2_11, .int .i64 a2_12]] (by rfl) rfl rfl (by (try simp only [List.map_toArray, List.map_cons, List.map_nil]); first | done | rfl) ?_
          with_reducible refine (policy_OnError.calls a0 a1 a2_0 a2_1 a2_2 a2_3 a2_4 a2_5 a2_6 a2_7 a2_8 a2_9 a2_10 a2_11 a2_12 u _ U1.out).mono ?_
          rintro e wn ⟨rfl, hb⟩
          refine ⟨_, rfl, ?_⟩
          have hO2 := Aside0.mk (Kps.below hO.out hb)
          clear hO hb
          have hO := hO2
          clear hO2
          refine hK.out _ _ (PjI.facts hO.out) (fun hHeld => ?_)
          clear hK K
          refine norm_ (a' := ?_) ?_ ?_
          rotate_left
          · show Act.put _ (some 51) _ = _
            simp only [Act.put, List.setIfInBounds_toArray, List.set_cons_zero, List.set_cons_succ, i64_w, i32_w]
            rfl
          refine one_ (i := 25) (N := some 55) #[true, true, true, true, true, true, true, true, true, true, true, true, true, true, true, true, true, true, true, true, true, true, true, true, true, true, false, false, false] rfl rfl (one_of HT_.out (by kernel_rfl)) (by decide) (fun K hK => ?_)
          refine goes_ Tryz.func16 (by kernel_rfl) rfl #[.int .i64 a0, .int .i64 a1, .agg #[.bool a2_0, .bool a2_1, .bool a2_2, .bool a2_3, .bool a2_4, .bool a2_5, .bool a2_6, .bool a2_7, .int .i64 a2_8, .int .i64 a2_9, .int .i64 a2_10, .int .i64 a2_11, .int .i64 a2_12]] (by rfl) rfl rfl (by (try simp only [List.map_toArray, List.map_cons, List.map_nil]); first | done | rfl) ?_
          with_reducible refine (sculleryref14_OnError.calls a0 a1 a2_0 a2_1 a2_2 a2_3 a2_4 a2_5 a2_6 a2_7 a2_8 a2_9 a2_10 a2_11 a2_12 u _ U2.out).mono ?_
          rintro e wn ⟨rfl, hb⟩
          refine ⟨_, rfl, ?_⟩
          have hO2 := Aside0.mk (Kps.below hO.out hb)
          clear hO hb
          have hO := hO2
          clear hO2
          refine hK.out _ _ (PjI.facts hO.out) (fun hHeld => ?_)
          clear hK K
          refine norm_ (a' := ?_) ?_ ?_
          rotate_left
          · show Act.put _ (some 55) _ = _
            simp only [Act.put, List.setIfInBounds_toArray, List.set_cons_zero, List.set_cons_succ, i64_w, i32_w]
            rfl
          refine pure_ (i := 26) (N := some 56) (v := ?_) (a' := ?_) #[true, true, true, true, true, true, true, true, true, true, true, true, true, true, true, true, true, true, true, true, true, true, true, true, true, true, true, false, false] rfl rfl (any_of HT_.out (by kernel_rfl)) (fun _ _ _ h => h) (Or.inl ⟨by rfl, ?_⟩) ?_ ?_
          rotate_left
          · intro w'
            go_simp
            with_reducible rfl
          rotate_left
          · simp only [Act.put, List.setIfInBounds_toArray, List.set_cons_zero, List.set_cons_succ, i64_w, i32_w]
            rfl
          refine pure_ (i := 27) (N := some 57) (v := ?_) (a' := ?_) #[true, true, true, true, true, true, true, true, true, true, true, true, true, true, true, true, true, true, true, true, true, true, true, true, true, true, true, true, false] rfl rfl (any_of HT_.out (by kernel_rfl)) (fun _ _ _ h => h) (Or.inl ⟨by rfl, ?_⟩) ?_ ?_
          rotate_left
          · intro w'
            go_simp
            with_reducible rfl
          rotate_left
          · simp only [Act.put, List.setIfInBounds_toArray, List.set_cons_zero, List.set_cons_succ, i64_w, i32_w]
            rfl
          refine pure_ (i := 28) (N := some 6) (v := ?_) (a' := ?_) #[true, true, true, true, true, true, true, true, true, true, true, true, true, true, true, true, true, true, true, true, true, true, true, true, true, true, true, true, true] rfl rfl (any_of HT_.out (by kernel_rfl)) (fun _ _ _ h => h) (Or.inl ⟨by rfl, ?_⟩) ?_ ?_
          rotate_left
          · intro w'
            go_simp
            with_reducible rfl
          rotate_left
          · simp only [Act.put, List.setIfInBounds_toArray, List.set_cons_zero, List.set_cons_succ, i64_w, i32_w]
            rfl
          refine done_ (done_of HT_.out (by kernel_rfl)) ?_
          go_wp2
          go_ret
          exact ⟨by simp, hO.out.2⟩
end Go.Proofs.YtebfpnbnoinhbaaGreatDoor.Q
