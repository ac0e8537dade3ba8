/- scullerylaw14.PolicyYounger tells true of every two ages and lifetimes and every pair of rules. No condition. -/
import Derived.ChangeSlices
import Derived.Test.YtebfpnbnoinhbaaGreatDoorPy1
import Derived.Test.YtebfpnbnoinhbaaGreatDoorPy2
import Derived.Test.YtebfpnbnoinhbaaGreatDoorPy3
import Derived.Test.YtebfpnbnoinhbaaGreatDoorPy4
import Derived.Test.YtebfpnbnoinhbaaGreatDoorPy5
import Derived.Test.YtebfpnbnoinhbaaGreatDoorPy6
import Derived.Test.YtebfpnbnoinhbaaGreatDoorPy7
import Derived.Test.YtebfpnbnoinhbaaGreatDoorPy8
import Derived.Test.YtebfpnbnoinhbaaGreatDoorPy9
import Derived.Test.YtebfpnbnoinhbaaGreatDoorPy10
namespace Go.Proofs.YtebfpnbnoinhbaaGreatDoor.Q
open Go.RowKit Go.Proofs.YtebfpnbnoinhbaaGreatDoorW.PrintWords Go.Proofs.YtebfpnbnoinhbaaGreatDoorW.PrintLast Go.Proofs.YtebfpnbnoinhbaaGreatDoorW.PrintMore
attribute [local go_sem] max2_int max_two
set_option linter.unusedVariables false
set_option linter.unusedSimpArgs false
def legacy_Read.f (k : Nat) (l0 : List (S51)) : Option (Bool × Bool × Bool × Bool × Bool × Bool × Bool × Bool × Int × Int × Int × Int × Int) := (head_Get.f l0 (⟨#[99, 97, 99, 104, 101, 45, 99, 111, 110, 116, 114, 111, 108]⟩ : ByteArray)).bind fun bt2 => (if bt2.2 = true then ((legacy_Parse.f k bt2.1).bind fun t4 => ((legacy_Of.f t4).bind fun bt7 => (some (bt7.1, bt7.2.1, bt7.2.2.1, bt7.2.2.2.1, bt7.2.2.2.2.1, bt7.2.2.2.2.2.1, bt7.2.2.2.2.2.2.1, bt7.2.2.2.2.2.2.2.1, bt7.2.2.2.2.2.2.2.2.1, bt7.2.2.2.2.2.2.2.2.2.1, bt7.2.2.2.2.2.2.2.2.2.2.1, bt7.2.2.2.2.2.2.2.2.2.2.2.1, bt7.2.2.2.2.2.2.2.2.2.2.2.2)))) else ((legacy_None.f).bind fun bt20 => (some (bt20.1, bt20.2.1, bt20.2.2.1, bt20.2.2.2.1, bt20.2.2.2.2.1, bt20.2.2.2.2.2.1, bt20.2.2.2.2.2.2.1, bt20.2.2.2.2.2.2.2.1, bt20.2.2.2.2.2.2.2.2.1, bt20.2.2.2.2.2.2.2.2.2.1, bt20.2.2.2.2.2.2.2.2.2.2.1, bt20.2.2.2.2.2.2.2.2.2.2.2.1, bt20.2.2.2.2.2.2.2.2.2.2.2.2))))
set_option maxHeartbeats 8000000 in
set_option maxRecDepth 100000 in
theorem legacy_Read.calls (k : Nat) (A0 : Option Addr) (c0 : Nat) (l0 : List (S51)) (r1 : Bool) (r2 : Bool) (r3 : Bool) (r4 : Bool) (r5 : Bool) (r6 : Bool) (r7 : Bool) (r8 : Bool) (r9 : Int) (r10 : Int) (r11 : Int) (r12 : Int) (r13 : Int) (w : World) (hr0 : Kd.C k51 w A0 l0.length l0) (hc0 : l0.length ≤ c0) (HG0 : GL w) (h : legacy_Read.f k l0 = some (r1, r2, r3, r4, r5, r6, r7, r8, r9, r10, r11, r12, r13)) :
    Calls Tryz.prog 22 #[.slice A0 l0.length c0] w fun e w' => e = .returned (.agg #[.bool r1, .bool r2, .bool r3, .bool r4, .bool r5, .bool r6, .bool r7, .bool r8, .int .i64 r9, .int .i64 r10, .int .i64 r11, .int .i64 r12, .int .i64 r13]) ∧ Below w.heap.size w w' := by
  have hu34 := Tryz.underlying34
  have HG := Aside0.mk HG0
  clear HG0
  have HR0 := Aside0.mk hr0
  have HC0 := Aside0.mk hc0
  clear hr0 hc0
  have HB := Aside0.mk (Below.refl w.heap.size w)
  have H : ((head_Get.f l0 (⟨#[99, 97, 99, 104, 101, 45, 99, 111, 110, 116, 114, 111, 108]⟩ : ByteArray)).bind fun bt2 => (if bt2.2 = true then ((legacy_Parse.f k bt2.1).bind fun t4 => ((legacy_Of.f t4).bind fun bt7 => (some (bt7.1, bt7.2.1, bt7.2.2.1, bt7.2.2.2.1, bt7.2.2.2.2.1, bt7.2.2.2.2.2.1, bt7.2.2.2.2.2.2.1, bt7.2.2.2.2.2.2.2.1, bt7.2.2.2.2.2.2.2.2.1, bt7.2.2.2.2.2.2.2.2.2.1, bt7.2.2.2.2.2.2.2.2.2.2.1, bt7.2.2.2.2.2.2.2.2.2.2.2.1, bt7.2.2.2.2.2.2.2.2.2.2.2.2)))) else ((legacy_None.f).bind fun bt20 => (some (bt20.1, bt20.2.1, bt20.2.2.1, bt20.2.2.2.1, bt20.2.2.2.2.1, bt20.2.2.2.2.2.1, bt20.2.2.2.2.2.2.1, bt20.2.2.2.2.2.2.2.1, bt20.2.2.2.2.2.2.2.2.1, bt20.2.2.2.2.2.2.2.2.2.1, bt20.2.2.2.2.2.2.2.2.2.2.1, bt20.2.2.2.2.2.2.2.2.2.2.2.1, bt20.2.2.2.2.2.2.2.2.2.2.2.2))))) = some (r1, r2, r3, r4, r5, r6, r7, r8, r9, r10, r11, r12, r13) := h
  clear h
  replace H := Option.bind_eq_some_iff.mp H
  obtain ⟨⟨t2, t3⟩, A20, H⟩ := H
  replace H : (if t3 = true then ((legacy_Parse.f k t2).bind fun t4 => ((legacy_Of.f t4).bind fun bt7 => (some (bt7.1, bt7.2.1, bt7.2.2.1, bt7.2.2.2.1, bt7.2.2.2.2.1, bt7.2.2.2.2.2.1, bt7.2.2.2.2.2.2.1, bt7.2.2.2.2.2.2.2.1, bt7.2.2.2.2.2.2.2.2.1, bt7.2.2.2.2.2.2.2.2.2.1, bt7.2.2.2.2.2.2.2.2.2.2.1, bt7.2.2.2.2.2.2.2.2.2.2.2.1, bt7.2.2.2.2.2.2.2.2.2.2.2.2)))) else ((legacy_None.f).bind fun bt20 => (some (bt20.1, bt20.2.1, bt20.2.2.1, bt20.2.2.2.1, bt20.2.2.2.2.1, bt20.2.2.2.2.2.1, bt20.2.2.2.2.2.2.1, bt20.2.2.2.2.2.2.2.1, bt20.2.2.2.2.2.2.2.2.1, bt20.2.2.2.2.2.2.2.2.2.1, bt20.2.2.2.2.2.2.2.2.2.2.1, bt20.2.2.2.2.2.2.2.2.2.2.2.1, bt20.2.2.2.2.2.2.2.2.2.2.2.2)))) = some (r1, r2, r3, r4, r5, r6, r7, r8, r9, r10, r11, r12, r13) := H
  have A2 := Aside0.mk A20
  clear A20
  by_cases c3 : t3 = true
  · subst c3
    have H1 : ((legacy_Parse.f k t2).bind fun t4 => ((legacy_Of.f t4).bind fun bt7 => (some (bt7.1, bt7.2.1, bt7.2.2.1, bt7.2.2.2.1, bt7.2.2.2.2.1, bt7.2.2.2.2.2.1, bt7.2.2.2.2.2.2.1, bt7.2.2.2.2.2.2.2.1, bt7.2.2.2.2.2.2.2.2.1, bt7.2.2.2.2.2.2.2.2.2.1, bt7.2.2.2.2.2.2.2.2.2.2.1, bt7.2.2.2.2.2.2.2.2.2.2.2.1, bt7.2.2.2.2.2.2.2.2.2.2.2.2)))) = some (r1, r2, r3, r4, r5, r6, r7, r8, r9, r10, r11, r12, r13) := by rw [if_pos rfl] at H; exact H
    clear H
    have H := H1
    clear H1
    replace H := Option.bind_eq_some_iff.mp H
    obtain ⟨t4, A40, H⟩ := H
    replace H : ((legacy_Of.f t4).bind fun bt7 => (some (bt7.1, bt7.2.1, bt7.2.2.1, bt7.2.2.2.1, bt7.2.2.2.2.1, bt7.2.2.2.2.2.1, bt7.2.2.2.2.2.2.1, bt7.2.2.2.2.2.2.2.1, bt7.2.2.2.2.2.2.2.2.1, bt7.2.2.2.2.2.2.2.2.2.1, bt7.2.2.2.2.2.2.2.2.2.2.1, bt7.2.2.2.2.2.2.2.2.2.2.2.1, bt7.2.2.2.2.2.2.2.2.2.2.2.2))) = some (r1, r2, r3, r4, r5, r6, r7, r8, r9, r10, r11, r12, r13) := H
    have A4 := Aside0.mk A40
    clear A40
    replace H := Option.bind_eq_some_iff.mp H
    obtain ⟨⟨t7, t8, t9, t10, t11, t12, t13, t14, t15, t16, t17, t18, t19⟩, A50, H⟩ := H
    replace H : (some (t7, t8, t9, t10, t11, t12, t13, t14, t15, t16, t17, t18, t19)) = some (r1, r2, r3, r4, r5, r6, r7, r8, r9, r10, r11, r12, r13) := H
    have A5 := Aside0.mk A50
    clear A50
    simp only [Option.some.injEq, Prod.mk.injEq] at H
    obtain ⟨rfl, rfl, rfl, rfl, rfl, rfl, rfl, rfl, rfl, rfl, rfl, rfl, rfl⟩ := H
    go_enter Tryz.func22, Tryz.ntmps22
    go_wp2_with (first | ((with_reducible refine gate_dst (N := 2) rfl ?_); refine box_event ?hg (N := 2) ?hd (cs := #[.bool false, .bool false, .bool false, .bool false, .bool false, .bool false, .bool false, .bool false, .int .i64 0, .int .i64 0, .int .i64 0, .int .i64 0, .int .i64 0]) (t := 34) ?hr ?_; (case hd => rfl); (case hg => rfl); (case hr => first | (go_simp; done) | (go_simp; rfl)); intro gb1 hg w6 hbox hb; have n0_ := Aside0.mk (below_step (by repeat (first | (with_reducible first | exact HB.out | apply below_alloc | apply pw_below_drewN | apply below_drew1) | exact HB.out)) hb); have n1_ := Aside0.mk (hbox); have n2_ := Aside0.mk ((by rw [hg]; exact (below_size (by repeat (first | (with_reducible first | exact HB.out | apply below_alloc | apply pw_below_drewN | apply below_drew1) | exact HB.out))) : w.heap.size ≤ gb1)); have n3_ := Aside0.mk ((by rw [hg]; exact (below_size (by repeat (first | (with_reducible first | exact HB.out | apply below_alloc | apply pw_below_drewN | apply below_drew1) | exact HB.out))) : w.heap.size ≤ gb1)); clear HB; have HB := n0_; have BK1 := n1_; have GW1 := n2_; have GE1 := n3_; clear n0_ n1_ n2_ n3_; clear hb hbox hg) | ((with_reducible refine gate_callee (f := 47) rfl ?_); refine goesL_ (some 7) rfl rfl Tryz.func47 (by kernel_rfl) rfl #[.slice A0 l0.length c0, .string (⟨#[99, 97, 99, 104, 101, 45, 99, 111, 110, 116, 114, 111, 108]⟩ : ByteArray)] rfl (by (try simp only [List.map_toArray, List.map_cons, List.map_nil]); first | done | rfl | (simp only [List.length_drop, List.length_take]; rfl)) ?_; (with_reducible refine (head_Get.calls _ _ l0 (⟨#[99, 97, 99, 104, 101, 45, 99, 111, 110, 116, 114, 111, 108]⟩ : ByteArray) t2 true _ ?side1 ?side2 A2.out).mono ?_); (case side1 => repeat (first | exact (Kd.C_below HR0.out HB.out) | (with_reducible refine Kd.C_alloc ?_ _) | (with_reducible refine Kd.C_drewN ?_ _) | (with_reducible refine Kd.C_drew ?_))); (case side2 => exact HC0.out); rintro e w7 ⟨rfl, hb⟩; refine ⟨_, rfl, ?_⟩; have n0_ := Aside0.mk (blk_below (g := gb1) (o := .cells #[.bool false, .bool false, .bool false, .bool false, .bool false, .bool false, .bool false, .bool false, .int .i64 0, .int .i64 0, .int .i64 0, .int .i64 0, .int .i64 0] 34 (0, 0)) (by (with_reducible repeat (first | refine blk_drewN ?_ _ | refine blk_drew ?_ | refine blk_alloc ?_ _)); exact BK1.out) hb); have n1_ := Aside0.mk (below_step (by repeat (first | (with_reducible first | exact HB.out | apply below_alloc | apply pw_below_drewN | apply below_drew1 | refine below_set ?_ GE1.out) | exact HB.out)) hb); clear BK1; clear HB; have BK1 := n0_; have HB := n1_; clear n0_ n1_; (try clear hb); (try clear hb2); (try clear hk); (try clear hi)) | ((with_reducible refine gate_callee (f := 49) rfl ?_); refine goesL_ (some 14) rfl rfl Tryz.func49 (by kernel_rfl) rfl #[.string t2] rfl (by (try simp only [List.map_toArray, List.map_cons, List.map_nil]); first | done | rfl | (simp only [List.length_drop, List.length_take]; rfl)) ?_; (with_reducible refine (legacy_Parse.calls k t2 t4 _ ?side1 A4.out).mono ?_); (case side1 => exact GL.below HG.out (by repeat (first | (with_reducible first | exact HB.out | apply below_alloc | apply pw_below_drewN | apply below_drew1 | refine below_set ?_ GE1.out) | exact HB.out))); rintro e w8 ⟨v5, rfl, ho0, hb⟩; refine ⟨_, rfl, ?_⟩; have n0_ := Aside0.mk (Kd.R_lower ho0 (below_size (by repeat (first | (with_reducible first | exact HB.out | apply below_alloc | apply pw_below_drewN | apply below_drew1 | refine below_set ?_ GE1.out) | exact HB.out)))); have n1_ := Aside0.mk (blk_below (g := gb1) (o := .cells #[.bool false, .bool false, .bool false, .bool false, .bool false, .bool false, .bool false, .bool false, .int .i64 0, .int .i64 0, .int .i64 0, .int .i64 0, .int .i64 0] 34 (0, 0)) (by (with_reducible repeat (first | refine blk_drewN ?_ _ | refine blk_drew ?_ | refine blk_alloc ?_ _)); exact BK1.out) hb); have n2_ := Aside0.mk (below_step (by repeat (first | (with_reducible first | exact HB.out | apply below_alloc | apply pw_below_drewN | apply below_drew1 | refine below_set ?_ GE1.out) | exact HB.out)) hb); clear BK1; clear HB; have HO6 := n0_; have BK1 := n1_; have HB := n2_; clear n0_ n1_ n2_; (try clear hb); (try clear hb2); (try clear hk); (try clear hi); (try clear ho0); obtain ⟨Ao9, co9, eo9⟩ := Kd.R_slice HO6.out; subst eo9) | ((with_reducible refine gate_callee (f := 48) rfl ?_); refine goesL_ (some 15) rfl rfl Tryz.func48 (by kernel_rfl) rfl #[.slice Ao9 t4.length co9] rfl (by (try simp only [List.map_toArray, List.map_cons, List.map_nil]); first | done | rfl | (simp only [List.length_drop, List.length_take]; rfl)) ?_; (with_reducible refine (legacy_Of.calls _ _ t4 t7 t8 t9 t10 t11 t12 t13 t14 t15 t16 t17 t18 t19 _ ?side1 ?side2 A5.out).mono ?_); (case side1 => repeat (first | exact (Kd.R_reads' HO6.out).2.2 | (with_reducible refine Kd.C_alloc ?_ _) | (with_reducible refine Kd.C_drewN ?_ _) | (with_reducible refine Kd.C_drew ?_))); (case side2 => exact (Kd.R_reads' HO6.out).2.1); rintro e w10 ⟨rfl, hb⟩; refine ⟨_, rfl, ?_⟩; have n0_ := Aside0.mk (Kd.R_below (by (with_reducible repeat (first | apply Kd.R_alloc | apply Kd.R_drewN | apply Kd.R_drew)); exact HO6.out) hb); have n1_ := Aside0.mk (blk_below (g := gb1) (o := .cells #[.bool false, .bool false, .bool false, .bool false, .bool false, .bool false, .bool false, .bool false, .int .i64 0, .int .i64 0, .int .i64 0, .int .i64 0, .int .i64 0] 34 (0, 0)) (by (with_reducible repeat (first | refine blk_drewN ?_ _ | refine blk_drew ?_ | refine blk_alloc ?_ _)); exact BK1.out) hb); have n2_ := Aside0.mk (below_step (by repeat (first | (with_reducible first | exact HB.out | apply below_alloc | apply pw_below_drewN | apply below_drew1 | refine below_set ?_ GE1.out) | exact HB.out)) hb); clear HO6; clear BK1; clear HB; have HO6 := n0_; have BK1 := n1_; have HB := n2_; clear n0_ n1_ n2_; (try clear hb); (try clear hb2); (try clear hk); (try clear hi); have hcz11_0 : w10.cell? ⟨gb1, 0, none⟩ = some (.bool false) := (blk_cell BK1.out 0).trans rfl; have hcz11_1 : w10.cell? ⟨gb1, 1, none⟩ = some (.bool false) := (blk_cell BK1.out 1).trans rfl; have hcz11_2 : w10.cell? ⟨gb1, 2, none⟩ = some (.bool false) := (blk_cell BK1.out 2).trans rfl; have hcz11_3 : w10.cell? ⟨gb1, 3, none⟩ = some (.bool false) := (blk_cell BK1.out 3).trans rfl; have hcz11_4 : w10.cell? ⟨gb1, 4, none⟩ = some (.bool false) := (blk_cell BK1.out 4).trans rfl; have hcz11_5 : w10.cell? ⟨gb1, 5, none⟩ = some (.bool false) := (blk_cell BK1.out 5).trans rfl; have hcz11_6 : w10.cell? ⟨gb1, 6, none⟩ = some (.bool false) := (blk_cell BK1.out 6).trans rfl; have hcz11_7 : w10.cell? ⟨gb1, 7, none⟩ = some (.bool false) := (blk_cell BK1.out 7).trans rfl; have hcz11_8 : w10.cell? ⟨gb1, 8, none⟩ = some (.int .i64 0) := (blk_cell BK1.out 8).trans rfl; have hcz11_9 : w10.cell? ⟨gb1, 9, none⟩ = some (.int .i64 0) := (blk_cell BK1.out 9).trans rfl; have hcz11_10 : w10.cell? ⟨gb1, 10, none⟩ = some (.int .i64 0) := (blk_cell BK1.out 10).trans rfl; have hcz11_11 : w10.cell? ⟨gb1, 11, none⟩ = some (.int .i64 0) := (blk_cell BK1.out 11).trans rfl; have hcz11_12 : w10.cell? ⟨gb1, 12, none⟩ = some (.int .i64 0) := (blk_cell BK1.out 12).trans rfl; have hfz11_0 := blk_frozen BK1.out 0; have hfz11_1 := blk_frozen BK1.out 1; have hfz11_2 := blk_frozen BK1.out 2; have hfz11_3 := blk_frozen BK1.out 3; have hfz11_4 := blk_frozen BK1.out 4; have hfz11_5 := blk_frozen BK1.out 5; have hfz11_6 := blk_frozen BK1.out 6; have hfz11_7 := blk_frozen BK1.out 7; have hfz11_8 := blk_frozen BK1.out 8; have hfz11_9 := blk_frozen BK1.out 9; have hfz11_10 := blk_frozen BK1.out 10; have hfz11_11 := blk_frozen BK1.out 11; have hfz11_12 := blk_frozen BK1.out 12))
    refine bodyPost_ret (results_cell_row rfl _ _ gb1 34 #[.bool t7, .bool t8, .bool t9, .bool t10, .bool t11, .bool t12, .bool t13, .bool t14, .int .i64 t15, .int .i64 t16, .int .i64 t17, .int .i64 t18, .int .i64 t19] (0, 0) _ rfl (by (with_reducible repeat (first | refine blk_drewN ?_ _ | refine blk_drew ?_ | refine blk_alloc ?_ _)); refine blk_put (cs := #[.bool t7, .bool t8, .bool t9, .bool t10, .bool t11, .bool t12, .bool t13, .bool t14, .int .i64 t15, .int .i64 t16, .int .i64 t17, .int .i64 t18, .int .i64 0]) ?_ 12 _ rfl; (with_reducible repeat (first | refine blk_drewN ?_ _ | refine blk_drew ?_ | refine blk_alloc ?_ _)); refine blk_put (cs := #[.bool t7, .bool t8, .bool t9, .bool t10, .bool t11, .bool t12, .bool t13, .bool t14, .int .i64 t15, .int .i64 t16, .int .i64 t17, .int .i64 0, .int .i64 0]) ?_ 11 _ rfl; (with_reducible repeat (first | refine blk_drewN ?_ _ | refine blk_drew ?_ | refine blk_alloc ?_ _)); refine blk_put (cs := #[.bool t7, .bool t8, .bool t9, .bool t10, .bool t11, .bool t12, .bool t13, .bool t14, .int .i64 t15, .int .i64 t16, .int .i64 0, .int .i64 0, .int .i64 0]) ?_ 10 _ rfl; (with_reducible repeat (first | refine blk_drewN ?_ _ | refine blk_drew ?_ | refine blk_alloc ?_ _)); refine blk_put (cs := #[.bool t7, .bool t8, .bool t9, .bool t10, .bool t11, .bool t12, .bool t13, .bool t14, .int .i64 t15, .int .i64 0, .int .i64 0, .int .i64 0, .int .i64 0]) ?_ 9 _ rfl; (with_reducible repeat (first | refine blk_drewN ?_ _ | refine blk_drew ?_ | refine blk_alloc ?_ _)); refine blk_put (cs := #[.bool t7, .bool t8, .bool t9, .bool t10, .bool t11, .bool t12, .bool t13, .bool t14, .int .i64 0, .int .i64 0, .int .i64 0, .int .i64 0, .int .i64 0]) ?_ 8 _ rfl; (with_reducible repeat (first | refine blk_drewN ?_ _ | refine blk_drew ?_ | refine blk_alloc ?_ _)); refine blk_put (cs := #[.bool t7, .bool t8, .bool t9, .bool t10, .bool t11, .bool t12, .bool t13, .bool false, .int .i64 0, .int .i64 0, .int .i64 0, .int .i64 0, .int .i64 0]) ?_ 7 _ rfl; (with_reducible repeat (first | refine blk_drewN ?_ _ | refine blk_drew ?_ | refine blk_alloc ?_ _)); refine blk_put (cs := #[.bool t7, .bool t8, .bool t9, .bool t10, .bool t11, .bool t12, .bool false, .bool false, .int .i64 0, .int .i64 0, .int .i64 0, .int .i64 0, .int .i64 0]) ?_ 6 _ rfl; (with_reducible repeat (first | refine blk_drewN ?_ _ | refine blk_drew ?_ | refine blk_alloc ?_ _)); refine blk_put (cs := #[.bool t7, .bool t8, .bool t9, .bool t10, .bool t11, .bool false, .bool false, .bool false, .int .i64 0, .int .i64 0, .int .i64 0, .int .i64 0, .int .i64 0]) ?_ 5 _ rfl; (with_reducible repeat (first | refine blk_drewN ?_ _ | refine blk_drew ?_ | refine blk_alloc ?_ _)); refine blk_put (cs := #[.bool t7, .bool t8, .bool t9, .bool t10, .bool false, .bool false, .bool false, .bool false, .int .i64 0, .int .i64 0, .int .i64 0, .int .i64 0, .int .i64 0]) ?_ 4 _ rfl; (with_reducible repeat (first | refine blk_drewN ?_ _ | refine blk_drew ?_ | refine blk_alloc ?_ _)); refine blk_put (cs := #[.bool t7, .bool t8, .bool t9, .bool false, .bool false, .bool false, .bool false, .bool false, .int .i64 0, .int .i64 0, .int .i64 0, .int .i64 0, .int .i64 0]) ?_ 3 _ rfl; (with_reducible repeat (first | refine blk_drewN ?_ _ | refine blk_drew ?_ | refine blk_alloc ?_ _)); refine blk_put (cs := #[.bool t7, .bool t8, .bool false, .bool false, .bool false, .bool false, .bool false, .bool false, .int .i64 0, .int .i64 0, .int .i64 0, .int .i64 0, .int .i64 0]) ?_ 2 _ rfl; (with_reducible repeat (first | refine blk_drewN ?_ _ | refine blk_drew ?_ | refine blk_alloc ?_ _)); refine blk_put (cs := #[.bool t7, .bool false, .bool false, .bool false, .bool false, .bool false, .bool false, .bool false, .int .i64 0, .int .i64 0, .int .i64 0, .int .i64 0, .int .i64 0]) ?_ 1 _ rfl; (with_reducible repeat (first | refine blk_drewN ?_ _ | refine blk_drew ?_ | refine blk_alloc ?_ _)); refine blk_put (cs := #[.bool false, .bool false, .bool false, .bool false, .bool false, .bool false, .bool false, .bool false, .int .i64 0, .int .i64 0, .int .i64 0, .int .i64 0, .int .i64 0]) ?_ 0 _ rfl; (with_reducible repeat (first | refine blk_drewN ?_ _ | refine blk_drew ?_ | refine blk_alloc ?_ _)); exact BK1.out) Tryz.underlying34 rfl (by kernel_rfl)) rfl ?_
    exact ⟨by first | rfl | (simp [errW_none, errW_some] <;> rfl) | (simp [*, errW_none, errW_some] <;> rfl), by repeat (first | (with_reducible first | exact HB.out | apply below_alloc | apply pw_below_drewN | apply below_drew1 | refine below_set ?_ GE1.out) | exact HB.out)⟩
  · replace c3 := Bool.eq_false_iff.mpr c3
    subst c3
    have H1 : ((legacy_None.f).bind fun bt20 => (some (bt20.1, bt20.2.1, bt20.2.2.1, bt20.2.2.2.1, bt20.2.2.2.2.1, bt20.2.2.2.2.2.1, bt20.2.2.2.2.2.2.1, bt20.2.2.2.2.2.2.2.1, bt20.2.2.2.2.2.2.2.2.1, bt20.2.2.2.2.2.2.2.2.2.1, bt20.2.2.2.2.2.2.2.2.2.2.1, bt20.2.2.2.2.2.2.2.2.2.2.2.1, bt20.2.2.2.2.2.2.2.2.2.2.2.2))) = some (r1, r2, r3, r4, r5, r6, r7, r8, r9, r10, r11, r12, r13) := by rw [if_neg (show ¬ (false = true) by decide)] at H; exact H
    clear H
    have H := H1
    clear H1
    replace H := Option.bind_eq_some_iff.mp H
    obtain ⟨⟨t20, t21, t22, t23, t24, t25, t26, t27, t28, t29, t30, t31, t32⟩, A120, H⟩ := H
    replace H : (some (t20, t21, t22, t23, t24, t25, t26, t27, t28, t29, t30, t31, t32)) = some (r1, r2, r3, r4, r5, r6, r7, r8, r9, r10, r11, r12, r13) := H
    have A12 := Aside0.mk A120
    clear A120
    simp only [Option.some.injEq, Prod.mk.injEq] at H
    obtain ⟨rfl, rfl, rfl, rfl, rfl, rfl, rfl, rfl, rfl, rfl, rfl, rfl, rfl⟩ := H
    go_enter Tryz.func22, Tryz.ntmps22
    go_wp2_with (first | ((with_reducible refine gate_dst (N := 2) rfl ?_); refine box_event ?hg (N := 2) ?hd (cs := #[.bool false, .bool false, .bool false, .bool false, .bool false, .bool false, .bool false, .bool false, .int .i64 0, .int .i64 0, .int .i64 0, .int .i64 0, .int .i64 0]) (t := 34) ?hr ?_; (case hd => rfl); (case hg => rfl); (case hr => first | (go_simp; done) | (go_simp; rfl)); intro gb1 hg w13 hbox hb; have n0_ := Aside0.mk (below_step (by repeat (first | (with_reducible first | exact HB.out | apply below_alloc | apply pw_below_drewN | apply below_drew1) | exact HB.out)) hb); have n1_ := Aside0.mk (hbox); have n2_ := Aside0.mk ((by rw [hg]; exact (below_size (by repeat (first | (with_reducible first | exact HB.out | apply below_alloc | apply pw_below_drewN | apply below_drew1) | exact HB.out))) : w.heap.size ≤ gb1)); have n3_ := Aside0.mk ((by rw [hg]; exact (below_size (by repeat (first | (with_reducible first | exact HB.out | apply below_alloc | apply pw_below_drewN | apply below_drew1) | exact HB.out))) : w.heap.size ≤ gb1)); clear HB; have HB := n0_; have BK1 := n1_; have GW1 := n2_; have GE1 := n3_; clear n0_ n1_ n2_ n3_; clear hb hbox hg) | ((with_reducible refine gate_callee (f := 47) rfl ?_); refine goesL_ (some 7) rfl rfl Tryz.func47 (by kernel_rfl) rfl #[.slice A0 l0.length c0, .string (⟨#[99, 97, 99, 104, 101, 45, 99, 111, 110, 116, 114, 111, 108]⟩ : ByteArray)] rfl (by (try simp only [List.map_toArray, List.map_cons, List.map_nil]); first | done | rfl | (simp only [List.length_drop, List.length_take]; rfl)) ?_; (with_reducible refine (head_Get.calls _ _ l0 (⟨#[99, 97, 99, 104, 101, 45, 99, 111, 110, 116, 114, 111, 108]⟩ : ByteArray) t2 false _ ?side1 ?side2 A2.out).mono ?_); (case side1 => repeat (first | exact (Kd.C_below HR0.out HB.out) | (with_reducible refine Kd.C_alloc ?_ _) | (with_reducible refine Kd.C_drewN ?_ _) | (with_reducible refine Kd.C_drew ?_))); (case side2 => exact HC0.out); rintro e w14 ⟨rfl, hb⟩; refine ⟨_, rfl, ?_⟩; have n0_ := Aside0.mk (blk_below (g := gb1) (o := .cells #[.bool false, .bool false, .bool false, .bool false, .bool false, .bool false, .bool false, .bool false, .int .i64 0, .int .i64 0, .int .i64 0, .int .i64 0, .int .i64 0] 34 (0, 0)) (by (with_reducible repeat (first | refine blk_drewN ?_ _ | refine blk_drew ?_ | refine blk_alloc ?_ _)); exact BK1.out) hb); have n1_ := Aside0.mk (below_step (by repeat (first | (with_reducible first | exact HB.out | apply below_alloc | apply pw_below_drewN | apply below_drew1 | refine below_set ?_ GE1.out) | exact HB.out)) hb); clear BK1; clear HB; have BK1 := n0_; have HB := n1_; clear n0_ n1_; (try clear hb); (try clear hb2); (try clear hk); (try clear hi)) | ((with_reducible refine gate_callee (f := 20) rfl ?_); refine goesL_ (some 12) rfl rfl Tryz.func20 (by kernel_rfl) rfl #[] rfl (by (try simp only [List.map_toArray, List.map_cons, List.map_nil]); first | done | rfl | (simp only [List.length_drop, List.length_take]; rfl)) ?_; (with_reducible refine (legacy_None.calls  t20 t21 t22 t23 t24 t25 t26 t27 t28 t29 t30 t31 t32 _ A12.out).mono ?_); rintro e w15 ⟨rfl, hb⟩; refine ⟨_, rfl, ?_⟩; have n0_ := Aside0.mk (blk_below (g := gb1) (o := .cells #[.bool false, .bool false, .bool false, .bool false, .bool false, .bool false, .bool false, .bool false, .int .i64 0, .int .i64 0, .int .i64 0, .int .i64 0, .int .i64 0] 34 (0, 0)) (by (with_reducible repeat (first | refine blk_drewN ?_ _ | refine blk_drew ?_ | refine blk_alloc ?_ _)); exact BK1.out) hb); have n1_ := Aside0.mk (below_step (by repeat (first | (with_reducible first | exact HB.out | apply below_alloc | apply pw_below_drewN | apply below_drew1 | refine below_set ?_ GE1.out) | exact HB.out)) hb); clear BK1; clear HB; have BK1 := n0_; have HB := n1_; clear n0_ n1_; (try clear hb); (try clear hb2); (try clear hk); (try clear hi); have hcz16_0 : w15.cell? ⟨gb1, 0, none⟩ = some (.bool false) := (blk_cell BK1.out 0).trans rfl; have hcz16_1 : w15.cell? ⟨gb1, 1, none⟩ = some (.bool false) := (blk_cell BK1.out 1).trans rfl; have hcz16_2 : w15.cell? ⟨gb1, 2, none⟩ = some (.bool false) := (blk_cell BK1.out 2).trans rfl; have hcz16_3 : w15.cell? ⟨gb1, 3, none⟩ = some (.bool false) := (blk_cell BK1.out 3).trans rfl; have hcz16_4 : w15.cell? ⟨gb1, 4, none⟩ = some (.bool false) := (blk_cell BK1.out 4).trans rfl; have hcz16_5 : w15.cell? ⟨gb1, 5, none⟩ = some (.bool false) := (blk_cell BK1.out 5).trans rfl; have hcz16_6 : w15.cell? ⟨gb1, 6, none⟩ = some (.bool false) := (blk_cell BK1.out 6).trans rfl; have hcz16_7 : w15.cell? ⟨gb1, 7, none⟩ = some (.bool false) := (blk_cell BK1.out 7).trans rfl; have hcz16_8 : w15.cell? ⟨gb1, 8, none⟩ = some (.int .i64 0) := (blk_cell BK1.out 8).trans rfl; have hcz16_9 : w15.cell? ⟨gb1, 9, none⟩ = some (.int .i64 0) := (blk_cell BK1.out 9).trans rfl; have hcz16_10 : w15.cell? ⟨gb1, 10, none⟩ = some (.int .i64 0) := (blk_cell BK1.out 10).trans rfl; have hcz16_11 : w15.cell? ⟨gb1, 11, none⟩ = some (.int .i64 0) := (blk_cell BK1.out 11).trans rfl; have hcz16_12 : w15.cell? ⟨gb1, 12, none⟩ = some (.int .i64 0) := (blk_cell BK1.out 12).trans rfl; have hfz16_0 := blk_frozen BK1.out 0; have hfz16_1 := blk_frozen BK1.out 1; have hfz16_2 := blk_frozen BK1.out 2; have hfz16_3 := blk_frozen BK1.out 3; have hfz16_4 := blk_frozen BK1.out 4; have hfz16_5 := blk_frozen BK1.out 5; have hfz16_6 := blk_frozen BK1.out 6; have hfz16_7 := blk_frozen BK1.out 7; have hfz16_8 := blk_frozen BK1.out 8; have hfz16_9 := blk_frozen BK1.out 9; have hfz16_10 := blk_frozen BK1.out 10; have hfz16_11 := blk_frozen BK1.out 11; have hfz16_12 := blk_frozen BK1.out 12))
    refine bodyPost_ret (results_cell_row rfl _ _ gb1 34 #[.bool t20, .bool t21, .bool t22, .bool t23, .bool t24, .bool t25, .bool t26, .bool t27, .int .i64 t28, .int .i64 t29, .int .i64 t30, .int .i64 t31, .int .i64 t32] (0, 0) _ rfl (by (with_reducible repeat (first | refine blk_drewN ?_ _ | refine blk_drew ?_ | refine blk_alloc ?_ _)); refine blk_put (cs := #[.bool t20, .bool t21, .bool t22, .bool t23, .bool t24, .bool t25, .bool t26, .bool t27, .int .i64 t28, .int .i64 t29, .int .i64 t30, .int .i64 t31, .int .i64 0]) ?_ 12 _ rfl; (with_reducible repeat (first | refine blk_drewN ?_ _ | refine blk_drew ?_ | refine blk_alloc ?_ _)); refine blk_put (cs := #[.bool t20, .bool t21, .bool t22, .bool t23, .bool t24, .bool t25, .bool t26, .bool t27, .int .i64 t28, .int .i64 t29, .int .i64 t30, .int .i64 0, .int .i64 0]) ?_ 11 _ rfl; (with_reducible repeat (first | refine blk_drewN ?_ _ | refine blk_drew ?_ | refine blk_alloc ?_ _)); refine blk_put (cs := #[.bool t20, .bool t21, .bool t22, .bool t23, .bool t24, .bool t25, .bool t26, .bool t27, .int .i64 t28, .int .i64 t29, .int .i64 0, .int .i64 0, .int .i64 0]) ?_ 10 _ rfl; (with_reducible repeat (first | refine blk_drewN ?_ _ | refine blk_drew ?_ | refine blk_alloc ?_ _)); refine blk_put (cs := #[.bool t20, .bool t21, .bool t22, .bool t23, .bool t24, .bool t25, .bool t26, .bool t27, .int .i64 t28, .int .i64 0, .int .i64 0, .int .i64 0, .int .i64 0]) ?_ 9 _ rfl; (with_reducible repeat (first | refine blk_drewN ?_ _ | refine blk_drew ?_ | refine blk_alloc ?_ _)); refine blk_put (cs := #[.bool t20, .bool t21, .bool t22, .bool t23, .bool t24, .bool t25, .bool t26, .bool t27, .int .i64 0, .int .i64 0, .int .i64 0, .int .i64 0, .int .i64 0]) ?_ 8 _ rfl; (with_reducible repeat (first | refine blk_drewN ?_ _ | refine blk_drew ?_ | refine blk_alloc ?_ _)); refine blk_put (cs := #[.bool t20, .bool t21, .bool t22, .bool t23, .bool t24, .bool t25, .bool t26, .bool false, .int .i64 0, .int .i64 0, .int .i64 0, .int .i64 0, .int .i64 0]) ?_ 7 _ rfl; (with_reducible repeat (first | refine blk_drewN ?_ _ | refine blk_drew ?_ | refine blk_alloc ?_ _)); refine blk_put (cs := #[.bool t20, .bool t21, .bool t22, .bool t23, .bool t24, .bool t25, .bool false, .bool false, .int .i64 0, .int .i64 0, .int .i64 0, .int .i64 0, .int .i64 0]) ?_ 6 _ rfl; (with_reducible repeat (first | refine blk_drewN ?_ _ | refine blk_drew ?_ | refine blk_alloc ?_ _)); refine blk_put (cs := #[.bool t20, .bool t21, .bool t22, .bool t23, .bool t24, .bool false, .bool false, .bool false, .int .i64 0, .int .i64 0, .int .i64 0, .int .i64 0, .int .i64 0]) ?_ 5 _ rfl; (with_reducible repeat (first | refine blk_drewN ?_ _ | refine blk_drew ?_ | refine blk_alloc ?_ _)); refine blk_put (cs := #[.bool t20, .bool t21, .bool t22, .bool t23, .bool false, .bool false, .bool false, .bool false, .int .i64 0, .int .i64 0, .int .i64 0, .int .i64 0, .int .i64 0]) ?_ 4 _ rfl; (with_reducible repeat (first | refine blk_drewN ?_ _ | refine blk_drew ?_ | refine blk_alloc ?_ _)); refine blk_put (cs := #[.bool t20, .bool t21, .bool t22, .bool false, .bool false, .bool false, .bool false, .bool false, .int .i64 0, .int .i64 0, .int .i64 0, .int .i64 0, .int .i64 0]) ?_ 3 _ rfl; (with_reducible repeat (first | refine blk_drewN ?_ _ | refine blk_drew ?_ | refine blk_alloc ?_ _)); refine blk_put (cs := #[.bool t20, .bool t21, .bool false, .bool false, .bool false, .bool false, .bool false, .bool false, .int .i64 0, .int .i64 0, .int .i64 0, .int .i64 0, .int .i64 0]) ?_ 2 _ rfl; (with_reducible repeat (first | refine blk_drewN ?_ _ | refine blk_drew ?_ | refine blk_alloc ?_ _)); refine blk_put (cs := #[.bool t20, .bool false, .bool false, .bool false, .bool false, .bool false, .bool false, .bool false, .int .i64 0, .int .i64 0, .int .i64 0, .int .i64 0, .int .i64 0]) ?_ 1 _ rfl; (with_reducible repeat (first | refine blk_drewN ?_ _ | refine blk_drew ?_ | refine blk_alloc ?_ _)); refine blk_put (cs := #[.bool false, .bool false, .bool false, .bool false, .bool false, .bool false, .bool false, .bool false, .int .i64 0, .int .i64 0, .int .i64 0, .int .i64 0, .int .i64 0]) ?_ 0 _ rfl; (with_reducible repeat (first | refine blk_drewN ?_ _ | refine blk_drew ?_ | refine blk_alloc ?_ _)); exact BK1.out) Tryz.underlying34 rfl (by kernel_rfl)) rfl ?_
    exact ⟨by first | rfl | (simp [errW_none, errW_some] <;> rfl) | (simp [*, errW_none, errW_some] <;> rfl), by repeat (first | (with_reducible first | exact HB.out | apply below_alloc | apply pw_below_drewN | apply below_drew1 | refine below_set ?_ GE1.out) | exact HB.out)⟩
end Go.Proofs.YtebfpnbnoinhbaaGreatDoor.Q
namespace Go.Proofs.YtebfpnbnoinhbaaGreatDoor.Q
open Go.RowKit Go.Proofs.YtebfpnbnoinhbaaGreatDoorW.PrintWords Go.Proofs.YtebfpnbnoinhbaaGreatDoorW.PrintLast Go.Proofs.YtebfpnbnoinhbaaGreatDoorW.PrintMore
attribute [local go_sem] max2_int max_two
set_option linter.unusedVariables false
set_option linter.unusedSimpArgs false
def modern_Choose.j0 : Nat → List (S51) → Option (Bool × Bool × Bool × Bool × Bool × Bool × Bool × Bool × Int × Int × Int × Int × Int × Int)
  | 0, _ => none
  | k + 1, x0 => (head_Get.f x0 (⟨#[99, 97, 99, 104, 101, 45, 99, 111, 110, 116, 114, 111, 108]⟩ : ByteArray)).bind fun bt19 => (if bt19.2 = true then ((legacy_Read.f k x0).bind fun bt21 => (some (bt21.1, bt21.2.1, bt21.2.2.1, bt21.2.2.2.1, bt21.2.2.2.2.1, bt21.2.2.2.2.2.1, bt21.2.2.2.2.2.2.1, bt21.2.2.2.2.2.2.2.1, bt21.2.2.2.2.2.2.2.2.1, bt21.2.2.2.2.2.2.2.2.2.1, bt21.2.2.2.2.2.2.2.2.2.2.1, bt21.2.2.2.2.2.2.2.2.2.2.2.1, bt21.2.2.2.2.2.2.2.2.2.2.2.2, 1))) else ((legacy_None.f).bind fun bt34 => (some (bt34.1, bt34.2.1, bt34.2.2.1, bt34.2.2.2.1, bt34.2.2.2.2.1, bt34.2.2.2.2.2.1, bt34.2.2.2.2.2.2.1, bt34.2.2.2.2.2.2.2.1, bt34.2.2.2.2.2.2.2.2.1, bt34.2.2.2.2.2.2.2.2.2.1, bt34.2.2.2.2.2.2.2.2.2.2.1, bt34.2.2.2.2.2.2.2.2.2.2.2.1, bt34.2.2.2.2.2.2.2.2.2.2.2.2, 0))))
def modern_Choose.f (k : Nat) (l0 : List (S51)) : Option (Bool × Bool × Bool × Bool × Bool × Bool × Bool × Bool × Int × Int × Int × Int × Int × Int) := (head_Get.f l0 (⟨#[99, 100, 110, 45, 99, 97, 99, 104, 101, 45, 99, 111, 110, 116, 114, 111, 108]⟩ : ByteArray)).bind fun bt2 => (if bt2.2 = true then ((modern_Parse.f bt2.1).bind fun bt4 => (if bt4.2.2.2.2.2.2.2.2.2.2.2.2.2 = true then (some (bt4.1, bt4.2.1, bt4.2.2.1, bt4.2.2.2.1, bt4.2.2.2.2.1, bt4.2.2.2.2.2.1, bt4.2.2.2.2.2.2.1, bt4.2.2.2.2.2.2.2.1, bt4.2.2.2.2.2.2.2.2.1, bt4.2.2.2.2.2.2.2.2.2.1, bt4.2.2.2.2.2.2.2.2.2.2.1, bt4.2.2.2.2.2.2.2.2.2.2.2.1, bt4.2.2.2.2.2.2.2.2.2.2.2.2.1, 2)) else (modern_Choose.j0 k l0))) else (modern_Choose.j0 k l0))
set_option maxHeartbeats 8000000 in
set_option maxRecDepth 100000 in
theorem modern_Choose.calls (k : Nat) (A0 : Option Addr) (c0 : Nat) (l0 : List (S51)) (r1 : Bool) (r2 : Bool) (r3 : Bool) (r4 : Bool) (r5 : Bool) (r6 : Bool) (r7 : Bool) (r8 : Bool) (r9 : Int) (r10 : Int) (r11 : Int) (r12 : Int) (r13 : Int) (r14 : Int) (w : World) (hr0 : Kd.C k51 w A0 l0.length l0) (hc0 : l0.length ≤ c0) (HG0 : GL w) (h : modern_Choose.f k l0 = some (r1, r2, r3, r4, r5, r6, r7, r8, r9, r10, r11, r12, r13, r14)) :
    Calls Tryz.prog 21 #[.slice A0 l0.length c0] w fun e w' => e = .returned (.tuple #[.agg #[.bool r1, .bool r2, .bool r3, .bool r4, .bool r5, .bool r6, .bool r7, .bool r8, .int .i64 r9, .int .i64 r10, .int .i64 r11, .int .i64 r12, .int .i64 r13], .int .i64 r14]) ∧ Below w.heap.size w w' := by
  have hu34 := Tryz.underlying34
  have HG := Aside0.mk HG0
  clear HG0
  have HR0 := Aside0.mk hr0
  have HC0 := Aside0.mk hc0
  clear hr0 hc0
  have HB := Aside0.mk (Below.refl w.heap.size w)
  have H : ((head_Get.f l0 (⟨#[99, 100, 110, 45, 99, 97, 99, 104, 101, 45, 99, 111, 110, 116, 114, 111, 108]⟩ : ByteArray)).bind fun bt2 => (if bt2.2 = true then ((modern_Parse.f bt2.1).bind fun bt4 => (if bt4.2.2.2.2.2.2.2.2.2.2.2.2.2 = true then (some (bt4.1, bt4.2.1, bt4.2.2.1, bt4.2.2.2.1, bt4.2.2.2.2.1, bt4.2.2.2.2.2.1, bt4.2.2.2.2.2.2.1, bt4.2.2.2.2.2.2.2.1, bt4.2.2.2.2.2.2.2.2.1, bt4.2.2.2.2.2.2.2.2.2.1, bt4.2.2.2.2.2.2.2.2.2.2.1, bt4.2.2.2.2.2.2.2.2.2.2.2.1, bt4.2.2.2.2.2.2.2.2.2.2.2.2.1, 2)) else (modern_Choose.j0 k l0))) else (modern_Choose.j0 k l0))) = some (r1, r2, r3, r4, r5, r6, r7, r8, r9, r10, r11, r12, r13, r14) := h
  clear h
  replace H := Option.bind_eq_some_iff.mp H
  obtain ⟨⟨t2, t3⟩, A20, H⟩ := H
  replace H : (if t3 = true then ((modern_Parse.f t2).bind fun bt4 => (if bt4.2.2.2.2.2.2.2.2.2.2.2.2.2 = true then (some (bt4.1, bt4.2.1, bt4.2.2.1, bt4.2.2.2.1, bt4.2.2.2.2.1, bt4.2.2.2.2.2.1, bt4.2.2.2.2.2.2.1, bt4.2.2.2.2.2.2.2.1, bt4.2.2.2.2.2.2.2.2.1, bt4.2.2.2.2.2.2.2.2.2.1, bt4.2.2.2.2.2.2.2.2.2.2.1, bt4.2.2.2.2.2.2.2.2.2.2.2.1, bt4.2.2.2.2.2.2.2.2.2.2.2.2.1, 2)) else (modern_Choose.j0 k l0))) else (modern_Choose.j0 k l0)) = some (r1, r2, r3, r4, r5, r6, r7, r8, r9, r10, r11, r12, r13, r14) := H
  have A2 := Aside0.mk A20
  clear A20
  have HC3 := Aside0.mk H
  clear H
  go_enter Tryz.func21, Tryz.ntmps21
  go_upto_if 15 with (first | ((with_reducible refine gate_dst (N := 2) rfl ?_); refine box_event ?hg (N := 2) ?hd (cs := #[.bool false, .bool false, .bool false, .bool false, .bool false, .bool false, .bool false, .bool false, .int .i64 0, .int .i64 0, .int .i64 0, .int .i64 0, .int .i64 0]) (t := 34) ?hr ?_; (case hd => rfl); (case hg => rfl); (case hr => first | (go_simp; done) | (go_simp; rfl)); intro gb1 hg w4 hbox hb; have n0_ := Aside0.mk (below_step (by repeat (first | (with_reducible first | exact HB.out | apply below_alloc | apply pw_below_drewN | apply below_drew1) | exact HB.out)) hb); have n1_ := Aside0.mk (hbox); have n2_ := Aside0.mk ((by rw [hg]; exact (below_size (by repeat (first | (with_reducible first | exact HB.out | apply below_alloc | apply pw_below_drewN | apply below_drew1) | exact HB.out))) : w.heap.size ≤ gb1)); have n3_ := Aside0.mk ((by rw [hg]; exact (below_size (by repeat (first | (with_reducible first | exact HB.out | apply below_alloc | apply pw_below_drewN | apply below_drew1) | exact HB.out))) : w.heap.size ≤ gb1)); clear HB; have HB := n0_; have BK1 := n1_; have GW1 := n2_; have GE1 := n3_; clear n0_ n1_ n2_ n3_; clear hb hbox hg) | ((with_reducible refine gate_callee (f := 47) rfl ?_); refine goesL_ (some 12) rfl rfl Tryz.func47 (by kernel_rfl) rfl #[.slice A0 l0.length c0, .string (⟨#[99, 100, 110, 45, 99, 97, 99, 104, 101, 45, 99, 111, 110, 116, 114, 111, 108]⟩ : ByteArray)] rfl (by (try simp only [List.map_toArray, List.map_cons, List.map_nil]); first | done | rfl | (simp only [List.length_drop, List.length_take]; rfl)) ?_; (with_reducible refine (head_Get.calls _ _ l0 (⟨#[99, 100, 110, 45, 99, 97, 99, 104, 101, 45, 99, 111, 110, 116, 114, 111, 108]⟩ : ByteArray) t2 t3 _ ?side1 ?side2 A2.out).mono ?_); (case side1 => repeat (first | exact (Kd.C_below HR0.out HB.out) | (with_reducible refine Kd.C_alloc ?_ _) | (with_reducible refine Kd.C_drewN ?_ _) | (with_reducible refine Kd.C_drew ?_))); (case side2 => exact HC0.out); rintro e w5 ⟨rfl, hb⟩; refine ⟨_, rfl, ?_⟩; have n0_ := Aside0.mk (blk_below (g := gb1) (o := .cells #[.bool false, .bool false, .bool false, .bool false, .bool false, .bool false, .bool false, .bool false, .int .i64 0, .int .i64 0, .int .i64 0, .int .i64 0, .int .i64 0] 34 (0, 0)) (by (with_reducible repeat (first | refine blk_drewN ?_ _ | refine blk_drew ?_ | refine blk_alloc ?_ _)); exact BK1.out) hb); have n1_ := Aside0.mk (below_step (by repeat (first | (with_reducible first | exact HB.out | apply below_alloc | apply pw_below_drewN | apply below_drew1 | refine below_set ?_ GE1.out) | exact HB.out)) hb); clear BK1; clear HB; have BK1 := n0_; have HB := n1_; clear n0_ n1_; (try clear hb); (try clear hb2); (try clear hk); (try clear hi)))
  (try simp only [Act.put, List.setIfInBounds_toArray, List.set_cons_zero, List.set_cons_succ])
  go_cut [] (fun wc => ∃ (kq : Nat) (x2000_2 : Bool) (x2001_2 : Bool) (x2002_2 : Bool) (x2003_2 : Bool) (x2004_2 : Bool) (x2005_2 : Bool) (x2006_2 : Bool) (x2007_2 : Bool) (x2008_2 : Int) (x2009_2 : Int) (x2010_2 : Int) (x2011_2 : Int) (x2012_2 : Int), Aside0 (modern_Choose.j0 kq l0 = some (r1, r2, r3, r4, r5, r6, r7, r8, r9, r10, r11, r12, r13, r14)) ∧ Aside0 (kq ≤ k) ∧ Aside0 (wc.heap[gb1]? = some (.cells #[.bool x2000_2, .bool x2001_2, .bool x2002_2, .bool x2003_2, .bool x2004_2, .bool x2005_2, .bool x2006_2, .bool x2007_2, .int .i64 x2008_2, .int .i64 x2009_2, .int .i64 x2010_2, .int .i64 x2011_2, .int .i64 x2012_2] 34 (0, 0))) ∧ Aside0 (Below w.heap.size w wc))
  case first =>
    have H := HC3.out
    clear HC3
    by_cases c6 : t3 = true
    · subst c6
      have H1 : ((modern_Parse.f t2).bind fun bt4 => (if bt4.2.2.2.2.2.2.2.2.2.2.2.2.2 = true then (some (bt4.1, bt4.2.1, bt4.2.2.1, bt4.2.2.2.1, bt4.2.2.2.2.1, bt4.2.2.2.2.2.1, bt4.2.2.2.2.2.2.1, bt4.2.2.2.2.2.2.2.1, bt4.2.2.2.2.2.2.2.2.1, bt4.2.2.2.2.2.2.2.2.2.1, bt4.2.2.2.2.2.2.2.2.2.2.1, bt4.2.2.2.2.2.2.2.2.2.2.2.1, bt4.2.2.2.2.2.2.2.2.2.2.2.2.1, 2)) else (modern_Choose.j0 k l0))) = some (r1, r2, r3, r4, r5, r6, r7, r8, r9, r10, r11, r12, r13, r14) := by rw [if_pos rfl] at H; exact H
      clear H
      have H := H1
      clear H1
      replace H := Option.bind_eq_some_iff.mp H
      obtain ⟨⟨t4, t5, t6, t7, t8, t9, t10, t11, t12, t13, t14, t15, t16, t17⟩, A70, H⟩ := H
      replace H : (if t17 = true then (some (t4, t5, t6, t7, t8, t9, t10, t11, t12, t13, t14, t15, t16, 2)) else (modern_Choose.j0 k l0)) = some (r1, r2, r3, r4, r5, r6, r7, r8, r9, r10, r11, r12, r13, r14) := H
      have A7 := Aside0.mk A70
      clear A70
      by_cases c8 : t17 = true
      · subst c8
        have H1 : (some (t4, t5, t6, t7, t8, t9, t10, t11, t12, t13, t14, t15, t16, 2)) = some (r1, r2, r3, r4, r5, r6, r7, r8, r9, r10, r11, r12, r13, r14) := by rw [if_pos rfl] at H; exact H
        clear H
        have H := H1
        clear H1
        simp only [Option.some.injEq, Prod.mk.injEq] at H
        obtain ⟨rfl, rfl, rfl, rfl, rfl, rfl, rfl, rfl, rfl, rfl, rfl, rfl, rfl, rfl⟩ := H
        go_wp2_with (first | ((with_reducible refine gate_callee (f := 19) rfl ?_); refine goesL_ (some 18) rfl rfl Tryz.func19 (by kernel_rfl) rfl #[.string t2] rfl (by (try simp only [List.map_toArray, List.map_cons, List.map_nil]); first | done | rfl | (simp only [List.length_drop, List.length_take]; rfl)) ?_; (with_reducible refine (modern_Parse.calls t2 t4 t5 t6 t7 t8 t9 t10 t11 t12 t13 t14 t15 t16 true _ ?side1 A7.out).mono ?_); (case side1 => exact GL.below HG.out (by repeat (first | (with_reducible first | exact HB.out | apply below_alloc | apply pw_below_drewN | apply below_drew1 | refine below_set ?_ GE1.out) | exact HB.out))); rintro e w9 ⟨rfl, hb⟩; refine ⟨_, rfl, ?_⟩; have n0_ := Aside0.mk (blk_below (g := gb1) (o := .cells #[.bool false, .bool false, .bool false, .bool false, .bool false, .bool false, .bool false, .bool false, .int .i64 0, .int .i64 0, .int .i64 0, .int .i64 0, .int .i64 0] 34 (0, 0)) (by (with_reducible repeat (first | refine blk_drewN ?_ _ | refine blk_drew ?_ | refine blk_alloc ?_ _)); exact BK1.out) hb); have n1_ := Aside0.mk (below_step (by repeat (first | (with_reducible first | exact HB.out | apply below_alloc | apply pw_below_drewN | apply below_drew1 | refine below_set ?_ GE1.out) | exact HB.out)) hb); clear BK1; clear HB; have BK1 := n0_; have HB := n1_; clear n0_ n1_; (try clear hb); (try clear hb2); (try clear hk); (try clear hi)) | ((with_reducible refine gate_dst (N := 6) rfl ?_); refine box_event ?hg (N := 6) ?hd (cs := #[.bool false, .bool false, .bool false, .bool false, .bool false, .bool false, .bool false, .bool false, .int .i64 0, .int .i64 0, .int .i64 0, .int .i64 0, .int .i64 0]) (t := 34) ?hr ?_; (case hd => rfl); (case hg => rfl); (case hr => first | (go_simp; done) | (go_simp; rfl)); intro gb18 hg w10 hbox hb; have n0_ := Aside0.mk (blk_below (g := gb1) (o := .cells #[.bool false, .bool false, .bool false, .bool false, .bool false, .bool false, .bool false, .bool false, .int .i64 0, .int .i64 0, .int .i64 0, .int .i64 0, .int .i64 0] 34 (0, 0)) (by (with_reducible repeat (first | refine blk_drewN ?_ _ | refine blk_drew ?_ | refine blk_alloc ?_ _)); exact BK1.out) hb); have n1_ := Aside0.mk (below_step (by repeat (first | (with_reducible first | exact HB.out | apply below_alloc | apply pw_below_drewN | apply below_drew1 | refine below_set ?_ GE1.out) | exact HB.out)) hb); have n2_ := Aside0.mk (hbox); have n3_ := Aside0.mk ((by rw [hg]; exact (below_size (by repeat (first | (with_reducible first | exact HB.out | apply below_alloc | apply pw_below_drewN | apply below_drew1 | refine below_set ?_ GE1.out) | exact HB.out))) : w.heap.size ≤ gb18)); have n4_ := Aside0.mk ((by rw [hg]; exact (below_size (by repeat (first | (with_reducible first | exact HB.out | apply below_alloc | apply pw_below_drewN | apply below_drew1 | refine below_set ?_ GE1.out) | exact HB.out))) : w.heap.size ≤ gb18)); have n5_ := Aside0.mk ((by rw [hg]; exact Nat.ne_of_lt (blk_lt (g := gb1) (o := .cells #[.bool false, .bool false, .bool false, .bool false, .bool false, .bool false, .bool false, .bool false, .int .i64 0, .int .i64 0, .int .i64 0, .int .i64 0, .int .i64 0] 34 (0, 0)) (by (with_reducible repeat (first | refine blk_drewN ?_ _ | refine blk_drew ?_ | refine blk_alloc ?_ _)); exact BK1.out)) : gb1 ≠ gb18)); have n6_ := Aside0.mk ((by rw [hg]; exact Nat.ne_of_gt (blk_lt (g := gb1) (o := .cells #[.bool false, .bool false, .bool false, .bool false, .bool false, .bool false, .bool false, .bool false, .int .i64 0, .int .i64 0, .int .i64 0, .int .i64 0, .int .i64 0] 34 (0, 0)) (by (with_reducible repeat (first | refine blk_drewN ?_ _ | refine blk_drew ?_ | refine blk_alloc ?_ _)); exact BK1.out)) : gb18 ≠ gb1)); clear BK1; clear HB; have BK1 := n0_; have HB := n1_; have BK18 := n2_; have GW18 := n3_; have GE18 := n4_; have NB1_18 := n5_; have NB18_1 := n6_; clear n0_ n1_ n2_ n3_ n4_ n5_ n6_; clear hb hbox hg; have hnb11 := NB18_1.out; have hnc11 := NB1_18.out; have hcz12_0 : w10.cell? ⟨gb18, 0, none⟩ = some (.bool false) := (blk_cell BK18.out 0).trans rfl; have hcz12_1 : w10.cell? ⟨gb18, 1, none⟩ = some (.bool false) := (blk_cell BK18.out 1).trans rfl; have hcz12_2 : w10.cell? ⟨gb18, 2, none⟩ = some (.bool false) := (blk_cell BK18.out 2).trans rfl; have hcz12_3 : w10.cell? ⟨gb18, 3, none⟩ = some (.bool false) := (blk_cell BK18.out 3).trans rfl; have hcz12_4 : w10.cell? ⟨gb18, 4, none⟩ = some (.bool false) := (blk_cell BK18.out 4).trans rfl; have hcz12_5 : w10.cell? ⟨gb18, 5, none⟩ = some (.bool false) := (blk_cell BK18.out 5).trans rfl; have hcz12_6 : w10.cell? ⟨gb18, 6, none⟩ = some (.bool false) := (blk_cell BK18.out 6).trans rfl; have hcz12_7 : w10.cell? ⟨gb18, 7, none⟩ = some (.bool false) := (blk_cell BK18.out 7).trans rfl; have hcz12_8 : w10.cell? ⟨gb18, 8, none⟩ = some (.int .i64 0) := (blk_cell BK18.out 8).trans rfl; have hcz12_9 : w10.cell? ⟨gb18, 9, none⟩ = some (.int .i64 0) := (blk_cell BK18.out 9).trans rfl; have hcz12_10 : w10.cell? ⟨gb18, 10, none⟩ = some (.int .i64 0) := (blk_cell BK18.out 10).trans rfl; have hcz12_11 : w10.cell? ⟨gb18, 11, none⟩ = some (.int .i64 0) := (blk_cell BK18.out 11).trans rfl; have hcz12_12 : w10.cell? ⟨gb18, 12, none⟩ = some (.int .i64 0) := (blk_cell BK18.out 12).trans rfl; have hfz12_0 := blk_frozen BK18.out 0; have hfz12_1 := blk_frozen BK18.out 1; have hfz12_2 := blk_frozen BK18.out 2; have hfz12_3 := blk_frozen BK18.out 3; have hfz12_4 := blk_frozen BK18.out 4; have hfz12_5 := blk_frozen BK18.out 5; have hfz12_6 := blk_frozen BK18.out 6; have hfz12_7 := blk_frozen BK18.out 7; have hfz12_8 := blk_frozen BK18.out 8; have hfz12_9 := blk_frozen BK18.out 9; have hfz12_10 := blk_frozen BK18.out 10; have hfz12_11 := blk_frozen BK18.out 11; have hfz12_12 := blk_frozen BK18.out 12; have hcz13_0 : w10.cell? ⟨gb1, 0, none⟩ = some (.bool false) := (blk_cell BK1.out 0).trans rfl; have hcz13_1 : w10.cell? ⟨gb1, 1, none⟩ = some (.bool false) := (blk_cell BK1.out 1).trans rfl; have hcz13_2 : w10.cell? ⟨gb1, 2, none⟩ = some (.bool false) := (blk_cell BK1.out 2).trans rfl; have hcz13_3 : w10.cell? ⟨gb1, 3, none⟩ = some (.bool false) := (blk_cell BK1.out 3).trans rfl; have hcz13_4 : w10.cell? ⟨gb1, 4, none⟩ = some (.bool false) := (blk_cell BK1.out 4).trans rfl; have hcz13_5 : w10.cell? ⟨gb1, 5, none⟩ = some (.bool false) := (blk_cell BK1.out 5).trans rfl; have hcz13_6 : w10.cell? ⟨gb1, 6, none⟩ = some (.bool false) := (blk_cell BK1.out 6).trans rfl; have hcz13_7 : w10.cell? ⟨gb1, 7, none⟩ = some (.bool false) := (blk_cell BK1.out 7).trans rfl; have hcz13_8 : w10.cell? ⟨gb1, 8, none⟩ = some (.int .i64 0) := (blk_cell BK1.out 8).trans rfl; have hcz13_9 : w10.cell? ⟨gb1, 9, none⟩ = some (.int .i64 0) := (blk_cell BK1.out 9).trans rfl; have hcz13_10 : w10.cell? ⟨gb1, 10, none⟩ = some (.int .i64 0) := (blk_cell BK1.out 10).trans rfl; have hcz13_11 : w10.cell? ⟨gb1, 11, none⟩ = some (.int .i64 0) := (blk_cell BK1.out 11).trans rfl; have hcz13_12 : w10.cell? ⟨gb1, 12, none⟩ = some (.int .i64 0) := (blk_cell BK1.out 12).trans rfl; have hfz13_0 := blk_frozen BK1.out 0; have hfz13_1 := blk_frozen BK1.out 1; have hfz13_2 := blk_frozen BK1.out 2; have hfz13_3 := blk_frozen BK1.out 3; have hfz13_4 := blk_frozen BK1.out 4; have hfz13_5 := blk_frozen BK1.out 5; have hfz13_6 := blk_frozen BK1.out 6; have hfz13_7 := blk_frozen BK1.out 7; have hfz13_8 := blk_frozen BK1.out 8; have hfz13_9 := blk_frozen BK1.out 9; have hfz13_10 := blk_frozen BK1.out 10; have hfz13_11 := blk_frozen BK1.out 11; have hfz13_12 := blk_frozen BK1.out 12))
        refine bodyPost_ret (results_ct rfl _ _ gb1 34 #[.bool t4, .bool t5, .bool t6, .bool t7, .bool t8, .bool t9, .bool t10, .bool t11, .int .i64 t12, .int .i64 t13, .int .i64 t14, .int .i64 t15, .int .i64 t16] (0, 0) _ rfl (by (with_reducible repeat (first | refine blk_drewN ?_ _ | refine blk_drew ?_ | refine blk_alloc ?_ _)); refine blk_put (cs := #[.bool t4, .bool t5, .bool t6, .bool t7, .bool t8, .bool t9, .bool t10, .bool t11, .int .i64 t12, .int .i64 t13, .int .i64 t14, .int .i64 t15, .int .i64 0]) ?_ 12 _ rfl; (with_reducible repeat (first | refine blk_drewN ?_ _ | refine blk_drew ?_ | refine blk_alloc ?_ _)); refine blk_put (cs := #[.bool t4, .bool t5, .bool t6, .bool t7, .bool t8, .bool t9, .bool t10, .bool t11, .int .i64 t12, .int .i64 t13, .int .i64 t14, .int .i64 0, .int .i64 0]) ?_ 11 _ rfl; (with_reducible repeat (first | refine blk_drewN ?_ _ | refine blk_drew ?_ | refine blk_alloc ?_ _)); refine blk_put (cs := #[.bool t4, .bool t5, .bool t6, .bool t7, .bool t8, .bool t9, .bool t10, .bool t11, .int .i64 t12, .int .i64 t13, .int .i64 0, .int .i64 0, .int .i64 0]) ?_ 10 _ rfl; (with_reducible repeat (first | refine blk_drewN ?_ _ | refine blk_drew ?_ | refine blk_alloc ?_ _)); refine blk_put (cs := #[.bool t4, .bool t5, .bool t6, .bool t7, .bool t8, .bool t9, .bool t10, .bool t11, .int .i64 t12, .int .i64 0, .int .i64 0, .int .i64 0, .int .i64 0]) ?_ 9 _ rfl; (with_reducible repeat (first | refine blk_drewN ?_ _ | refine blk_drew ?_ | refine blk_alloc ?_ _)); refine blk_put (cs := #[.bool t4, .bool t5, .bool t6, .bool t7, .bool t8, .bool t9, .bool t10, .bool t11, .int .i64 0, .int .i64 0, .int .i64 0, .int .i64 0, .int .i64 0]) ?_ 8 _ rfl; (with_reducible repeat (first | refine blk_drewN ?_ _ | refine blk_drew ?_ | refine blk_alloc ?_ _)); refine blk_put (cs := #[.bool t4, .bool t5, .bool t6, .bool t7, .bool t8, .bool t9, .bool t10, .bool false, .int .i64 0, .int .i64 0, .int .i64 0, .int .i64 0, .int .i64 0]) ?_ 7 _ rfl; (with_reducible repeat (first | refine blk_drewN ?_ _ | refine blk_drew ?_ | refine blk_alloc ?_ _)); refine blk_put (cs := #[.bool t4, .bool t5, .bool t6, .bool t7, .bool t8, .bool t9, .bool false, .bool false, .int .i64 0, .int .i64 0, .int .i64 0, .int .i64 0, .int .i64 0]) ?_ 6 _ rfl; (with_reducible repeat (first | refine blk_drewN ?_ _ | refine blk_drew ?_ | refine blk_alloc ?_ _)); refine blk_put (cs := #[.bool t4, .bool t5, .bool t6, .bool t7, .bool t8, .bool false, .bool false, .bool false, .int .i64 0, .int .i64 0, .int .i64 0, .int .i64 0, .int .i64 0]) ?_ 5 _ rfl; (with_reducible repeat (first | refine blk_drewN ?_ _ | refine blk_drew ?_ | refine blk_alloc ?_ _)); refine blk_put (cs := #[.bool t4, .bool t5, .bool t6, .bool t7, .bool false, .bool false, .bool false, .bool false, .int .i64 0, .int .i64 0, .int .i64 0, .int .i64 0, .int .i64 0]) ?_ 4 _ rfl; (with_reducible repeat (first | refine blk_drewN ?_ _ | refine blk_drew ?_ | refine blk_alloc ?_ _)); refine blk_put (cs := #[.bool t4, .bool t5, .bool t6, .bool false, .bool false, .bool false, .bool false, .bool false, .int .i64 0, .int .i64 0, .int .i64 0, .int .i64 0, .int .i64 0]) ?_ 3 _ rfl; (with_reducible repeat (first | refine blk_drewN ?_ _ | refine blk_drew ?_ | refine blk_alloc ?_ _)); refine blk_put (cs := #[.bool t4, .bool t5, .bool false, .bool false, .bool false, .bool false, .bool false, .bool false, .int .i64 0, .int .i64 0, .int .i64 0, .int .i64 0, .int .i64 0]) ?_ 2 _ rfl; (with_reducible repeat (first | refine blk_drewN ?_ _ | refine blk_drew ?_ | refine blk_alloc ?_ _)); refine blk_put (cs := #[.bool t4, .bool false, .bool false, .bool false, .bool false, .bool false, .bool false, .bool false, .int .i64 0, .int .i64 0, .int .i64 0, .int .i64 0, .int .i64 0]) ?_ 1 _ rfl; (with_reducible repeat (first | refine blk_drewN ?_ _ | refine blk_drew ?_ | refine blk_alloc ?_ _)); refine blk_put (cs := #[.bool false, .bool false, .bool false, .bool false, .bool false, .bool false, .bool false, .bool false, .int .i64 0, .int .i64 0, .int .i64 0, .int .i64 0, .int .i64 0]) ?_ 0 _ rfl; (with_reducible repeat (first | refine blk_drewN ?_ _ | refine blk_drew ?_ | refine blk_alloc ?_ _)); refine blk_far ?_ NB1_18.out _; (with_reducible repeat (first | refine blk_drewN ?_ _ | refine blk_drew ?_ | refine blk_alloc ?_ _)); refine blk_far ?_ NB1_18.out _; (with_reducible repeat (first | refine blk_drewN ?_ _ | refine blk_drew ?_ | refine blk_alloc ?_ _)); refine blk_far ?_ NB1_18.out _; (with_reducible repeat (first | refine blk_drewN ?_ _ | refine blk_drew ?_ | refine blk_alloc ?_ _)); refine blk_far ?_ NB1_18.out _; (with_reducible repeat (first | refine blk_drewN ?_ _ | refine blk_drew ?_ | refine blk_alloc ?_ _)); refine blk_far ?_ NB1_18.out _; (with_reducible repeat (first | refine blk_drewN ?_ _ | refine blk_drew ?_ | refine blk_alloc ?_ _)); refine blk_far ?_ NB1_18.out _; (with_reducible repeat (first | refine blk_drewN ?_ _ | refine blk_drew ?_ | refine blk_alloc ?_ _)); refine blk_far ?_ NB1_18.out _; (with_reducible repeat (first | refine blk_drewN ?_ _ | refine blk_drew ?_ | refine blk_alloc ?_ _)); refine blk_far ?_ NB1_18.out _; (with_reducible repeat (first | refine blk_drewN ?_ _ | refine blk_drew ?_ | refine blk_alloc ?_ _)); refine blk_far ?_ NB1_18.out _; (with_reducible repeat (first | refine blk_drewN ?_ _ | refine blk_drew ?_ | refine blk_alloc ?_ _)); refine blk_far ?_ NB1_18.out _; (with_reducible repeat (first | refine blk_drewN ?_ _ | refine blk_drew ?_ | refine blk_alloc ?_ _)); refine blk_far ?_ NB1_18.out _; (with_reducible repeat (first | refine blk_drewN ?_ _ | refine blk_drew ?_ | refine blk_alloc ?_ _)); refine blk_far ?_ NB1_18.out _; (with_reducible repeat (first | refine blk_drewN ?_ _ | refine blk_drew ?_ | refine blk_alloc ?_ _)); refine blk_far ?_ NB1_18.out _; (with_reducible repeat (first | refine blk_drewN ?_ _ | refine blk_drew ?_ | refine blk_alloc ?_ _)); exact BK1.out) Tryz.underlying34 rfl (by kernel_rfl)) rfl ?_
        exact ⟨by first | rfl | (simp [errW_none, errW_some] <;> rfl) | (simp [*, errW_none, errW_some] <;> rfl), by repeat (first | (with_reducible first | exact HB.out | apply below_alloc | apply pw_below_drewN | apply below_drew1 | refine below_set ?_ GE1.out | refine below_set ?_ GE18.out) | exact HB.out)⟩
      · replace c8 := Bool.eq_false_iff.mpr c8
        subst c8
        have H1 : (modern_Choose.j0 k l0) = some (r1, r2, r3, r4, r5, r6, r7, r8, r9, r10, r11, r12, r13, r14) := by rw [if_neg (show ¬ (false = true) by decide)] at H; exact H
        clear H
        have H := H1
        clear H1
        have H' := Aside0.mk H
        clear H
        go_wp2_with (first | ((with_reducible refine gate_callee (f := 19) rfl ?_); refine goesL_ (some 18) rfl rfl Tryz.func19 (by kernel_rfl) rfl #[.string t2] rfl (by (try simp only [List.map_toArray, List.map_cons, List.map_nil]); first | done | rfl | (simp only [List.length_drop, List.length_take]; rfl)) ?_; (with_reducible refine (modern_Parse.calls t2 t4 t5 t6 t7 t8 t9 t10 t11 t12 t13 t14 t15 t16 false _ ?side1 A7.out).mono ?_); (case side1 => exact GL.below HG.out (by repeat (first | (with_reducible first | exact HB.out | apply below_alloc | apply pw_below_drewN | apply below_drew1 | refine below_set ?_ GE1.out) | exact HB.out))); rintro e w14 ⟨rfl, hb⟩; refine ⟨_, rfl, ?_⟩; have n0_ := Aside0.mk (blk_below (g := gb1) (o := .cells #[.bool false, .bool false, .bool false, .bool false, .bool false, .bool false, .bool false, .bool false, .int .i64 0, .int .i64 0, .int .i64 0, .int .i64 0, .int .i64 0] 34 (0, 0)) (by (with_reducible repeat (first | refine blk_drewN ?_ _ | refine blk_drew ?_ | refine blk_alloc ?_ _)); exact BK1.out) hb); have n1_ := Aside0.mk (below_step (by repeat (first | (with_reducible first | exact HB.out | apply below_alloc | apply pw_below_drewN | apply below_drew1 | refine below_set ?_ GE1.out) | exact HB.out)) hb); clear BK1; clear HB; have BK1 := n0_; have HB := n1_; clear n0_ n1_; (try clear hb); (try clear hb2); (try clear hk); (try clear hi)) | ((with_reducible refine gate_dst (N := 6) rfl ?_); refine box_event ?hg (N := 6) ?hd (cs := #[.bool false, .bool false, .bool false, .bool false, .bool false, .bool false, .bool false, .bool false, .int .i64 0, .int .i64 0, .int .i64 0, .int .i64 0, .int .i64 0]) (t := 34) ?hr ?_; (case hd => rfl); (case hg => rfl); (case hr => first | (go_simp; done) | (go_simp; rfl)); intro gb18 hg w15 hbox hb; have n0_ := Aside0.mk (blk_below (g := gb1) (o := .cells #[.bool false, .bool false, .bool false, .bool false, .bool false, .bool false, .bool false, .bool false, .int .i64 0, .int .i64 0, .int .i64 0, .int .i64 0, .int .i64 0] 34 (0, 0)) (by (with_reducible repeat (first | refine blk_drewN ?_ _ | refine blk_drew ?_ | refine blk_alloc ?_ _)); exact BK1.out) hb); have n1_ := Aside0.mk (below_step (by repeat (first | (with_reducible first | exact HB.out | apply below_alloc | apply pw_below_drewN | apply below_drew1 | refine below_set ?_ GE1.out) | exact HB.out)) hb); have n2_ := Aside0.mk (hbox); have n3_ := Aside0.mk ((by rw [hg]; exact (below_size (by repeat (first | (with_reducible first | exact HB.out | apply below_alloc | apply pw_below_drewN | apply below_drew1 | refine below_set ?_ GE1.out) | exact HB.out))) : w.heap.size ≤ gb18)); have n4_ := Aside0.mk ((by rw [hg]; exact (below_size (by repeat (first | (with_reducible first | exact HB.out | apply below_alloc | apply pw_below_drewN | apply below_drew1 | refine below_set ?_ GE1.out) | exact HB.out))) : w.heap.size ≤ gb18)); have n5_ := Aside0.mk ((by rw [hg]; exact Nat.ne_of_lt (blk_lt (g := gb1) (o := .cells #[.bool false, .bool false, .bool false, .bool false, .bool false, .bool false, .bool false, .bool false, .int .i64 0, .int .i64 0, .int .i64 0, .int .i64 0, .int .i64 0] 34 (0, 0)) (by (with_reducible repeat (first | refine blk_drewN ?_ _ | refine blk_drew ?_ | refine blk_alloc ?_ _)); exact BK1.out)) : gb1 ≠ gb18)); have n6_ := Aside0.mk ((by rw [hg]; exact Nat.ne_of_gt (blk_lt (g := gb1) (o := .cells #[.bool false, .bool false, .bool false, .bool false, .bool false, .bool false, .bool false, .bool false, .int .i64 0, .int .i64 0, .int .i64 0, .int .i64 0, .int .i64 0] 34 (0, 0)) (by (with_reducible repeat (first | refine blk_drewN ?_ _ | refine blk_drew ?_ | refine blk_alloc ?_ _)); exact BK1.out)) : gb18 ≠ gb1)); clear BK1; clear HB; have BK1 := n0_; have HB := n1_; have BK18 := n2_; have GW18 := n3_; have GE18 := n4_; have NB1_18 := n5_; have NB18_1 := n6_; clear n0_ n1_ n2_ n3_ n4_ n5_ n6_; clear hb hbox hg; have hnb16 := NB18_1.out; have hnc16 := NB1_18.out; have hcz17_0 : w15.cell? ⟨gb18, 0, none⟩ = some (.bool false) := (blk_cell BK18.out 0).trans rfl; have hcz17_1 : w15.cell? ⟨gb18, 1, none⟩ = some (.bool false) := (blk_cell BK18.out 1).trans rfl; have hcz17_2 : w15.cell? ⟨gb18, 2, none⟩ = some (.bool false) := (blk_cell BK18.out 2).trans rfl; have hcz17_3 : w15.cell? ⟨gb18, 3, none⟩ = some (.bool false) := (blk_cell BK18.out 3).trans rfl; have hcz17_4 : w15.cell? ⟨gb18, 4, none⟩ = some (.bool false) := (blk_cell BK18.out 4).trans rfl; have hcz17_5 : w15.cell? ⟨gb18, 5, none⟩ = some (.bool false) := (blk_cell BK18.out 5).trans rfl; have hcz17_6 : w15.cell? ⟨gb18, 6, none⟩ = some (.bool false) := (blk_cell BK18.out 6).trans rfl; have hcz17_7 : w15.cell? ⟨gb18, 7, none⟩ = some (.bool false) := (blk_cell BK18.out 7).trans rfl; have hcz17_8 : w15.cell? ⟨gb18, 8, none⟩ = some (.int .i64 0) := (blk_cell BK18.out 8).trans rfl; have hcz17_9 : w15.cell? ⟨gb18, 9, none⟩ = some (.int .i64 0) := (blk_cell BK18.out 9).trans rfl; have hcz17_10 : w15.cell? ⟨gb18, 10, none⟩ = some (.int .i64 0) := (blk_cell BK18.out 10).trans rfl; have hcz17_11 : w15.cell? ⟨gb18, 11, none⟩ = some (.int .i64 0) := (blk_cell BK18.out 11).trans rfl; have hcz17_12 : w15.cell? ⟨gb18, 12, none⟩ = some (.int .i64 0) := (blk_cell BK18.out 12).trans rfl; have hfz17_0 := blk_frozen BK18.out 0; have hfz17_1 := blk_frozen BK18.out 1; have hfz17_2 := blk_frozen BK18.out 2; have hfz17_3 := blk_frozen BK18.out 3; have hfz17_4 := blk_frozen BK18.out 4; have hfz17_5 := blk_frozen BK18.out 5; have hfz17_6 := blk_frozen BK18.out 6; have hfz17_7 := blk_frozen BK18.out 7; have hfz17_8 := blk_frozen BK18.out 8; have hfz17_9 := blk_frozen BK18.out 9; have hfz17_10 := blk_frozen BK18.out 10; have hfz17_11 := blk_frozen BK18.out 11; have hfz17_12 := blk_frozen BK18.out 12))
        go_meet
        case rel => exact ⟨_, (false), (false), (false), (false), (false), (false), (false), (false), (0), (0), (0), (0), (0), H', ⟨by first | omega | exact Nat.le_refl _⟩, ⟨by (with_reducible repeat (first | refine blk_drewN ?_ _ | refine blk_drew ?_ | refine blk_alloc ?_ _)); refine blk_far ?_ NB1_18.out _; (with_reducible repeat (first | refine blk_drewN ?_ _ | refine blk_drew ?_ | refine blk_alloc ?_ _)); refine blk_far ?_ NB1_18.out _; (with_reducible repeat (first | refine blk_drewN ?_ _ | refine blk_drew ?_ | refine blk_alloc ?_ _)); refine blk_far ?_ NB1_18.out _; (with_reducible repeat (first | refine blk_drewN ?_ _ | refine blk_drew ?_ | refine blk_alloc ?_ _)); refine blk_far ?_ NB1_18.out _; (with_reducible repeat (first | refine blk_drewN ?_ _ | refine blk_drew ?_ | refine blk_alloc ?_ _)); refine blk_far ?_ NB1_18.out _; (with_reducible repeat (first | refine blk_drewN ?_ _ | refine blk_drew ?_ | refine blk_alloc ?_ _)); refine blk_far ?_ NB1_18.out _; (with_reducible repeat (first | refine blk_drewN ?_ _ | refine blk_drew ?_ | refine blk_alloc ?_ _)); refine blk_far ?_ NB1_18.out _; (with_reducible repeat (first | refine blk_drewN ?_ _ | refine blk_drew ?_ | refine blk_alloc ?_ _)); refine blk_far ?_ NB1_18.out _; (with_reducible repeat (first | refine blk_drewN ?_ _ | refine blk_drew ?_ | refine blk_alloc ?_ _)); refine blk_far ?_ NB1_18.out _; (with_reducible repeat (first | refine blk_drewN ?_ _ | refine blk_drew ?_ | refine blk_alloc ?_ _)); refine blk_far ?_ NB1_18.out _; (with_reducible repeat (first | refine blk_drewN ?_ _ | refine blk_drew ?_ | refine blk_alloc ?_ _)); refine blk_far ?_ NB1_18.out _; (with_reducible repeat (first | refine blk_drewN ?_ _ | refine blk_drew ?_ | refine blk_alloc ?_ _)); refine blk_far ?_ NB1_18.out _; (with_reducible repeat (first | refine blk_drewN ?_ _ | refine blk_drew ?_ | refine blk_alloc ?_ _)); refine blk_far ?_ NB1_18.out _; (with_reducible repeat (first | refine blk_drewN ?_ _ | refine blk_drew ?_ | refine blk_alloc ?_ _)); exact BK1.out⟩, ⟨by repeat (first | (with_reducible first | exact HB.out | apply below_alloc | apply pw_below_drewN | apply below_drew1 | refine below_set ?_ GE1.out | refine below_set ?_ GE18.out) | exact HB.out)⟩⟩
    · replace c6 := Bool.eq_false_iff.mpr c6
      subst c6
      have H1 : (modern_Choose.j0 k l0) = some (r1, r2, r3, r4, r5, r6, r7, r8, r9, r10, r11, r12, r13, r14) := by rw [if_neg (show ¬ (false = true) by decide)] at H; exact H
      clear H
      have H := H1
      clear H1
      have H' := Aside0.mk H
      clear H
      go_wp2
      go_meet
      case rel => exact ⟨_, (false), (false), (false), (false), (false), (false), (false), (false), (0), (0), (0), (0), (0), H', ⟨by first | omega | exact Nat.le_refl _⟩, ⟨by (with_reducible repeat (first | refine blk_drewN ?_ _ | refine blk_drew ?_ | refine blk_alloc ?_ _)); exact BK1.out⟩, ⟨by repeat (first | (with_reducible first | exact HB.out | apply below_alloc | apply pw_below_drewN | apply below_drew1 | refine below_set ?_ GE1.out) | exact HB.out)⟩⟩
  case rest =>
    clear HC3
    try clear c1
    try clear c2
    try clear p2
    try clear c4
    try clear c6
    try clear c8
    try clear c11
    try clear c16
    try clear hcz12_0
    try clear hcz12_1
    try clear hcz12_10
    try clear hcz12_11
    try clear hcz12_12
    try clear hcz12_2
    try clear hcz12_3
    try clear hcz12_4
    try clear hcz12_5
    try clear hcz12_6
    try clear hcz12_7
    try clear hcz12_8
    try clear hcz12_9
    try clear hcz13_0
    try clear hcz13_1
    try clear hcz13_10
    try clear hcz13_11
    try clear hcz13_12
    try clear hcz13_2
    try clear hcz13_3
    try clear hcz13_4
    try clear hcz13_5
    try clear hcz13_6
    try clear hcz13_7
    try clear hcz13_8
    try clear hcz13_9
    try clear hcz17_0
    try clear hcz17_1
    try clear hcz17_10
    try clear hcz17_11
    try clear hcz17_12
    try clear hcz17_2
    try clear hcz17_3
    try clear hcz17_4
    try clear hcz17_5
    try clear hcz17_6
    try clear hcz17_7
    try clear hcz17_8
    try clear hcz17_9
    try clear hfz12_0
    try clear hfz12_1
    try clear hfz12_10
    try clear hfz12_11
    try clear hfz12_12
    try clear hfz12_2
    try clear hfz12_3
    try clear hfz12_4
    try clear hfz12_5
    try clear hfz12_6
    try clear hfz12_7
    try clear hfz12_8
    try clear hfz12_9
    try clear hfz13_0
    try clear hfz13_1
    try clear hfz13_10
    try clear hfz13_11
    try clear hfz13_12
    try clear hfz13_2
    try clear hfz13_3
    try clear hfz13_4
    try clear hfz13_5
    try clear hfz13_6
    try clear hfz13_7
    try clear hfz13_8
    try clear hfz13_9
    try clear hfz17_0
    try clear hfz17_1
    try clear hfz17_10
    try clear hfz17_11
    try clear hfz17_12
    try clear hfz17_2
    try clear hfz17_3
    try clear hfz17_4
    try clear hfz17_5
    try clear hfz17_6
    try clear hfz17_7
    try clear hfz17_8
    try clear hfz17_9
    obtain ⟨kq, x2000_2, x2001_2, x2002_2, x2003_2, x2004_2, x2005_2, x2006_2, x2007_2, x2008_2, x2009_2, x2010_2, x2011_2, x2012_2, HA, HJ2, BK1, HB⟩ := hcut
    cases kq with
    | zero => exact absurd HA.out (by simp [modern_Choose.j0])
    | succ kj2 =>
      have H := HA.out
      clear HA
      simp only [modern_Choose.j0] at H
      replace H := Option.bind_eq_some_iff.mp H
      obtain ⟨⟨t19, t20⟩, A180, H⟩ := H
      replace H : (if t20 = true then ((legacy_Read.f kj2 l0).bind fun bt21 => (some (bt21.1, bt21.2.1, bt21.2.2.1, bt21.2.2.2.1, bt21.2.2.2.2.1, bt21.2.2.2.2.2.1, bt21.2.2.2.2.2.2.1, bt21.2.2.2.2.2.2.2.1, bt21.2.2.2.2.2.2.2.2.1, bt21.2.2.2.2.2.2.2.2.2.1, bt21.2.2.2.2.2.2.2.2.2.2.1, bt21.2.2.2.2.2.2.2.2.2.2.2.1, bt21.2.2.2.2.2.2.2.2.2.2.2.2, 1))) else ((legacy_None.f).bind fun bt34 => (some (bt34.1, bt34.2.1, bt34.2.2.1, bt34.2.2.2.1, bt34.2.2.2.2.1, bt34.2.2.2.2.2.1, bt34.2.2.2.2.2.2.1, bt34.2.2.2.2.2.2.2.1, bt34.2.2.2.2.2.2.2.2.1, bt34.2.2.2.2.2.2.2.2.2.1, bt34.2.2.2.2.2.2.2.2.2.2.1, bt34.2.2.2.2.2.2.2.2.2.2.2.1, bt34.2.2.2.2.2.2.2.2.2.2.2.2, 0)))) = some (r1, r2, r3, r4, r5, r6, r7, r8, r9, r10, r11, r12, r13, r14) := H
      have A18 := Aside0.mk A180
      clear A180
      by_cases c19 : t20 = true
      · subst c19
        have H1 : ((legacy_Read.f kj2 l0).bind fun bt21 => (some (bt21.1, bt21.2.1, bt21.2.2.1, bt21.2.2.2.1, bt21.2.2.2.2.1, bt21.2.2.2.2.2.1, bt21.2.2.2.2.2.2.1, bt21.2.2.2.2.2.2.2.1, bt21.2.2.2.2.2.2.2.2.1, bt21.2.2.2.2.2.2.2.2.2.1, bt21.2.2.2.2.2.2.2.2.2.2.1, bt21.2.2.2.2.2.2.2.2.2.2.2.1, bt21.2.2.2.2.2.2.2.2.2.2.2.2, 1))) = some (r1, r2, r3, r4, r5, r6, r7, r8, r9, r10, r11, r12, r13, r14) := by rw [if_pos rfl] at H; exact H
        clear H
        have H := H1
        clear H1
        replace H := Option.bind_eq_some_iff.mp H
        obtain ⟨⟨t21, t22, t23, t24, t25, t26, t27, t28, t29, t30, t31, t32, t33⟩, A200, H⟩ := H
        replace H : (some (t21, t22, t23, t24, t25, t26, t27, t28, t29, t30, t31, t32, t33, 1)) = some (r1, r2, r3, r4, r5, r6, r7, r8, r9, r10, r11, r12, r13, r14) := H
        have A20 := Aside0.mk A200
        clear A200
        simp only [Option.some.injEq, Prod.mk.injEq] at H
        obtain ⟨rfl, rfl, rfl, rfl, rfl, rfl, rfl, rfl, rfl, rfl, rfl, rfl, rfl, rfl⟩ := H
        go_wp2_with (first | ((with_reducible refine gate_callee (f := 47) rfl ?_); refine goesL_ (some 25) rfl rfl Tryz.func47 (by kernel_rfl) rfl #[.slice A0 l0.length c0, .string (⟨#[99, 97, 99, 104, 101, 45, 99, 111, 110, 116, 114, 111, 108]⟩ : ByteArray)] rfl (by (try simp only [List.map_toArray, List.map_cons, List.map_nil]); first | done | rfl | (simp only [List.length_drop, List.length_take]; rfl)) ?_; (with_reducible refine (head_Get.calls _ _ l0 (⟨#[99, 97, 99, 104, 101, 45, 99, 111, 110, 116, 114, 111, 108]⟩ : ByteArray) t19 true _ ?side1 ?side2 A18.out).mono ?_); (case side1 => repeat (first | exact (Kd.C_below HR0.out HB.out) | (with_reducible refine Kd.C_alloc ?_ _) | (with_reducible refine Kd.C_drewN ?_ _) | (with_reducible refine Kd.C_drew ?_))); (case side2 => exact HC0.out); rintro e w21 ⟨rfl, hb⟩; refine ⟨_, rfl, ?_⟩; have n0_ := Aside0.mk (blk_below (g := gb1) (o := .cells #[.bool x2000_2, .bool x2001_2, .bool x2002_2, .bool x2003_2, .bool x2004_2, .bool x2005_2, .bool x2006_2, .bool x2007_2, .int .i64 x2008_2, .int .i64 x2009_2, .int .i64 x2010_2, .int .i64 x2011_2, .int .i64 x2012_2] 34 (0, 0)) (by (with_reducible repeat (first | refine blk_drewN ?_ _ | refine blk_drew ?_ | refine blk_alloc ?_ _)); exact BK1.out) hb); have n1_ := Aside0.mk (below_step (by repeat (first | (with_reducible first | exact HB.out | apply below_alloc | apply pw_below_drewN | apply below_drew1 | refine below_set ?_ GE1.out) | exact HB.out)) hb); clear BK1; clear HB; have BK1 := n0_; have HB := n1_; clear n0_ n1_; (try clear hb); (try clear hb2); (try clear hk); (try clear hi)) | ((with_reducible refine gate_callee (f := 22) rfl ?_); refine goesL_ (some 30) rfl rfl Tryz.func22 (by kernel_rfl) rfl #[.slice A0 l0.length c0] rfl (by (try simp only [List.map_toArray, List.map_cons, List.map_nil]); first | done | rfl | (simp only [List.length_drop, List.length_take]; rfl)) ?_; (with_reducible refine (legacy_Read.calls kj2 _ _ l0 t21 t22 t23 t24 t25 t26 t27 t28 t29 t30 t31 t32 t33 _ ?side1 ?side2 ?side3 A20.out).mono ?_); (case side1 => repeat (first | exact (Kd.C_below HR0.out HB.out) | (with_reducible refine Kd.C_alloc ?_ _) | (with_reducible refine Kd.C_drewN ?_ _) | (with_reducible refine Kd.C_drew ?_))); (case side2 => exact HC0.out); (case side3 => exact GL.below HG.out (by repeat (first | (with_reducible first | exact HB.out | apply below_alloc | apply pw_below_drewN | apply below_drew1 | refine below_set ?_ GE1.out) | exact HB.out))); rintro e w22 ⟨rfl, hb⟩; refine ⟨_, rfl, ?_⟩; have n0_ := Aside0.mk (blk_below (g := gb1) (o := .cells #[.bool x2000_2, .bool x2001_2, .bool x2002_2, .bool x2003_2, .bool x2004_2, .bool x2005_2, .bool x2006_2, .bool x2007_2, .int .i64 x2008_2, .int .i64 x2009_2, .int .i64 x2010_2, .int .i64 x2011_2, .int .i64 x2012_2] 34 (0, 0)) (by (with_reducible repeat (first | refine blk_drewN ?_ _ | refine blk_drew ?_ | refine blk_alloc ?_ _)); exact BK1.out) hb); have n1_ := Aside0.mk (below_step (by repeat (first | (with_reducible first | exact HB.out | apply below_alloc | apply pw_below_drewN | apply below_drew1 | refine below_set ?_ GE1.out) | exact HB.out)) hb); clear BK1; clear HB; have BK1 := n0_; have HB := n1_; clear n0_ n1_; (try clear hb); (try clear hb2); (try clear hk); (try clear hi); have hcz23_0 : w22.cell? ⟨gb1, 0, none⟩ = some (.bool x2000_2) := (blk_cell BK1.out 0).trans rfl; have hcz23_1 : w22.cell? ⟨gb1, 1, none⟩ = some (.bool x2001_2) := (blk_cell BK1.out 1).trans rfl; have hcz23_2 : w22.cell? ⟨gb1, 2, none⟩ = some (.bool x2002_2) := (blk_cell BK1.out 2).trans rfl; have hcz23_3 : w22.cell? ⟨gb1, 3, none⟩ = some (.bool x2003_2) := (blk_cell BK1.out 3).trans rfl; have hcz23_4 : w22.cell? ⟨gb1, 4, none⟩ = some (.bool x2004_2) := (blk_cell BK1.out 4).trans rfl; have hcz23_5 : w22.cell? ⟨gb1, 5, none⟩ = some (.bool x2005_2) := (blk_cell BK1.out 5).trans rfl; have hcz23_6 : w22.cell? ⟨gb1, 6, none⟩ = some (.bool x2006_2) := (blk_cell BK1.out 6).trans rfl; have hcz23_7 : w22.cell? ⟨gb1, 7, none⟩ = some (.bool x2007_2) := (blk_cell BK1.out 7).trans rfl; have hcz23_8 : w22.cell? ⟨gb1, 8, none⟩ = some (.int .i64 x2008_2) := (blk_cell BK1.out 8).trans rfl; have hcz23_9 : w22.cell? ⟨gb1, 9, none⟩ = some (.int .i64 x2009_2) := (blk_cell BK1.out 9).trans rfl; have hcz23_10 : w22.cell? ⟨gb1, 10, none⟩ = some (.int .i64 x2010_2) := (blk_cell BK1.out 10).trans rfl; have hcz23_11 : w22.cell? ⟨gb1, 11, none⟩ = some (.int .i64 x2011_2) := (blk_cell BK1.out 11).trans rfl; have hcz23_12 : w22.cell? ⟨gb1, 12, none⟩ = some (.int .i64 x2012_2) := (blk_cell BK1.out 12).trans rfl; have hfz23_0 := blk_frozen BK1.out 0; have hfz23_1 := blk_frozen BK1.out 1; have hfz23_2 := blk_frozen BK1.out 2; have hfz23_3 := blk_frozen BK1.out 3; have hfz23_4 := blk_frozen BK1.out 4; have hfz23_5 := blk_frozen BK1.out 5; have hfz23_6 := blk_frozen BK1.out 6; have hfz23_7 := blk_frozen BK1.out 7; have hfz23_8 := blk_frozen BK1.out 8; have hfz23_9 := blk_frozen BK1.out 9; have hfz23_10 := blk_frozen BK1.out 10; have hfz23_11 := blk_frozen BK1.out 11; have hfz23_12 := blk_frozen BK1.out 12))
        refine bodyPost_ret (results_ct rfl _ _ gb1 34 #[.bool t21, .bool t22, .bool t23, .bool t24, .bool t25, .bool t26, .bool t27, .bool t28, .int .i64 t29, .int .i64 t30, .int .i64 t31, .int .i64 t32, .int .i64 t33] (0, 0) _ rfl (by (with_reducible repeat (first | refine blk_drewN ?_ _ | refine blk_drew ?_ | refine blk_alloc ?_ _)); refine blk_put (cs := #[.bool t21, .bool t22, .bool t23, .bool t24, .bool t25, .bool t26, .bool t27, .bool t28, .int .i64 t29, .int .i64 t30, .int .i64 t31, .int .i64 t32, .int .i64 x2012_2]) ?_ 12 _ rfl; (with_reducible repeat (first | refine blk_drewN ?_ _ | refine blk_drew ?_ | refine blk_alloc ?_ _)); refine blk_put (cs := #[.bool t21, .bool t22, .bool t23, .bool t24, .bool t25, .bool t26, .bool t27, .bool t28, .int .i64 t29, .int .i64 t30, .int .i64 t31, .int .i64 x2011_2, .int .i64 x2012_2]) ?_ 11 _ rfl; (with_reducible repeat (first | refine blk_drewN ?_ _ | refine blk_drew ?_ | refine blk_alloc ?_ _)); refine blk_put (cs := #[.bool t21, .bool t22, .bool t23, .bool t24, .bool t25, .bool t26, .bool t27, .bool t28, .int .i64 t29, .int .i64 t30, .int .i64 x2010_2, .int .i64 x2011_2, .int .i64 x2012_2]) ?_ 10 _ rfl; (with_reducible repeat (first | refine blk_drewN ?_ _ | refine blk_drew ?_ | refine blk_alloc ?_ _)); refine blk_put (cs := #[.bool t21, .bool t22, .bool t23, .bool t24, .bool t25, .bool t26, .bool t27, .bool t28, .int .i64 t29, .int .i64 x2009_2, .int .i64 x2010_2, .int .i64 x2011_2, .int .i64 x2012_2]) ?_ 9 _ rfl; (with_reducible repeat (first | refine blk_drewN ?_ _ | refine blk_drew ?_ | refine blk_alloc ?_ _)); refine blk_put (cs := #[.bool t21, .bool t22, .bool t23, .bool t24, .bool t25, .bool t26, .bool t27, .bool t28, .int .i64 x2008_2, .int .i64 x2009_2, .int .i64 x2010_2, .int .i64 x2011_2, .int .i64 x2012_2]) ?_ 8 _ rfl; (with_reducible repeat (first | refine blk_drewN ?_ _ | refine blk_drew ?_ | refine blk_alloc ?_ _)); refine blk_put (cs := #[.bool t21, .bool t22, .bool t23, .bool t24, .bool t25, .bool t26, .bool t27, .bool x2007_2, .int .i64 x2008_2, .int .i64 x2009_2, .int .i64 x2010_2, .int .i64 x2011_2, .int .i64 x2012_2]) ?_ 7 _ rfl; (with_reducible repeat (first | refine blk_drewN ?_ _ | refine blk_drew ?_ | refine blk_alloc ?_ _)); refine blk_put (cs := #[.bool t21, .bool t22, .bool t23, .bool t24, .bool t25, .bool t26, .bool x2006_2, .bool x2007_2, .int .i64 x2008_2, .int .i64 x2009_2, .int .i64 x2010_2, .int .i64 x2011_2, .int .i64 x2012_2]) ?_ 6 _ rfl; (with_reducible repeat (first | refine blk_drewN ?_ _ | refine blk_drew ?_ | refine blk_alloc ?_ _)); refine blk_put (cs := #[.bool t21, .bool t22, .bool t23, .bool t24, .bool t25, .bool x2005_2, .bool x2006_2, .bool x2007_2, .int .i64 x2008_2, .int .i64 x2009_2, .int .i64 x2010_2, .int .i64 x2011_2, .int .i64 x2012_2]) ?_ 5 _ rfl; (with_reducible repeat (first | refine blk_drewN ?_ _ | refine blk_drew ?_ | refine blk_alloc ?_ _)); refine blk_put (cs := #[.bool t21, .bool t22, .bool t23, .bool t24, .bool x2004_2, .bool x2005_2, .bool x2006_2, .bool x2007_2, .int .i64 x2008_2, .int .i64 x2009_2, .int .i64 x2010_2, .int .i64 x2011_2, .int .i64 x2012_2]) ?_ 4 _ rfl; (with_reducible repeat (first | refine blk_drewN ?_ _ | refine blk_drew ?_ | refine blk_alloc ?_ _)); refine blk_put (cs := #[.bool t21, .bool t22, .bool t23, .bool x2003_2, .bool x2004_2, .bool x2005_2, .bool x2006_2, .bool x2007_2, .int .i64 x2008_2, .int .i64 x2009_2, .int .i64 x2010_2, .int .i64 x2011_2, .int .i64 x2012_2]) ?_ 3 _ rfl; (with_reducible repeat (first | refine blk_drewN ?_ _ | refine blk_drew ?_ | refine blk_alloc ?_ _)); refine blk_put (cs := #[.bool t21, .bool t22, .bool x2002_2, .bool x2003_2, .bool x2004_2, .bool x2005_2, .bool x2006_2, .bool x2007_2, .int .i64 x2008_2, .int .i64 x2009_2, .int .i64 x2010_2, .int .i64 x2011_2, .int .i64 x2012_2]) ?_ 2 _ rfl; (with_reducible repeat (first | refine blk_drewN ?_ _ | refine blk_drew ?_ | refine blk_alloc ?_ _)); refine blk_put (cs := #[.bool t21, .bool x2001_2, .bool x2002_2, .bool x2003_2, .bool x2004_2, .bool x2005_2, .bool x2006_2, .bool x2007_2, .int .i64 x2008_2, .int .i64 x2009_2, .int .i64 x2010_2, .int .i64 x2011_2, .int .i64 x2012_2]) ?_ 1 _ rfl; (with_reducible repeat (first | refine blk_drewN ?_ _ | refine blk_drew ?_ | refine blk_alloc ?_ _)); refine blk_put (cs := #[.bool x2000_2, .bool x2001_2, .bool x2002_2, .bool x2003_2, .bool x2004_2, .bool x2005_2, .bool x2006_2, .bool x2007_2, .int .i64 x2008_2, .int .i64 x2009_2, .int .i64 x2010_2, .int .i64 x2011_2, .int .i64 x2012_2]) ?_ 0 _ rfl; (with_reducible repeat (first | refine blk_drewN ?_ _ | refine blk_drew ?_ | refine blk_alloc ?_ _)); exact BK1.out) Tryz.underlying34 rfl (by kernel_rfl)) rfl ?_
        exact ⟨by first | rfl | (simp [errW_none, errW_some] <;> rfl) | (simp [*, errW_none, errW_some] <;> rfl), by repeat (first | (with_reducible first | exact HB.out | apply below_alloc | apply pw_below_drewN | apply below_drew1 | refine below_set ?_ GE1.out) | exact HB.out)⟩
      · replace c19 := Bool.eq_false_iff.mpr c19
        subst c19
        have H1 : ((legacy_None.f).bind fun bt34 => (some (bt34.1, bt34.2.1, bt34.2.2.1, bt34.2.2.2.1, bt34.2.2.2.2.1, bt34.2.2.2.2.2.1, bt34.2.2.2.2.2.2.1, bt34.2.2.2.2.2.2.2.1, bt34.2.2.2.2.2.2.2.2.1, bt34.2.2.2.2.2.2.2.2.2.1, bt34.2.2.2.2.2.2.2.2.2.2.1, bt34.2.2.2.2.2.2.2.2.2.2.2.1, bt34.2.2.2.2.2.2.2.2.2.2.2.2, 0))) = some (r1, r2, r3, r4, r5, r6, r7, r8, r9, r10, r11, r12, r13, r14) := by rw [if_neg (show ¬ (false = true) by decide)] at H; exact H
        clear H
        have H := H1
        clear H1
        replace H := Option.bind_eq_some_iff.mp H
        obtain ⟨⟨t34, t35, t36, t37, t38, t39, t40, t41, t42, t43, t44, t45, t46⟩, A240, H⟩ := H
        replace H : (some (t34, t35, t36, t37, t38, t39, t40, t41, t42, t43, t44, t45, t46, 0)) = some (r1, r2, r3, r4, r5, r6, r7, r8, r9, r10, r11, r12, r13, r14) := H
        have A24 := Aside0.mk A240
        clear A240
        simp only [Option.some.injEq, Prod.mk.injEq] at H
        obtain ⟨rfl, rfl, rfl, rfl, rfl, rfl, rfl, rfl, rfl, rfl, rfl, rfl, rfl, rfl⟩ := H
        go_wp2_with (first | ((with_reducible refine gate_callee (f := 47) rfl ?_); refine goesL_ (some 25) rfl rfl Tryz.func47 (by kernel_rfl) rfl #[.slice A0 l0.length c0, .string (⟨#[99, 97, 99, 104, 101, 45, 99, 111, 110, 116, 114, 111, 108]⟩ : ByteArray)] rfl (by (try simp only [List.map_toArray, List.map_cons, List.map_nil]); first | done | rfl | (simp only [List.length_drop, List.length_take]; rfl)) ?_; (with_reducible refine (head_Get.calls _ _ l0 (⟨#[99, 97, 99, 104, 101, 45, 99, 111, 110, 116, 114, 111, 108]⟩ : ByteArray) t19 false _ ?side1 ?side2 A18.out).mono ?_); (case side1 => repeat (first | exact (Kd.C_below HR0.out HB.out) | (with_reducible refine Kd.C_alloc ?_ _) | (with_reducible refine Kd.C_drewN ?_ _) | (with_reducible refine Kd.C_drew ?_))); (case side2 => exact HC0.out); rintro e w25 ⟨rfl, hb⟩; refine ⟨_, rfl, ?_⟩; have n0_ := Aside0.mk (blk_below (g := gb1) (o := .cells #[.bool x2000_2, .bool x2001_2, .bool x2002_2, .bool x2003_2, .bool x2004_2, .bool x2005_2, .bool x2006_2, .bool x2007_2, .int .i64 x2008_2, .int .i64 x2009_2, .int .i64 x2010_2, .int .i64 x2011_2, .int .i64 x2012_2] 34 (0, 0)) (by (with_reducible repeat (first | refine blk_drewN ?_ _ | refine blk_drew ?_ | refine blk_alloc ?_ _)); exact BK1.out) hb); have n1_ := Aside0.mk (below_step (by repeat (first | (with_reducible first | exact HB.out | apply below_alloc | apply pw_below_drewN | apply below_drew1 | refine below_set ?_ GE1.out) | exact HB.out)) hb); clear BK1; clear HB; have BK1 := n0_; have HB := n1_; clear n0_ n1_; (try clear hb); (try clear hb2); (try clear hk); (try clear hi)) | ((with_reducible refine gate_callee (f := 20) rfl ?_); refine goesL_ (some 31) rfl rfl Tryz.func20 (by kernel_rfl) rfl #[] rfl (by (try simp only [List.map_toArray, List.map_cons, List.map_nil]); first | done | rfl | (simp only [List.length_drop, List.length_take]; rfl)) ?_; (with_reducible refine (legacy_None.calls  t34 t35 t36 t37 t38 t39 t40 t41 t42 t43 t44 t45 t46 _ A24.out).mono ?_); rintro e w26 ⟨rfl, hb⟩; refine ⟨_, rfl, ?_⟩; have n0_ := Aside0.mk (blk_below (g := gb1) (o := .cells #[.bool x2000_2, .bool x2001_2, .bool x2002_2, .bool x2003_2, .bool x2004_2, .bool x2005_2, .bool x2006_2, .bool x2007_2, .int .i64 x2008_2, .int .i64 x2009_2, .int .i64 x2010_2, .int .i64 x2011_2, .int .i64 x2012_2] 34 (0, 0)) (by (with_reducible repeat (first | refine blk_drewN ?_ _ | refine blk_drew ?_ | refine blk_alloc ?_ _)); exact BK1.out) hb); have n1_ := Aside0.mk (below_step (by repeat (first | (with_reducible first | exact HB.out | apply below_alloc | apply pw_below_drewN | apply below_drew1 | refine below_set ?_ GE1.out) | exact HB.out)) hb); clear BK1; clear HB; have BK1 := n0_; have HB := n1_; clear n0_ n1_; (try clear hb); (try clear hb2); (try clear hk); (try clear hi); have hcz27_0 : w26.cell? ⟨gb1, 0, none⟩ = some (.bool x2000_2) := (blk_cell BK1.out 0).trans rfl; have hcz27_1 : w26.cell? ⟨gb1, 1, none⟩ = some (.bool x2001_2) := (blk_cell BK1.out 1).trans rfl; have hcz27_2 : w26.cell? ⟨gb1, 2, none⟩ = some (.bool x2002_2) := (blk_cell BK1.out 2).trans rfl; have hcz27_3 : w26.cell? ⟨gb1, 3, none⟩ = some (.bool x2003_2) := (blk_cell BK1.out 3).trans rfl; have hcz27_4 : w26.cell? ⟨gb1, 4, none⟩ = some (.bool x2004_2) := (blk_cell BK1.out 4).trans rfl; have hcz27_5 : w26.cell? ⟨gb1, 5, none⟩ = some (.bool x2005_2) := (blk_cell BK1.out 5).trans rfl; have hcz27_6 : w26.cell? ⟨gb1, 6, none⟩ = some (.bool x2006_2) := (blk_cell BK1.out 6).trans rfl; have hcz27_7 : w26.cell? ⟨gb1, 7, none⟩ = some (.bool x2007_2) := (blk_cell BK1.out 7).trans rfl; have hcz27_8 : w26.cell? ⟨gb1, 8, none⟩ = some (.int .i64 x2008_2) := (blk_cell BK1.out 8).trans rfl; have hcz27_9 : w26.cell? ⟨gb1, 9, none⟩ = some (.int .i64 x2009_2) := (blk_cell BK1.out 9).trans rfl; have hcz27_10 : w26.cell? ⟨gb1, 10, none⟩ = some (.int .i64 x2010_2) := (blk_cell BK1.out 10).trans rfl; have hcz27_11 : w26.cell? ⟨gb1, 11, none⟩ = some (.int .i64 x2011_2) := (blk_cell BK1.out 11).trans rfl; have hcz27_12 : w26.cell? ⟨gb1, 12, none⟩ = some (.int .i64 x2012_2) := (blk_cell BK1.out 12).trans rfl; have hfz27_0 := blk_frozen BK1.out 0; have hfz27_1 := blk_frozen BK1.out 1; have hfz27_2 := blk_frozen BK1.out 2; have hfz27_3 := blk_frozen BK1.out 3; have hfz27_4 := blk_frozen BK1.out 4; have hfz27_5 := blk_frozen BK1.out 5; have hfz27_6 := blk_frozen BK1.out 6; have hfz27_7 := blk_frozen BK1.out 7; have hfz27_8 := blk_frozen BK1.out 8; have hfz27_9 := blk_frozen BK1.out 9; have hfz27_10 := blk_frozen BK1.out 10; have hfz27_11 := blk_frozen BK1.out 11; have hfz27_12 := blk_frozen BK1.out 12))
        refine bodyPost_ret (results_ct rfl _ _ gb1 34 #[.bool t34, .bool t35, .bool t36, .bool t37, .bool t38, .bool t39, .bool t40, .bool t41, .int .i64 t42, .int .i64 t43, .int .i64 t44, .int .i64 t45, .int .i64 t46] (0, 0) _ rfl (by (with_reducible repeat (first | refine blk_drewN ?_ _ | refine blk_drew ?_ | refine blk_alloc ?_ _)); refine blk_put (cs := #[.bool t34, .bool t35, .bool t36, .bool t37, .bool t38, .bool t39, .bool t40, .bool t41, .int .i64 t42, .int .i64 t43, .int .i64 t44, .int .i64 t45, .int .i64 x2012_2]) ?_ 12 _ rfl; (with_reducible repeat (first | refine blk_drewN ?_ _ | refine blk_drew ?_ | refine blk_alloc ?_ _)); refine blk_put (cs := #[.bool t34, .bool t35, .bool t36, .bool t37, .bool t38, .bool t39, .bool t40, .bool t41, .int .i64 t42, .int .i64 t43, .int .i64 t44, .int .i64 x2011_2, .int .i64 x2012_2]) ?_ 11 _ rfl; (with_reducible repeat (first | refine blk_drewN ?_ _ | refine blk_drew ?_ | refine blk_alloc ?_ _)); refine blk_put (cs := #[.bool t34, .bool t35, .bool t36, .bool t37, .bool t38, .bool t39, .bool t40, .bool t41, .int .i64 t42, .int .i64 t43, .int .i64 x2010_2, .int .i64 x2011_2, .int .i64 x2012_2]) ?_ 10 _ rfl; (with_reducible repeat (first | refine blk_drewN ?_ _ | refine blk_drew ?_ | refine blk_alloc ?_ _)); refine blk_put (cs := #[.bool t34, .bool t35, .bool t36, .bool t37, .bool t38, .bool t39, .bool t40, .bool t41, .int .i64 t42, .int .i64 x2009_2, .int .i64 x2010_2, .int .i64 x2011_2, .int .i64 x2012_2]) ?_ 9 _ rfl; (with_reducible repeat (first | refine blk_drewN ?_ _ | refine blk_drew ?_ | refine blk_alloc ?_ _)); refine blk_put (cs := #[.bool t34, .bool t35, .bool t36, .bool t37, .bool t38, .bool t39, .bool t40, .bool t41, .int .i64 x2008_2, .int .i64 x2009_2, .int .i64 x2010_2, .int .i64 x2011_2, .int .i64 x2012_2]) ?_ 8 _ rfl; (with_reducible repeat (first | refine blk_drewN ?_ _ | refine blk_drew ?_ | refine blk_alloc ?_ _)); refine blk_put (cs := #[.bool t34, .bool t35, .bool t36, .bool t37, .bool t38, .bool t39, .bool t40, .bool x2007_2, .int .i64 x2008_2, .int .i64 x2009_2, .int .i64 x2010_2, .int .i64 x2011_2, .int .i64 x2012_2]) ?_ 7 _ rfl; (with_reducible repeat (first | refine blk_drewN ?_ _ | refine blk_drew ?_ | refine blk_alloc ?_ _)); refine blk_put (cs := #[.bool t34, .bool t35, .bool t36, .bool t37, .bool t38, .bool t39, .bool x2006_2, .bool x2007_2, .int .i64 x2008_2, .int .i64 x2009_2, .int .i64 x2010_2, .int .i64 x2011_2, .int .i64 x2012_2]) ?_ 6 _ rfl; (with_reducible repeat (first | refine blk_drewN ?_ _ | refine blk_drew ?_ | refine blk_alloc ?_ _)); refine blk_put (cs := #[.bool t34, .bool t35, .bool t36, .bool t37, .bool t38, .bool x2005_2, .bool x2006_2, .bool x2007_2, .int .i64 x2008_2, .int .i64 x2009_2, .int .i64 x2010_2, .int .i64 x2011_2, .int .i64 x2012_2]) ?_ 5 _ rfl; (with_reducible repeat (first | refine blk_drewN ?_ _ | refine blk_drew ?_ | refine blk_alloc ?_ _)); refine blk_put (cs := #[.bool t34, .bool t35, .bool t36, .bool t37, .bool x2004_2, .bool x2005_2, .bool x2006_2, .bool x2007_2, .int .i64 x2008_2, .int .i64 x2009_2, .int .i64 x2010_2, .int .i64 x2011_2, .int .i64 x2012_2]) ?_ 4 _ rfl; (with_reducible repeat (first | refine blk_drewN ?_ _ | refine blk_drew ?_ | refine blk_alloc ?_ _)); refine blk_put (cs := #[.bool t34, .bool t35, .bool t36, .bool x2003_2, .bool x2004_2, .bool x2005_2, .bool x2006_2, .bool x2007_2, .int .i64 x2008_2, .int .i64 x2009_2, .int .i64 x2010_2, .int .i64 x2011_2, .int .i64 x2012_2]) ?_ 3 _ rfl; (with_reducible repeat (first | refine blk_drewN ?_ _ | refine blk_drew ?_ | refine blk_alloc ?_ _)); refine blk_put (cs := #[.bool t34, .bool t35, .bool x2002_2, .bool x2003_2, .bool x2004_2, .bool x2005_2, .bool x2006_2, .bool x2007_2, .int .i64 x2008_2, .int .i64 x2009_2, .int .i64 x2010_2, .int .i64 x2011_2, .int .i64 x2012_2]) ?_ 2 _ rfl; (with_reducible repeat (first | refine blk_drewN ?_ _ | refine blk_drew ?_ | refine blk_alloc ?_ _)); refine blk_put (cs := #[.bool t34, .bool x2001_2, .bool x2002_2, .bool x2003_2, .bool x2004_2, .bool x2005_2, .bool x2006_2, .bool x2007_2, .int .i64 x2008_2, .int .i64 x2009_2, .int .i64 x2010_2, .int .i64 x2011_2, .int .i64 x2012_2]) ?_ 1 _ rfl; (with_reducible repeat (first | refine blk_drewN ?_ _ | refine blk_drew ?_ | refine blk_alloc ?_ _)); refine blk_put (cs := #[.bool x2000_2, .bool x2001_2, .bool x2002_2, .bool x2003_2, .bool x2004_2, .bool x2005_2, .bool x2006_2, .bool x2007_2, .int .i64 x2008_2, .int .i64 x2009_2, .int .i64 x2010_2, .int .i64 x2011_2, .int .i64 x2012_2]) ?_ 0 _ rfl; (with_reducible repeat (first | refine blk_drewN ?_ _ | refine blk_drew ?_ | refine blk_alloc ?_ _)); exact BK1.out) Tryz.underlying34 rfl (by kernel_rfl)) rfl ?_
        exact ⟨by first | rfl | (simp [errW_none, errW_some] <;> rfl) | (simp [*, errW_none, errW_some] <;> rfl), by repeat (first | (with_reducible first | exact HB.out | apply below_alloc | apply pw_below_drewN | apply below_drew1 | refine below_set ?_ GE1.out) | exact HB.out)⟩
end Go.Proofs.YtebfpnbnoinhbaaGreatDoor.Q
namespace Go.Proofs.YtebfpnbnoinhbaaGreatDoor.Q
open Go.RowKit Go.Proofs.YtebfpnbnoinhbaaGreatDoorW.PrintWords Go.Proofs.YtebfpnbnoinhbaaGreatDoorW.PrintLast Go.Proofs.YtebfpnbnoinhbaaGreatDoorW.PrintMore
attribute [local go_sem] max2_int max_two
set_option linter.unusedVariables false
set_option linter.unusedSimpArgs false
set_option maxRecDepth 100000 in
theorem YtebfpnbnoinhbaaGreatDoorQpolicyStorable.fld34_0 (c0 : Bool) (c1 : Value) (c2 : Value) (c3 : Value) (c4 : Value) (c5 : Value) (c6 : Value) (c7 : Value) (c8 : Value) (c9 : Value) (c10 : Value) (c11 : Value) (c12 : Value) (w : World) : (Instr.field 34 (.agg #[.bool c0, c1, c2, c3, c4, c5, c6, c7, c8, c9, c10, c11, c12]) 0).run Tryz.prog w = .ok (.bool c0) w := by
  have h := Tryz.underlying34
  simp [Instr.field, run_underlying h, Result.andThen]
  first | (go_simp; done) | (go_simp; simp [asAgg]; done)
attribute [local go_sem high] YtebfpnbnoinhbaaGreatDoorQpolicyStorable.fld34_0
mutual
def policy_Storable.j0 : Nat → Int → Bool → ByteArray → ByteArray → List (S51) → List Int → Int → List (S51) → List Int → Bool → Bool → Bool → Bool → Bool → Bool → Bool → Bool → Int → Int → Int → Int → Int → Option (Bool)
  | 0, _, _, _, _, _, _, _, _, _, _, _, _, _, _, _, _, _, _, _, _, _, _ => none
  | k + 1, x6, x13, x2000, x2001, x2002, x2003, x3000, x3001, x3002, x18000, x18001, x18002, x18003, x18004, x18005, x18006, x18007, x18008, x18009, x18010, x18011, x18012 => if x13 = true then (some false) else ((legacy_Read.f k x2002).bind fun bt18 => (if bt18.1 = true then (policy_Storable.j1 k x6 true x2000 x2001 x2002 x2003 x3000 x3001 x3002 x18000 x18001 x18002 x18003 x18004 x18005 x18006 x18007 x18008 x18009 x18010 x18011 x18012) else (if x18000 = true then (policy_Storable.j1 k x6 true x2000 x2001 x2002 x2003 x3000 x3001 x3002 x18000 x18001 x18002 x18003 x18004 x18005 x18006 x18007 x18008 x18009 x18010 x18011 x18012) else (policy_Storable.j1 k x6 x18002 x2000 x2001 x2002 x2003 x3000 x3001 x3002 x18000 x18001 x18002 x18003 x18004 x18005 x18006 x18007 x18008 x18009 x18010 x18011 x18012))))
def policy_Storable.j1 : Nat → Int → Bool → ByteArray → ByteArray → List (S51) → List Int → Int → List (S51) → List Int → Bool → Bool → Bool → Bool → Bool → Bool → Bool → Bool → Int → Int → Int → Int → Int → Option (Bool)
  | 0, _, _, _, _, _, _, _, _, _, _, _, _, _, _, _, _, _, _, _, _, _, _ => none
  | k + 1, x6, x32, x2000, x2001, x2002, x2003, x3000, x3001, x3002, x18000, x18001, x18002, x18003, x18004, x18005, x18006, x18007, x18008, x18009, x18010, x18011, x18012 => if x32 = true then (some false) else ((policy_has.f x2002 (⟨#[97, 117, 116, 104, 111, 114, 105, 122, 97, 116, 105, 111, 110]⟩ : ByteArray)).bind fun t31 => (if t31 = true then ((policy_strict.f x18000 x18001 x18002 x18003 x18004 x18005 x18006 x18007 x18008 x18009 x18010 x18011 x18012).bind fun t32 => (if t32 = true then (policy_Storable.j2 k x6 false x3000 x3001 x3002 x18000 x18001 x18002 x18003 x18004 x18005 x18006 x18007 x18008 x18009 x18010 x18011 x18012) else (policy_Storable.j2 k x6 (!x18003) x3000 x3001 x3002 x18000 x18001 x18002 x18003 x18004 x18005 x18006 x18007 x18008 x18009 x18010 x18011 x18012))) else (policy_Storable.j2 k x6 false x3000 x3001 x3002 x18000 x18001 x18002 x18003 x18004 x18005 x18006 x18007 x18008 x18009 x18010 x18011 x18012)))
def policy_Storable.j2 : Nat → Int → Bool → Int → List (S51) → List Int → Bool → Bool → Bool → Bool → Bool → Bool → Bool → Bool → Int → Int → Int → Int → Int → Option (Bool)
  | 0, _, _, _, _, _, _, _, _, _, _, _, _, _, _, _, _, _, _ => none
  | k + 1, x6, x45, x3000, x3001, x3002, x18000, x18001, x18002, x18003, x18004, x18005, x18006, x18007, x18008, x18009, x18010, x18011, x18012 => if x45 = true then (some false) else (if x6 = 2 then (some true) else (if x18003 = true then (some true) else (if (mx x18008 x18009) ≥ 0 then (some true) else ((policy_has.f x3001 (⟨#[101, 120, 112, 105, 114, 101, 115]⟩ : ByteArray)).bind fun t33 => (if t33 = true then (some true) else ((policy_usual.f k x3000).bind fun t34 => (some t34)))))))
end
def policy_Storable.f (k : Nat) (a0_0 : ByteArray) (a0_1 : ByteArray) (l0_2 : List (S51)) (l0_3 : List Int) (a1_0 : Int) (l1_1 : List (S51)) (l1_2 : List Int) : Option (Bool) := (modern_Choose.f k l1_1).bind fun bt3 => (if a0_0.toList = ([71, 69, 84] : List UInt8) then (if a1_0 < 200 then (policy_Storable.j0 k bt3.2.2.2.2.2.2.2.2.2.2.2.2.2 true a0_0 a0_1 l0_2 l0_3 a1_0 l1_1 l1_2 bt3.1 bt3.2.1 bt3.2.2.1 bt3.2.2.2.1 bt3.2.2.2.2.1 bt3.2.2.2.2.2.1 bt3.2.2.2.2.2.2.1 bt3.2.2.2.2.2.2.2.1 bt3.2.2.2.2.2.2.2.2.1 bt3.2.2.2.2.2.2.2.2.2.1 bt3.2.2.2.2.2.2.2.2.2.2.1 bt3.2.2.2.2.2.2.2.2.2.2.2.1 bt3.2.2.2.2.2.2.2.2.2.2.2.2.1) else (if a1_0 = 206 then (policy_Storable.j0 k bt3.2.2.2.2.2.2.2.2.2.2.2.2.2 true a0_0 a0_1 l0_2 l0_3 a1_0 l1_1 l1_2 bt3.1 bt3.2.1 bt3.2.2.1 bt3.2.2.2.1 bt3.2.2.2.2.1 bt3.2.2.2.2.2.1 bt3.2.2.2.2.2.2.1 bt3.2.2.2.2.2.2.2.1 bt3.2.2.2.2.2.2.2.2.1 bt3.2.2.2.2.2.2.2.2.2.1 bt3.2.2.2.2.2.2.2.2.2.2.1 bt3.2.2.2.2.2.2.2.2.2.2.2.1 bt3.2.2.2.2.2.2.2.2.2.2.2.2.1) else (policy_Storable.j0 k bt3.2.2.2.2.2.2.2.2.2.2.2.2.2 (a1_0 == 304) a0_0 a0_1 l0_2 l0_3 a1_0 l1_1 l1_2 bt3.1 bt3.2.1 bt3.2.2.1 bt3.2.2.2.1 bt3.2.2.2.2.1 bt3.2.2.2.2.2.1 bt3.2.2.2.2.2.2.1 bt3.2.2.2.2.2.2.2.1 bt3.2.2.2.2.2.2.2.2.1 bt3.2.2.2.2.2.2.2.2.2.1 bt3.2.2.2.2.2.2.2.2.2.2.1 bt3.2.2.2.2.2.2.2.2.2.2.2.1 bt3.2.2.2.2.2.2.2.2.2.2.2.2.1))) else (policy_Storable.j0 k bt3.2.2.2.2.2.2.2.2.2.2.2.2.2 true a0_0 a0_1 l0_2 l0_3 a1_0 l1_1 l1_2 bt3.1 bt3.2.1 bt3.2.2.1 bt3.2.2.2.1 bt3.2.2.2.2.1 bt3.2.2.2.2.2.1 bt3.2.2.2.2.2.2.1 bt3.2.2.2.2.2.2.2.1 bt3.2.2.2.2.2.2.2.2.1 bt3.2.2.2.2.2.2.2.2.2.1 bt3.2.2.2.2.2.2.2.2.2.2.1 bt3.2.2.2.2.2.2.2.2.2.2.2.1 bt3.2.2.2.2.2.2.2.2.2.2.2.2.1))
set_option maxHeartbeats 8000000 in
set_option maxRecDepth 100000 in
theorem policy_Storable.calls (k : Nat) (a0_0 : ByteArray) (a0_1 : ByteArray) (A0_2 : Option Addr) (c0_2 : Nat) (l0_2 : List (S51)) (A0_3 : Option Addr) (c0_3 : Nat) (l0_3 : List Int) (a1_0 : Int) (A1_1 : Option Addr) (c1_1 : Nat) (l1_1 : List (S51)) (A1_2 : Option Addr) (c1_2 : Nat) (l1_2 : List Int) (r : Bool) (w : World) (hr0_2 : Kd.C k51 w A0_2 l0_2.length l0_2) (hc0_2 : l0_2.length ≤ c0_2) (hr0_3 : Kd.C (Kd.int .u8) w A0_3 l0_3.length l0_3) (hc0_3 : l0_3.length ≤ c0_3) (hr1_1 : Kd.C k51 w A1_1 l1_1.length l1_1) (hc1_1 : l1_1.length ≤ c1_1) (hr1_2 : Kd.C (Kd.int .u8) w A1_2 l1_2.length l1_2) (hc1_2 : l1_2.length ≤ c1_2) (HG0 : GL w) (h : policy_Storable.f k a0_0 a0_1 l0_2 l0_3 a1_0 l1_1 l1_2 = some r) :
    Calls Tryz.prog 9 #[.agg #[.string a0_0, .string a0_1, .slice A0_2 l0_2.length c0_2, .slice A0_3 l0_3.length c0_3], .agg #[.int .i64 a1_0, .slice A1_1 l1_1.length c1_1, .slice A1_2 l1_2.length c1_2]] w fun e w' => e = .returned (.bool r) ∧ Below w.heap.size w w' := by
  have hu25 := Tryz.underlying25
  have hu27 := Tryz.underlying27
  have hu34 := Tryz.underlying34
  have HG := Aside0.mk HG0
  clear HG0
  have HR0_2 := Aside0.mk hr0_2
  have HC0_2 := Aside0.mk hc0_2
  clear hr0_2 hc0_2
  have HR0_3 := Aside0.mk hr0_3
  have HC0_3 := Aside0.mk hc0_3
  clear hr0_3 hc0_3
  have HR1_1 := Aside0.mk hr1_1
  have HC1_1 := Aside0.mk hc1_1
  clear hr1_1 hc1_1
  have HR1_2 := Aside0.mk hr1_2
  have HC1_2 := Aside0.mk hc1_2
  clear hr1_2 hc1_2
  have HB := Aside0.mk (Below.refl w.heap.size w)
  have H : ((modern_Choose.f k l1_1).bind fun bt3 => (if a0_0.toList = ([71, 69, 84] : List UInt8) then (if a1_0 < 200 then (policy_Storable.j0 k bt3.2.2.2.2.2.2.2.2.2.2.2.2.2 true a0_0 a0_1 l0_2 l0_3 a1_0 l1_1 l1_2 bt3.1 bt3.2.1 bt3.2.2.1 bt3.2.2.2.1 bt3.2.2.2.2.1 bt3.2.2.2.2.2.1 bt3.2.2.2.2.2.2.1 bt3.2.2.2.2.2.2.2.1 bt3.2.2.2.2.2.2.2.2.1 bt3.2.2.2.2.2.2.2.2.2.1 bt3.2.2.2.2.2.2.2.2.2.2.1 bt3.2.2.2.2.2.2.2.2.2.2.2.1 bt3.2.2.2.2.2.2.2.2.2.2.2.2.1) else (if a1_0 = 206 then (policy_Storable.j0 k bt3.2.2.2.2.2.2.2.2.2.2.2.2.2 true a0_0 a0_1 l0_2 l0_3 a1_0 l1_1 l1_2 bt3.1 bt3.2.1 bt3.2.2.1 bt3.2.2.2.1 bt3.2.2.2.2.1 bt3.2.2.2.2.2.1 bt3.2.2.2.2.2.2.1 bt3.2.2.2.2.2.2.2.1 bt3.2.2.2.2.2.2.2.2.1 bt3.2.2.2.2.2.2.2.2.2.1 bt3.2.2.2.2.2.2.2.2.2.2.1 bt3.2.2.2.2.2.2.2.2.2.2.2.1 bt3.2.2.2.2.2.2.2.2.2.2.2.2.1) else (policy_Storable.j0 k bt3.2.2.2.2.2.2.2.2.2.2.2.2.2 (a1_0 == 304) a0_0 a0_1 l0_2 l0_3 a1_0 l1_1 l1_2 bt3.1 bt3.2.1 bt3.2.2.1 bt3.2.2.2.1 bt3.2.2.2.2.1 bt3.2.2.2.2.2.1 bt3.2.2.2.2.2.2.1 bt3.2.2.2.2.2.2.2.1 bt3.2.2.2.2.2.2.2.2.1 bt3.2.2.2.2.2.2.2.2.2.1 bt3.2.2.2.2.2.2.2.2.2.2.1 bt3.2.2.2.2.2.2.2.2.2.2.2.1 bt3.2.2.2.2.2.2.2.2.2.2.2.2.1))) else (policy_Storable.j0 k bt3.2.2.2.2.2.2.2.2.2.2.2.2.2 true a0_0 a0_1 l0_2 l0_3 a1_0 l1_1 l1_2 bt3.1 bt3.2.1 bt3.2.2.1 bt3.2.2.2.1 bt3.2.2.2.2.1 bt3.2.2.2.2.2.1 bt3.2.2.2.2.2.2.1 bt3.2.2.2.2.2.2.2.1 bt3.2.2.2.2.2.2.2.2.1 bt3.2.2.2.2.2.2.2.2.2.1 bt3.2.2.2.2.2.2.2.2.2.2.1 bt3.2.2.2.2.2.2.2.2.2.2.2.1 bt3.2.2.2.2.2.2.2.2.2.2.2.2.1))) = some r := h
  clear h
  replace H := Option.bind_eq_some_iff.mp H
  obtain ⟨⟨t3, t4, t5, t6, t7, t8, t9, t10, t11, t12, t13, t14, t15, t16⟩, A30, H⟩ := H
  replace H : (if a0_0.toList = ([71, 69, 84] : List UInt8) then (if a1_0 < 200 then (policy_Storable.j0 k t16 true a0_0 a0_1 l0_2 l0_3 a1_0 l1_1 l1_2 t3 t4 t5 t6 t7 t8 t9 t10 t11 t12 t13 t14 t15) else (if a1_0 = 206 then (policy_Storable.j0 k t16 true a0_0 a0_1 l0_2 l0_3 a1_0 l1_1 l1_2 t3 t4 t5 t6 t7 t8 t9 t10 t11 t12 t13 t14 t15) else (policy_Storable.j0 k t16 (a1_0 == 304) a0_0 a0_1 l0_2 l0_3 a1_0 l1_1 l1_2 t3 t4 t5 t6 t7 t8 t9 t10 t11 t12 t13 t14 t15))) else (policy_Storable.j0 k t16 true a0_0 a0_1 l0_2 l0_3 a1_0 l1_1 l1_2 t3 t4 t5 t6 t7 t8 t9 t10 t11 t12 t13 t14 t15)) = some r := H
  have A3 := Aside0.mk A30
  clear A30
  have HC4 := Aside0.mk H
  clear H
  go_enter Tryz.func9, Tryz.ntmps9
  go_upto_region 2 with (first | ((with_reducible refine gate_dst (N := 2) rfl ?_); refine box_event ?hg (N := 2) ?hd (cs := #[.string a0_0, .string a0_1, .slice A0_2 l0_2.length c0_2, .slice A0_3 l0_3.length c0_3]) (t := 25) ?hr ?_; (case hd => rfl); (case hg => rfl); (case hr => first | (go_simp; done) | (go_simp; rfl)); intro gb1 hg w5 hbox hb; have n0_ := Aside0.mk (below_step (by repeat (first | (with_reducible first | exact HB.out | apply below_alloc | apply pw_below_drewN | apply below_drew1) | exact HB.out)) hb); have n1_ := Aside0.mk (hbox); have n2_ := Aside0.mk ((by rw [hg]; exact (below_size (by repeat (first | (with_reducible first | exact HB.out | apply below_alloc | apply pw_below_drewN | apply below_drew1) | exact HB.out))) : w.heap.size ≤ gb1)); have n3_ := Aside0.mk ((by rw [hg]; exact (below_size (by repeat (first | (with_reducible first | exact HB.out | apply below_alloc | apply pw_below_drewN | apply below_drew1) | exact HB.out))) : w.heap.size ≤ gb1)); clear HB; have HB := n0_; have BK1 := n1_; have GW1 := n2_; have GE1 := n3_; clear n0_ n1_ n2_ n3_; clear hb hbox hg) | ((with_reducible refine gate_dst (N := 3) rfl ?_); refine box_event ?hg (N := 3) ?hd (cs := #[.int .i64 a1_0, .slice A1_1 l1_1.length c1_1, .slice A1_2 l1_2.length c1_2]) (t := 27) ?hr ?_; (case hd => rfl); (case hg => rfl); (case hr => first | (go_simp; done) | (go_simp; rfl)); intro gb2 hg w6 hbox hb; have n0_ := Aside0.mk (blk_below (g := gb1) (o := .cells #[.string a0_0, .string a0_1, .slice A0_2 l0_2.length c0_2, .slice A0_3 l0_3.length c0_3] 25 (0, 0)) (by (with_reducible repeat (first | refine blk_drewN ?_ _ | refine blk_drew ?_ | refine blk_alloc ?_ _)); exact BK1.out) hb); have n1_ := Aside0.mk (below_step (by repeat (first | (with_reducible first | exact HB.out | apply below_alloc | apply pw_below_drewN | apply below_drew1 | refine below_set ?_ GE1.out) | exact HB.out)) hb); have n2_ := Aside0.mk (hbox); have n3_ := Aside0.mk ((by rw [hg]; exact (below_size (by repeat (first | (with_reducible first | exact HB.out | apply below_alloc | apply pw_below_drewN | apply below_drew1 | refine below_set ?_ GE1.out) | exact HB.out))) : w.heap.size ≤ gb2)); have n4_ := Aside0.mk ((by rw [hg]; exact (below_size (by repeat (first | (with_reducible first | exact HB.out | apply below_alloc | apply pw_below_drewN | apply below_drew1 | refine below_set ?_ GE1.out) | exact HB.out))) : w.heap.size ≤ gb2)); have n5_ := Aside0.mk ((by rw [hg]; exact Nat.ne_of_lt (blk_lt (g := gb1) (o := .cells #[.string a0_0, .string a0_1, .slice A0_2 l0_2.length c0_2, .slice A0_3 l0_3.length c0_3] 25 (0, 0)) (by (with_reducible repeat (first | refine blk_drewN ?_ _ | refine blk_drew ?_ | refine blk_alloc ?_ _)); exact BK1.out)) : gb1 ≠ gb2)); have n6_ := Aside0.mk ((by rw [hg]; exact Nat.ne_of_gt (blk_lt (g := gb1) (o := .cells #[.string a0_0, .string a0_1, .slice A0_2 l0_2.length c0_2, .slice A0_3 l0_3.length c0_3] 25 (0, 0)) (by (with_reducible repeat (first | refine blk_drewN ?_ _ | refine blk_drew ?_ | refine blk_alloc ?_ _)); exact BK1.out)) : gb2 ≠ gb1)); clear BK1; clear HB; have BK1 := n0_; have HB := n1_; have BK2 := n2_; have GW2 := n3_; have GE2 := n4_; have NB1_2 := n5_; have NB2_1 := n6_; clear n0_ n1_ n2_ n3_ n4_ n5_ n6_; clear hb hbox hg; have hnb7 := NB2_1.out; have hnc7 := NB1_2.out; have hcz8_0 : w6.cell? ⟨gb2, 0, none⟩ = some (.int .i64 a1_0) := (blk_cell BK2.out 0).trans rfl; have hcz8_1 : w6.cell? ⟨gb2, 1, none⟩ = some (.slice A1_1 l1_1.length c1_1) := (blk_cell BK2.out 1).trans rfl; have hcz8_2 : w6.cell? ⟨gb2, 2, none⟩ = some (.slice A1_2 l1_2.length c1_2) := (blk_cell BK2.out 2).trans rfl; have hfz8_0 := blk_frozen BK2.out 0; have hfz8_1 := blk_frozen BK2.out 1; have hfz8_2 := blk_frozen BK2.out 2) | ((with_reducible refine gate_callee (f := 21) rfl ?_); refine goesL_ (some 10) rfl rfl Tryz.func21 (by kernel_rfl) rfl #[.slice A1_1 l1_1.length c1_1] rfl (by (try simp only [List.map_toArray, List.map_cons, List.map_nil]); first | done | rfl | (simp only [List.length_drop, List.length_take]; rfl)) ?_; (with_reducible refine (modern_Choose.calls k _ _ l1_1 t3 t4 t5 t6 t7 t8 t9 t10 t11 t12 t13 t14 t15 t16 _ ?side1 ?side2 ?side3 A3.out).mono ?_); (case side1 => repeat (first | exact (Kd.C_below HR1_1.out HB.out) | (with_reducible refine Kd.C_alloc ?_ _) | (with_reducible refine Kd.C_drewN ?_ _) | (with_reducible refine Kd.C_drew ?_))); (case side2 => exact HC1_1.out); (case side3 => exact GL.below HG.out (by repeat (first | (with_reducible first | exact HB.out | apply below_alloc | apply pw_below_drewN | apply below_drew1 | refine below_set ?_ GE1.out | refine below_set ?_ GE2.out) | exact HB.out))); rintro e w9 ⟨rfl, hb⟩; refine ⟨_, rfl, ?_⟩; have n0_ := Aside0.mk (blk_below (g := gb1) (o := .cells #[.string a0_0, .string a0_1, .slice A0_2 l0_2.length c0_2, .slice A0_3 l0_3.length c0_3] 25 (0, 0)) (by (with_reducible repeat (first | refine blk_drewN ?_ _ | refine blk_drew ?_ | refine blk_alloc ?_ _)); exact BK1.out) hb); have n1_ := Aside0.mk (blk_below (g := gb2) (o := .cells #[.int .i64 a1_0, .slice A1_1 l1_1.length c1_1, .slice A1_2 l1_2.length c1_2] 27 (0, 0)) (by (with_reducible repeat (first | refine blk_drewN ?_ _ | refine blk_drew ?_ | refine blk_alloc ?_ _)); exact BK2.out) hb); have n2_ := Aside0.mk (below_step (by repeat (first | (with_reducible first | exact HB.out | apply below_alloc | apply pw_below_drewN | apply below_drew1 | refine below_set ?_ GE1.out | refine below_set ?_ GE2.out) | exact HB.out)) hb); clear BK1; clear BK2; clear HB; have BK1 := n0_; have BK2 := n1_; have HB := n2_; clear n0_ n1_ n2_; (try clear hb); (try clear hb2); (try clear hk); (try clear hi)) | ((with_reducible refine gate_dst (N := 5) rfl ?_); refine box_event ?hg (N := 5) ?hd (cs := #[.bool false, .bool false, .bool false, .bool false, .bool false, .bool false, .bool false, .bool false, .int .i64 0, .int .i64 0, .int .i64 0, .int .i64 0, .int .i64 0]) (t := 34) ?hr ?_; (case hd => rfl); (case hg => rfl); (case hr => first | (go_simp; done) | (go_simp; rfl)); intro gb17 hg w10 hbox hb; have n0_ := Aside0.mk (blk_below (g := gb1) (o := .cells #[.string a0_0, .string a0_1, .slice A0_2 l0_2.length c0_2, .slice A0_3 l0_3.length c0_3] 25 (0, 0)) (by (with_reducible repeat (first | refine blk_drewN ?_ _ | refine blk_drew ?_ | refine blk_alloc ?_ _)); exact BK1.out) hb); have n1_ := Aside0.mk (blk_below (g := gb2) (o := .cells #[.int .i64 a1_0, .slice A1_1 l1_1.length c1_1, .slice A1_2 l1_2.length c1_2] 27 (0, 0)) (by (with_reducible repeat (first | refine blk_drewN ?_ _ | refine blk_drew ?_ | refine blk_alloc ?_ _)); exact BK2.out) hb); have n2_ := Aside0.mk (below_step (by repeat (first | (with_reducible first | exact HB.out | apply below_alloc | apply pw_below_drewN | apply below_drew1 | refine below_set ?_ GE1.out | refine below_set ?_ GE2.out) | exact HB.out)) hb); have n3_ := Aside0.mk (hbox); have n4_ := Aside0.mk ((by rw [hg]; exact (below_size (by repeat (first | (with_reducible first | exact HB.out | apply below_alloc | apply pw_below_drewN | apply below_drew1 | refine below_set ?_ GE1.out | refine below_set ?_ GE2.out) | exact HB.out))) : w.heap.size ≤ gb17)); have n5_ := Aside0.mk ((by rw [hg]; exact (below_size (by repeat (first | (with_reducible first | exact HB.out | apply below_alloc | apply pw_below_drewN | apply below_drew1 | refine below_set ?_ GE1.out | refine below_set ?_ GE2.out) | exact HB.out))) : w.heap.size ≤ gb17)); have n6_ := Aside0.mk ((by rw [hg]; exact Nat.ne_of_lt (blk_lt (g := gb1) (o := .cells #[.string a0_0, .string a0_1, .slice A0_2 l0_2.length c0_2, .slice A0_3 l0_3.length c0_3] 25 (0, 0)) (by (with_reducible repeat (first | refine blk_drewN ?_ _ | refine blk_drew ?_ | refine blk_alloc ?_ _)); exact BK1.out)) : gb1 ≠ gb17)); have n7_ := Aside0.mk ((by rw [hg]; exact Nat.ne_of_gt (blk_lt (g := gb1) (o := .cells #[.string a0_0, .string a0_1, .slice A0_2 l0_2.length c0_2, .slice A0_3 l0_3.length c0_3] 25 (0, 0)) (by (with_reducible repeat (first | refine blk_drewN ?_ _ | refine blk_drew ?_ | refine blk_alloc ?_ _)); exact BK1.out)) : gb17 ≠ gb1)); have n8_ := Aside0.mk ((by rw [hg]; exact Nat.ne_of_lt (blk_lt (g := gb2) (o := .cells #[.int .i64 a1_0, .slice A1_1 l1_1.length c1_1, .slice A1_2 l1_2.length c1_2] 27 (0, 0)) (by (with_reducible repeat (first | refine blk_drewN ?_ _ | refine blk_drew ?_ | refine blk_alloc ?_ _)); exact BK2.out)) : gb2 ≠ gb17)); have n9_ := Aside0.mk ((by rw [hg]; exact Nat.ne_of_gt (blk_lt (g := gb2) (o := .cells #[.int .i64 a1_0, .slice A1_1 l1_1.length c1_1, .slice A1_2 l1_2.length c1_2] 27 (0, 0)) (by (with_reducible repeat (first | refine blk_drewN ?_ _ | refine blk_drew ?_ | refine blk_alloc ?_ _)); exact BK2.out)) : gb17 ≠ gb2)); clear BK1; clear BK2; clear HB; have BK1 := n0_; have BK2 := n1_; have HB := n2_; have BK17 := n3_; have GW17 := n4_; have GE17 := n5_; have NB1_17 := n6_; have NB17_1 := n7_; have NB2_17 := n8_; have NB17_2 := n9_; clear n0_ n1_ n2_ n3_ n4_ n5_ n6_ n7_ n8_ n9_; clear hb hbox hg; have hnb11 := NB17_1.out; have hnc11 := NB1_17.out; have hnb12 := NB17_2.out; have hnc12 := NB2_17.out; have hcz13_0 : w10.cell? ⟨gb17, 0, none⟩ = some (.bool false) := (blk_cell BK17.out 0).trans rfl; have hcz13_1 : w10.cell? ⟨gb17, 1, none⟩ = some (.bool false) := (blk_cell BK17.out 1).trans rfl; have hcz13_2 : w10.cell? ⟨gb17, 2, none⟩ = some (.bool false) := (blk_cell BK17.out 2).trans rfl; have hcz13_3 : w10.cell? ⟨gb17, 3, none⟩ = some (.bool false) := (blk_cell BK17.out 3).trans rfl; have hcz13_4 : w10.cell? ⟨gb17, 4, none⟩ = some (.bool false) := (blk_cell BK17.out 4).trans rfl; have hcz13_5 : w10.cell? ⟨gb17, 5, none⟩ = some (.bool false) := (blk_cell BK17.out 5).trans rfl; have hcz13_6 : w10.cell? ⟨gb17, 6, none⟩ = some (.bool false) := (blk_cell BK17.out 6).trans rfl; have hcz13_7 : w10.cell? ⟨gb17, 7, none⟩ = some (.bool false) := (blk_cell BK17.out 7).trans rfl; have hcz13_8 : w10.cell? ⟨gb17, 8, none⟩ = some (.int .i64 0) := (blk_cell BK17.out 8).trans rfl; have hcz13_9 : w10.cell? ⟨gb17, 9, none⟩ = some (.int .i64 0) := (blk_cell BK17.out 9).trans rfl; have hcz13_10 : w10.cell? ⟨gb17, 10, none⟩ = some (.int .i64 0) := (blk_cell BK17.out 10).trans rfl; have hcz13_11 : w10.cell? ⟨gb17, 11, none⟩ = some (.int .i64 0) := (blk_cell BK17.out 11).trans rfl; have hcz13_12 : w10.cell? ⟨gb17, 12, none⟩ = some (.int .i64 0) := (blk_cell BK17.out 12).trans rfl; have hfz13_0 := blk_frozen BK17.out 0; have hfz13_1 := blk_frozen BK17.out 1; have hfz13_2 := blk_frozen BK17.out 2; have hfz13_3 := blk_frozen BK17.out 3; have hfz13_4 := blk_frozen BK17.out 4; have hfz13_5 := blk_frozen BK17.out 5; have hfz13_6 := blk_frozen BK17.out 6; have hfz13_7 := blk_frozen BK17.out 7; have hfz13_8 := blk_frozen BK17.out 8; have hfz13_9 := blk_frozen BK17.out 9; have hfz13_10 := blk_frozen BK17.out 10; have hfz13_11 := blk_frozen BK17.out 11; have hfz13_12 := blk_frozen BK17.out 12))
  (try simp only [Act.put, List.setIfInBounds_toArray, List.set_cons_zero, List.set_cons_succ])
  go_cut [13] (fun v13 wc => ∃ (kq : Nat) (x13_3 : Bool), v13 = .bool x13_3 ∧ Aside0 (policy_Storable.j0 kq t16 x13_3 a0_0 a0_1 l0_2 l0_3 a1_0 l1_1 l1_2 t3 t4 t5 t6 t7 t8 t9 t10 t11 t12 t13 t14 t15 = some r) ∧ Aside0 (kq ≤ k) ∧ Aside0 (wc.heap[gb1]? = some (.cells #[.string a0_0, .string a0_1, (.slice A0_2 l0_2.length c0_2), (.slice A0_3 l0_3.length c0_3)] 25 (0, 0))) ∧ Aside0 (wc.heap[gb2]? = some (.cells #[.int .i64 a1_0, (.slice A1_1 l1_1.length c1_1), (.slice A1_2 l1_2.length c1_2)] 27 (0, 0))) ∧ Aside0 (wc.heap[gb17]? = some (.cells #[.bool t3, .bool t4, .bool t5, .bool t6, .bool t7, .bool t8, .bool t9, .bool t10, .int .i64 t11, .int .i64 t12, .int .i64 t13, .int .i64 t14, .int .i64 t15] 34 (0, 0))) ∧ Aside0 (Below w.heap.size w wc))
  case first =>
    have H := HC4.out
    clear HC4
    by_cases c14 : a0_0.toList = ([71, 69, 84] : List UInt8)
    · rw [if_pos c14] at H
      have c14b0 : (a0_0.toList == ([71, 69, 84] : List UInt8)) = true := beq_iff_eq.mpr c14
      have c14b1 : (a0_0.toList != ([71, 69, 84] : List UInt8)) = false := bne_eq_false_iff_eq.mpr c14
      clear c14
      (first | rw [c14b0] | (simp only [i64_w, i32_w]; rw [c14b0]) | skip)
      by_cases c15 : a1_0 < 200
      · rw [if_pos c15] at H
        have c15b0 : decide (a1_0 < 200) = true := decide_eq_true c15
        clear c15
        have H' := Aside0.mk H
        clear H
        have hnb16 := NB1_2.out
        have hnc16 := NB2_1.out
        have hnb17 := NB1_17.out
        have hnc17 := NB17_1.out
        have hcz18_0 : w10.cell? ⟨gb1, 0, none⟩ = some (.string a0_0) := (blk_cell BK1.out 0).trans rfl
        have hcz18_1 : w10.cell? ⟨gb1, 1, none⟩ = some (.string a0_1) := (blk_cell BK1.out 1).trans rfl
        have hcz18_2 : w10.cell? ⟨gb1, 2, none⟩ = some (.slice A0_2 l0_2.length c0_2) := (blk_cell BK1.out 2).trans rfl
        have hcz18_3 : w10.cell? ⟨gb1, 3, none⟩ = some (.slice A0_3 l0_3.length c0_3) := (blk_cell BK1.out 3).trans rfl
        have hfz18_0 := blk_frozen BK1.out 0
        have hfz18_1 := blk_frozen BK1.out 1
        have hfz18_2 := blk_frozen BK1.out 2
        have hfz18_3 := blk_frozen BK1.out 3
        have hnb19 := NB2_17.out
        have hnc19 := NB17_2.out
        have hcz20_0 : w10.cell? ⟨gb2, 0, none⟩ = some (.int .i64 a1_0) := (blk_cell BK2.out 0).trans rfl
        have hcz20_1 : w10.cell? ⟨gb2, 1, none⟩ = some (.slice A1_1 l1_1.length c1_1) := (blk_cell BK2.out 1).trans rfl
        have hcz20_2 : w10.cell? ⟨gb2, 2, none⟩ = some (.slice A1_2 l1_2.length c1_2) := (blk_cell BK2.out 2).trans rfl
        have hfz20_0 := blk_frozen BK2.out 0
        have hfz20_1 := blk_frozen BK2.out 1
        have hfz20_2 := blk_frozen BK2.out 2
        go_wp2
        go_meet
        case rel => exact ⟨_, (true), (by first | rfl | (simp; done) | (simp [*]; done)), H', ⟨by first | omega | exact Nat.le_refl _⟩, ⟨by (with_reducible repeat (first | refine blk_drewN ?_ _ | refine blk_drew ?_ | refine blk_alloc ?_ _)); refine blk_far ?_ NB1_17.out _; (with_reducible repeat (first | refine blk_drewN ?_ _ | refine blk_drew ?_ | refine blk_alloc ?_ _)); refine blk_far ?_ NB1_17.out _; (with_reducible repeat (first | refine blk_drewN ?_ _ | refine blk_drew ?_ | refine blk_alloc ?_ _)); refine blk_far ?_ NB1_17.out _; (with_reducible repeat (first | refine blk_drewN ?_ _ | refine blk_drew ?_ | refine blk_alloc ?_ _)); refine blk_far ?_ NB1_17.out _; (with_reducible repeat (first | refine blk_drewN ?_ _ | refine blk_drew ?_ | refine blk_alloc ?_ _)); refine blk_far ?_ NB1_17.out _; (with_reducible repeat (first | refine blk_drewN ?_ _ | refine blk_drew ?_ | refine blk_alloc ?_ _)); refine blk_far ?_ NB1_17.out _; (with_reducible repeat (first | refine blk_drewN ?_ _ | refine blk_drew ?_ | refine blk_alloc ?_ _)); refine blk_far ?_ NB1_17.out _; (with_reducible repeat (first | refine blk_drewN ?_ _ | refine blk_drew ?_ | refine blk_alloc ?_ _)); refine blk_far ?_ NB1_17.out _; (with_reducible repeat (first | refine blk_drewN ?_ _ | refine blk_drew ?_ | refine blk_alloc ?_ _)); refine blk_far ?_ NB1_17.out _; (with_reducible repeat (first | refine blk_drewN ?_ _ | refine blk_drew ?_ | refine blk_alloc ?_ _)); refine blk_far ?_ NB1_17.out _; (with_reducible repeat (first | refine blk_drewN ?_ _ | refine blk_drew ?_ | refine blk_alloc ?_ _)); refine blk_far ?_ NB1_17.out _; (with_reducible repeat (first | refine blk_drewN ?_ _ | refine blk_drew ?_ | refine blk_alloc ?_ _)); refine blk_far ?_ NB1_17.out _; (with_reducible repeat (first | refine blk_drewN ?_ _ | refine blk_drew ?_ | refine blk_alloc ?_ _)); refine blk_far ?_ NB1_17.out _; (with_reducible repeat (first | refine blk_drewN ?_ _ | refine blk_drew ?_ | refine blk_alloc ?_ _)); exact BK1.out⟩, ⟨by (with_reducible repeat (first | refine blk_drewN ?_ _ | refine blk_drew ?_ | refine blk_alloc ?_ _)); refine blk_far ?_ NB2_17.out _; (with_reducible repeat (first | refine blk_drewN ?_ _ | refine blk_drew ?_ | refine blk_alloc ?_ _)); refine blk_far ?_ NB2_17.out _; (with_reducible repeat (first | refine blk_drewN ?_ _ | refine blk_drew ?_ | refine blk_alloc ?_ _)); refine blk_far ?_ NB2_17.out _; (with_reducible repeat (first | refine blk_drewN ?_ _ | refine blk_drew ?_ | refine blk_alloc ?_ _)); refine blk_far ?_ NB2_17.out _; (with_reducible repeat (first | refine blk_drewN ?_ _ | refine blk_drew ?_ | refine blk_alloc ?_ _)); refine blk_far ?_ NB2_17.out _; (with_reducible repeat (first | refine blk_drewN ?_ _ | refine blk_drew ?_ | refine blk_alloc ?_ _)); refine blk_far ?_ NB2_17.out _; (with_reducible repeat (first | refine blk_drewN ?_ _ | refine blk_drew ?_ | refine blk_alloc ?_ _)); refine blk_far ?_ NB2_17.out _; (with_reducible repeat (first | refine blk_drewN ?_ _ | refine blk_drew ?_ | refine blk_alloc ?_ _)); refine blk_far ?_ NB2_17.out _; (with_reducible repeat (first | refine blk_drewN ?_ _ | refine blk_drew ?_ | refine blk_alloc ?_ _)); refine blk_far ?_ NB2_17.out _; (with_reducible repeat (first | refine blk_drewN ?_ _ | refine blk_drew ?_ | refine blk_alloc ?_ _)); refine blk_far ?_ NB2_17.out _; (with_reducible repeat (first | refine blk_drewN ?_ _ | refine blk_drew ?_ | refine blk_alloc ?_ _)); refine blk_far ?_ NB2_17.out _; (with_reducible repeat (first | refine blk_drewN ?_ _ | refine blk_drew ?_ | refine blk_alloc ?_ _)); refine blk_far ?_ NB2_17.out _; (with_reducible repeat (first | refine blk_drewN ?_ _ | refine blk_drew ?_ | refine blk_alloc ?_ _)); refine blk_far ?_ NB2_17.out _; (with_reducible repeat (first | refine blk_drewN ?_ _ | refine blk_drew ?_ | refine blk_alloc ?_ _)); exact BK2.out⟩, ⟨by (with_reducible repeat (first | refine blk_drewN ?_ _ | refine blk_drew ?_ | refine blk_alloc ?_ _)); refine blk_put (cs := #[.bool t3, .bool t4, .bool t5, .bool t6, .bool t7, .bool t8, .bool t9, .bool t10, .int .i64 t11, .int .i64 t12, .int .i64 t13, .int .i64 t14, .int .i64 0]) ?_ 12 _ rfl; (with_reducible repeat (first | refine blk_drewN ?_ _ | refine blk_drew ?_ | refine blk_alloc ?_ _)); refine blk_put (cs := #[.bool t3, .bool t4, .bool t5, .bool t6, .bool t7, .bool t8, .bool t9, .bool t10, .int .i64 t11, .int .i64 t12, .int .i64 t13, .int .i64 0, .int .i64 0]) ?_ 11 _ rfl; (with_reducible repeat (first | refine blk_drewN ?_ _ | refine blk_drew ?_ | refine blk_alloc ?_ _)); refine blk_put (cs := #[.bool t3, .bool t4, .bool t5, .bool t6, .bool t7, .bool t8, .bool t9, .bool t10, .int .i64 t11, .int .i64 t12, .int .i64 0, .int .i64 0, .int .i64 0]) ?_ 10 _ rfl; (with_reducible repeat (first | refine blk_drewN ?_ _ | refine blk_drew ?_ | refine blk_alloc ?_ _)); refine blk_put (cs := #[.bool t3, .bool t4, .bool t5, .bool t6, .bool t7, .bool t8, .bool t9, .bool t10, .int .i64 t11, .int .i64 0, .int .i64 0, .int .i64 0, .int .i64 0]) ?_ 9 _ rfl; (with_reducible repeat (first | refine blk_drewN ?_ _ | refine blk_drew ?_ | refine blk_alloc ?_ _)); refine blk_put (cs := #[.bool t3, .bool t4, .bool t5, .bool t6, .bool t7, .bool t8, .bool t9, .bool t10, .int .i64 0, .int .i64 0, .int .i64 0, .int .i64 0, .int .i64 0]) ?_ 8 _ rfl; (with_reducible repeat (first | refine blk_drewN ?_ _ | refine blk_drew ?_ | refine blk_alloc ?_ _)); refine blk_put (cs := #[.bool t3, .bool t4, .bool t5, .bool t6, .bool t7, .bool t8, .bool t9, .bool false, .int .i64 0, .int .i64 0, .int .i64 0, .int .i64 0, .int .i64 0]) ?_ 7 _ rfl; (with_reducible repeat (first | refine blk_drewN ?_ _ | refine blk_drew ?_ | refine blk_alloc ?_ _)); refine blk_put (cs := #[.bool t3, .bool t4, .bool t5, .bool t6, .bool t7, .bool t8, .bool false, .bool false, .int .i64 0, .int .i64 0, .int .i64 0, .int .i64 0, .int .i64 0]) ?_ 6 _ rfl; (with_reducible repeat (first | refine blk_drewN ?_ _ | refine blk_drew ?_ | refine blk_alloc ?_ _)); refine blk_put (cs := #[.bool t3, .bool t4, .bool t5, .bool t6, .bool t7, .bool false, .bool false, .bool false, .int .i64 0, .int .i64 0, .int .i64 0, .int .i64 0, .int .i64 0]) ?_ 5 _ rfl; (with_reducible repeat (first | refine blk_drewN ?_ _ | refine blk_drew ?_ | refine blk_alloc ?_ _)); refine blk_put (cs := #[.bool t3, .bool t4, .bool t5, .bool t6, .bool false, .bool false, .bool false, .bool false, .int .i64 0, .int .i64 0, .int .i64 0, .int .i64 0, .int .i64 0]) ?_ 4 _ rfl; (with_reducible repeat (first | refine blk_drewN ?_ _ | refine blk_drew ?_ | refine blk_alloc ?_ _)); refine blk_put (cs := #[.bool t3, .bool t4, .bool t5, .bool false, .bool false, .bool false, .bool false, .bool false, .int .i64 0, .int .i64 0, .int .i64 0, .int .i64 0, .int .i64 0]) ?_ 3 _ rfl; (with_reducible repeat (first | refine blk_drewN ?_ _ | refine blk_drew ?_ | refine blk_alloc ?_ _)); refine blk_put (cs := #[.bool t3, .bool t4, .bool false, .bool false, .bool false, .bool false, .bool false, .bool false, .int .i64 0, .int .i64 0, .int .i64 0, .int .i64 0, .int .i64 0]) ?_ 2 _ rfl; (with_reducible repeat (first | refine blk_drewN ?_ _ | refine blk_drew ?_ | refine blk_alloc ?_ _)); refine blk_put (cs := #[.bool t3, .bool false, .bool false, .bool false, .bool false, .bool false, .bool false, .bool false, .int .i64 0, .int .i64 0, .int .i64 0, .int .i64 0, .int .i64 0]) ?_ 1 _ rfl; (with_reducible repeat (first | refine blk_drewN ?_ _ | refine blk_drew ?_ | refine blk_alloc ?_ _)); refine blk_put (cs := #[.bool false, .bool false, .bool false, .bool false, .bool false, .bool false, .bool false, .bool false, .int .i64 0, .int .i64 0, .int .i64 0, .int .i64 0, .int .i64 0]) ?_ 0 _ rfl; (with_reducible repeat (first | refine blk_drewN ?_ _ | refine blk_drew ?_ | refine blk_alloc ?_ _)); exact BK17.out⟩, ⟨by repeat (first | (with_reducible first | exact HB.out | apply below_alloc | apply pw_below_drewN | apply below_drew1 | refine below_set ?_ GE1.out | refine below_set ?_ GE2.out | refine below_set ?_ GE17.out) | exact HB.out)⟩⟩
      · rw [if_neg c15] at H
        have c15b0 : decide (a1_0 < 200) = false := decide_eq_false c15
        clear c15
        by_cases c21 : a1_0 = 206
        · rw [if_pos c21] at H
          have c21b0 : (a1_0 == 206) = true := beq_iff_eq.mpr c21
          have c21b1 : (a1_0 != 206) = false := bne_eq_false_iff_eq.mpr c21
          clear c21
          have H' := Aside0.mk H
          clear H
          have hnb22 := NB1_2.out
          have hnc22 := NB2_1.out
          have hnb23 := NB1_17.out
          have hnc23 := NB17_1.out
          have hcz24_0 : w10.cell? ⟨gb1, 0, none⟩ = some (.string a0_0) := (blk_cell BK1.out 0).trans rfl
          have hcz24_1 : w10.cell? ⟨gb1, 1, none⟩ = some (.string a0_1) := (blk_cell BK1.out 1).trans rfl
          have hcz24_2 : w10.cell? ⟨gb1, 2, none⟩ = some (.slice A0_2 l0_2.length c0_2) := (blk_cell BK1.out 2).trans rfl
          have hcz24_3 : w10.cell? ⟨gb1, 3, none⟩ = some (.slice A0_3 l0_3.length c0_3) := (blk_cell BK1.out 3).trans rfl
          have hfz24_0 := blk_frozen BK1.out 0
          have hfz24_1 := blk_frozen BK1.out 1
          have hfz24_2 := blk_frozen BK1.out 2
          have hfz24_3 := blk_frozen BK1.out 3
          have hnb25 := NB2_17.out
          have hnc25 := NB17_2.out
          have hcz26_0 : w10.cell? ⟨gb2, 0, none⟩ = some (.int .i64 a1_0) := (blk_cell BK2.out 0).trans rfl
          have hcz26_1 : w10.cell? ⟨gb2, 1, none⟩ = some (.slice A1_1 l1_1.length c1_1) := (blk_cell BK2.out 1).trans rfl
          have hcz26_2 : w10.cell? ⟨gb2, 2, none⟩ = some (.slice A1_2 l1_2.length c1_2) := (blk_cell BK2.out 2).trans rfl
          have hfz26_0 := blk_frozen BK2.out 0
          have hfz26_1 := blk_frozen BK2.out 1
          have hfz26_2 := blk_frozen BK2.out 2
          go_wp2
          go_meet
          case rel => exact ⟨_, (true), (by first | rfl | (simp; done) | (simp [*]; done)), H', ⟨by first | omega | exact Nat.le_refl _⟩, ⟨by (with_reducible repeat (first | refine blk_drewN ?_ _ | refine blk_drew ?_ | refine blk_alloc ?_ _)); refine blk_far ?_ NB1_17.out _; (with_reducible repeat (first | refine blk_drewN ?_ _ | refine blk_drew ?_ | refine blk_alloc ?_ _)); refine blk_far ?_ NB1_17.out _; (with_reducible repeat (first | refine blk_drewN ?_ _ | refine blk_drew ?_ | refine blk_alloc ?_ _)); refine blk_far ?_ NB1_17.out _; (with_reducible repeat (first | refine blk_drewN ?_ _ | refine blk_drew ?_ | refine blk_alloc ?_ _)); refine blk_far ?_ NB1_17.out _; (with_reducible repeat (first | refine blk_drewN ?_ _ | refine blk_drew ?_ | refine blk_alloc ?_ _)); refine blk_far ?_ NB1_17.out _; (with_reducible repeat (first | refine blk_drewN ?_ _ | refine blk_drew ?_ | refine blk_alloc ?_ _)); refine blk_far ?_ NB1_17.out _; (with_reducible repeat (first | refine blk_drewN ?_ _ | refine blk_drew ?_ | refine blk_alloc ?_ _)); refine blk_far ?_ NB1_17.out _; (with_reducible repeat (first | refine blk_drewN ?_ _ | refine blk_drew ?_ | refine blk_alloc ?_ _)); refine blk_far ?_ NB1_17.out _; (with_reducible repeat (first | refine blk_drewN ?_ _ | refine blk_drew ?_ | refine blk_alloc ?_ _)); refine blk_far ?_ NB1_17.out _; (with_reducible repeat (first | refine blk_drewN ?_ _ | refine blk_drew ?_ | refine blk_alloc ?_ _)); refine blk_far ?_ NB1_17.out _; (with_reducible repeat (first | refine blk_drewN ?_ _ | refine blk_drew ?_ | refine blk_alloc ?_ _)); refine blk_far ?_ NB1_17.out _; (with_reducible repeat (first | refine blk_drewN ?_ _ | refine blk_drew ?_ | refine blk_alloc ?_ _)); refine blk_far ?_ NB1_17.out _; (with_reducible repeat (first | refine blk_drewN ?_ _ | refine blk_drew ?_ | refine blk_alloc ?_ _)); refine blk_far ?_ NB1_17.out _; (with_reducible repeat (first | refine blk_drewN ?_ _ | refine blk_drew ?_ | refine blk_alloc ?_ _)); exact BK1.out⟩, ⟨by (with_reducible repeat (first | refine blk_drewN ?_ _ | refine blk_drew ?_ | refine blk_alloc ?_ _)); refine blk_far ?_ NB2_17.out _; (with_reducible repeat (first | refine blk_drewN ?_ _ | refine blk_drew ?_ | refine blk_alloc ?_ _)); refine blk_far ?_ NB2_17.out _; (with_reducible repeat (first | refine blk_drewN ?_ _ | refine blk_drew ?_ | refine blk_alloc ?_ _)); refine blk_far ?_ NB2_17.out _; (with_reducible repeat (first | refine blk_drewN ?_ _ | refine blk_drew ?_ | refine blk_alloc ?_ _)); refine blk_far ?_ NB2_17.out _; (with_reducible repeat (first | refine blk_drewN ?_ _ | refine blk_drew ?_ | refine blk_alloc ?_ _)); refine blk_far ?_ NB2_17.out _; (with_reducible repeat (first | refine blk_drewN ?_ _ | refine blk_drew ?_ | refine blk_alloc ?_ _)); refine blk_far ?_ NB2_17.out _; (with_reducible repeat (first | refine blk_drewN ?_ _ | refine blk_drew ?_ | refine blk_alloc ?_ _)); refine blk_far ?_ NB2_17.out _; (with_reducible repeat (first | refine blk_drewN ?_ _ | refine blk_drew ?_ | refine blk_alloc ?_ _)); refine blk_far ?_ NB2_17.out _; (with_reducible repeat (first | refine blk_drewN ?_ _ | refine blk_drew ?_ | refine blk_alloc ?_ _)); refine blk_far ?_ NB2_17.out _; (with_reducible repeat (first | refine blk_drewN ?_ _ | refine blk_drew ?_ | refine blk_alloc ?_ _)); refine blk_far ?_ NB2_17.out _; (with_reducible repeat (first | refine blk_drewN ?_ _ | refine blk_drew ?_ | refine blk_alloc ?_ _)); refine blk_far ?_ NB2_17.out _; (with_reducible repeat (first | refine blk_drewN ?_ _ | refine blk_drew ?_ | refine blk_alloc ?_ _)); refine blk_far ?_ NB2_17.out _; (with_reducible repeat (first | refine blk_drewN ?_ _ | refine blk_drew ?_ | refine blk_alloc ?_ _)); refine blk_far ?_ NB2_17.out _; (with_reducible repeat (first | refine blk_drewN ?_ _ | refine blk_drew ?_ | refine blk_alloc ?_ _)); exact BK2.out⟩, ⟨by (with_reducible repeat (first | refine blk_drewN ?_ _ | refine blk_drew ?_ | refine blk_alloc ?_ _)); refine blk_put (cs := #[.bool t3, .bool t4, .bool t5, .bool t6, .bool t7, .bool t8, .bool t9, .bool t10, .int .i64 t11, .int .i64 t12, .int .i64 t13, .int .i64 t14, .int .i64 0]) ?_ 12 _ rfl; (with_reducible repeat (first | refine blk_drewN ?_ _ | refine blk_drew ?_ | refine blk_alloc ?_ _)); refine blk_put (cs := #[.bool t3, .bool t4, .bool t5, .bool t6, .bool t7, .bool t8, .bool t9, .bool t10, .int .i64 t11, .int .i64 t12, .int .i64 t13, .int .i64 0, .int .i64 0]) ?_ 11 _ rfl; (with_reducible repeat (first | refine blk_drewN ?_ _ | refine blk_drew ?_ | refine blk_alloc ?_ _)); refine blk_put (cs := #[.bool t3, .bool t4, .bool t5, .bool t6, .bool t7, .bool t8, .bool t9, .bool t10, .int .i64 t11, .int .i64 t12, .int .i64 0, .int .i64 0, .int .i64 0]) ?_ 10 _ rfl; (with_reducible repeat (first | refine blk_drewN ?_ _ | refine blk_drew ?_ | refine blk_alloc ?_ _)); refine blk_put (cs := #[.bool t3, .bool t4, .bool t5, .bool t6, .bool t7, .bool t8, .bool t9, .bool t10, .int .i64 t11, .int .i64 0, .int .i64 0, .int .i64 0, .int .i64 0]) ?_ 9 _ rfl; (with_reducible repeat (first | refine blk_drewN ?_ _ | refine blk_drew ?_ | refine blk_alloc ?_ _)); refine blk_put (cs := #[.bool t3, .bool t4, .bool t5, .bool t6, .bool t7, .bool t8, .bool t9, .bool t10, .int .i64 0, .int .i64 0, .int .i64 0, .int .i64 0, .int .i64 0]) ?_ 8 _ rfl; (with_reducible repeat (first | refine blk_drewN ?_ _ | refine blk_drew ?_ | refine blk_alloc ?_ _)); refine blk_put (cs := #[.bool t3, .bool t4, .bool t5, .bool t6, .bool t7, .bool t8, .bool t9, .bool false, .int .i64 0, .int .i64 0, .int .i64 0, .int .i64 0, .int .i64 0]) ?_ 7 _ rfl; (with_reducible repeat (first | refine blk_drewN ?_ _ | refine blk_drew ?_ | refine blk_alloc ?_ _)); refine blk_put (cs := #[.bool t3, .bool t4, .bool t5, .bool t6, .bool t7, .bool t8, .bool false, .bool false, .int .i64 0, .int .i64 0, .int .i64 0, .int .i64 0, .int .i64 0]) ?_ 6 _ rfl; (with_reducible repeat (first | refine blk_drewN ?_ _ | refine blk_drew ?_ | refine blk_alloc ?_ _)); refine blk_put (cs := #[.bool t3, .bool t4, .bool t5, .bool t6, .bool t7, .bool false, .bool false, .bool false, .int .i64 0, .int .i64 0, .int .i64 0, .int .i64 0, .int .i64 0]) ?_ 5 _ rfl; (with_reducible repeat (first | refine blk_drewN ?_ _ | refine blk_drew ?_ | refine blk_alloc ?_ _)); refine blk_put (cs := #[.bool t3, .bool t4, .bool t5, .bool t6, .bool false, .bool false, .bool false, .bool false, .int .i64 0, .int .i64 0, .int .i64 0, .int .i64 0, .int .i64 0]) ?_ 4 _ rfl; (with_reducible repeat (first | refine blk_drewN ?_ _ | refine blk_drew ?_ | refine blk_alloc ?_ _)); refine blk_put (cs := #[.bool t3, .bool t4, .bool t5, .bool false, .bool false, .bool false, .bool false, .bool false, .int .i64 0, .int .i64 0, .int .i64 0, .int .i64 0, .int .i64 0]) ?_ 3 _ rfl; (with_reducible repeat (first | refine blk_drewN ?_ _ | refine blk_drew ?_ | refine blk_alloc ?_ _)); refine blk_put (cs := #[.bool t3, .bool t4, .bool false, .bool false, .bool false, .bool false, .bool false, .bool false, .int .i64 0, .int .i64 0, .int .i64 0, .int .i64 0, .int .i64 0]) ?_ 2 _ rfl; (with_reducible repeat (first | refine blk_drewN ?_ _ | refine blk_drew ?_ | refine blk_alloc ?_ _)); refine blk_put (cs := #[.bool t3, .bool false, .bool false, .bool false, .bool false, .bool false, .bool false, .bool false, .int .i64 0, .int .i64 0, .int .i64 0, .int .i64 0, .int .i64 0]) ?_ 1 _ rfl; (with_reducible repeat (first | refine blk_drewN ?_ _ | refine blk_drew ?_ | refine blk_alloc ?_ _)); refine blk_put (cs := #[.bool false, .bool false, .bool false, .bool false, .bool false, .bool false, .bool false, .bool false, .int .i64 0, .int .i64 0, .int .i64 0, .int .i64 0, .int .i64 0]) ?_ 0 _ rfl; (with_reducible repeat (first | refine blk_drewN ?_ _ | refine blk_drew ?_ | refine blk_alloc ?_ _)); exact BK17.out⟩, ⟨by repeat (first | (with_reducible first | exact HB.out | apply below_alloc | apply pw_below_drewN | apply below_drew1 | refine below_set ?_ GE1.out | refine below_set ?_ GE2.out | refine below_set ?_ GE17.out) | exact HB.out)⟩⟩
        · rw [if_neg c21] at H
          have c21b0 : (a1_0 == 206) = false := beq_eq_false_iff_ne.mpr c21
          have c21b1 : (a1_0 != 206) = true := bne_iff_ne.mpr c21
          have H' := Aside0.mk H
          clear H
          have hnb27 := NB1_2.out
          have hnc27 := NB2_1.out
          have hnb28 := NB1_17.out
          have hnc28 := NB17_1.out
          have hcz29_0 : w10.cell? ⟨gb1, 0, none⟩ = some (.string a0_0) := (blk_cell BK1.out 0).trans rfl
          have hcz29_1 : w10.cell? ⟨gb1, 1, none⟩ = some (.string a0_1) := (blk_cell BK1.out 1).trans rfl
          have hcz29_2 : w10.cell? ⟨gb1, 2, none⟩ = some (.slice A0_2 l0_2.length c0_2) := (blk_cell BK1.out 2).trans rfl
          have hcz29_3 : w10.cell? ⟨gb1, 3, none⟩ = some (.slice A0_3 l0_3.length c0_3) := (blk_cell BK1.out 3).trans rfl
          have hfz29_0 := blk_frozen BK1.out 0
          have hfz29_1 := blk_frozen BK1.out 1
          have hfz29_2 := blk_frozen BK1.out 2
          have hfz29_3 := blk_frozen BK1.out 3
          have hnb30 := NB2_17.out
          have hnc30 := NB17_2.out
          have hcz31_0 : w10.cell? ⟨gb2, 0, none⟩ = some (.int .i64 a1_0) := (blk_cell BK2.out 0).trans rfl
          have hcz31_1 : w10.cell? ⟨gb2, 1, none⟩ = some (.slice A1_1 l1_1.length c1_1) := (blk_cell BK2.out 1).trans rfl
          have hcz31_2 : w10.cell? ⟨gb2, 2, none⟩ = some (.slice A1_2 l1_2.length c1_2) := (blk_cell BK2.out 2).trans rfl
          have hfz31_0 := blk_frozen BK2.out 0
          have hfz31_1 := blk_frozen BK2.out 1
          have hfz31_2 := blk_frozen BK2.out 2
          go_wp2
          go_meet
          case rel => exact ⟨_, ((a1_0 == 304)), (by first | rfl | (simp; done) | (simp [*]; done)), H', ⟨by first | omega | exact Nat.le_refl _⟩, ⟨by (with_reducible repeat (first | refine blk_drewN ?_ _ | refine blk_drew ?_ | refine blk_alloc ?_ _)); refine blk_far ?_ NB1_17.out _; (with_reducible repeat (first | refine blk_drewN ?_ _ | refine blk_drew ?_ | refine blk_alloc ?_ _)); refine blk_far ?_ NB1_17.out _; (with_reducible repeat (first | refine blk_drewN ?_ _ | refine blk_drew ?_ | refine blk_alloc ?_ _)); refine blk_far ?_ NB1_17.out _; (with_reducible repeat (first | refine blk_drewN ?_ _ | refine blk_drew ?_ | refine blk_alloc ?_ _)); refine blk_far ?_ NB1_17.out _; (with_reducible repeat (first | refine blk_drewN ?_ _ | refine blk_drew ?_ | refine blk_alloc ?_ _)); refine blk_far ?_ NB1_17.out _; (with_reducible repeat (first | refine blk_drewN ?_ _ | refine blk_drew ?_ | refine blk_alloc ?_ _)); refine blk_far ?_ NB1_17.out _; (with_reducible repeat (first | refine blk_drewN ?_ _ | refine blk_drew ?_ | refine blk_alloc ?_ _)); refine blk_far ?_ NB1_17.out _; (with_reducible repeat (first | refine blk_drewN ?_ _ | refine blk_drew ?_ | refine blk_alloc ?_ _)); refine blk_far ?_ NB1_17.out _; (with_reducible repeat (first | refine blk_drewN ?_ _ | refine blk_drew ?_ | refine blk_alloc ?_ _)); refine blk_far ?_ NB1_17.out _; (with_reducible repeat (first | refine blk_drewN ?_ _ | refine blk_drew ?_ | refine blk_alloc ?_ _)); refine blk_far ?_ NB1_17.out _; (with_reducible repeat (first | refine blk_drewN ?_ _ | refine blk_drew ?_ | refine blk_alloc ?_ _)); refine blk_far ?_ NB1_17.out _; (with_reducible repeat (first | refine blk_drewN ?_ _ | refine blk_drew ?_ | refine blk_alloc ?_ _)); refine blk_far ?_ NB1_17.out _; (with_reducible repeat (first | refine blk_drewN ?_ _ | refine blk_drew ?_ | refine blk_alloc ?_ _)); refine blk_far ?_ NB1_17.out _; (with_reducible repeat (first | refine blk_drewN ?_ _ | refine blk_drew ?_ | refine blk_alloc ?_ _)); exact BK1.out⟩, ⟨by (with_reducible repeat (first | refine blk_drewN ?_ _ | refine blk_drew ?_ | refine blk_alloc ?_ _)); refine blk_far ?_ NB2_17.out _; (with_reducible repeat (first | refine blk_drewN ?_ _ | refine blk_drew ?_ | refine blk_alloc ?_ _)); refine blk_far ?_ NB2_17.out _; (with_reducible repeat (first | refine blk_drewN ?_ _ | refine blk_drew ?_ | refine blk_alloc ?_ _)); refine blk_far ?_ NB2_17.out _; (with_reducible repeat (first | refine blk_drewN ?_ _ | refine blk_drew ?_ | refine blk_alloc ?_ _)); refine blk_far ?_ NB2_17.out _; (with_reducible repeat (first | refine blk_drewN ?_ _ | refine blk_drew ?_ | refine blk_alloc ?_ _)); refine blk_far ?_ NB2_17.out _; (with_reducible repeat (first | refine blk_drewN ?_ _ | refine blk_drew ?_ | refine blk_alloc ?_ _)); refine blk_far ?_ NB2_17.out _; (with_reducible repeat (first | refine blk_drewN ?_ _ | refine blk_drew ?_ | refine blk_alloc ?_ _)); refine blk_far ?_ NB2_17.out _; (with_reducible repeat (first | refine blk_drewN ?_ _ | refine blk_drew ?_ | refine blk_alloc ?_ _)); refine blk_far ?_ NB2_17.out _; (with_reducible repeat (first | refine blk_drewN ?_ _ | refine blk_drew ?_ | refine blk_alloc ?_ _)); refine blk_far ?_ NB2_17.out _; (with_reducible repeat (first | refine blk_drewN ?_ _ | refine blk_drew ?_ | refine blk_alloc ?_ _)); refine blk_far ?_ NB2_17.out _; (with_reducible repeat (first | refine blk_drewN ?_ _ | refine blk_drew ?_ | refine blk_alloc ?_ _)); refine blk_far ?_ NB2_17.out _; (with_reducible repeat (first | refine blk_drewN ?_ _ | refine blk_drew ?_ | refine blk_alloc ?_ _)); refine blk_far ?_ NB2_17.out _; (with_reducible repeat (first | refine blk_drewN ?_ _ | refine blk_drew ?_ | refine blk_alloc ?_ _)); refine blk_far ?_ NB2_17.out _; (with_reducible repeat (first | refine blk_drewN ?_ _ | refine blk_drew ?_ | refine blk_alloc ?_ _)); exact BK2.out⟩, ⟨by (with_reducible repeat (first | refine blk_drewN ?_ _ | refine blk_drew ?_ | refine blk_alloc ?_ _)); refine blk_put (cs := #[.bool t3, .bool t4, .bool t5, .bool t6, .bool t7, .bool t8, .bool t9, .bool t10, .int .i64 t11, .int .i64 t12, .int .i64 t13, .int .i64 t14, .int .i64 0]) ?_ 12 _ rfl; (with_reducible repeat (first | refine blk_drewN ?_ _ | refine blk_drew ?_ | refine blk_alloc ?_ _)); refine blk_put (cs := #[.bool t3, .bool t4, .bool t5, .bool t6, .bool t7, .bool t8, .bool t9, .bool t10, .int .i64 t11, .int .i64 t12, .int .i64 t13, .int .i64 0, .int .i64 0]) ?_ 11 _ rfl; (with_reducible repeat (first | refine blk_drewN ?_ _ | refine blk_drew ?_ | refine blk_alloc ?_ _)); refine blk_put (cs := #[.bool t3, .bool t4, .bool t5, .bool t6, .bool t7, .bool t8, .bool t9, .bool t10, .int .i64 t11, .int .i64 t12, .int .i64 0, .int .i64 0, .int .i64 0]) ?_ 10 _ rfl; (with_reducible repeat (first | refine blk_drewN ?_ _ | refine blk_drew ?_ | refine blk_alloc ?_ _)); refine blk_put (cs := #[.bool t3, .bool t4, .bool t5, .bool t6, .bool t7, .bool t8, .bool t9, .bool t10, .int .i64 t11, .int .i64 0, .int .i64 0, .int .i64 0, .int .i64 0]) ?_ 9 _ rfl; (with_reducible repeat (first | refine blk_drewN ?_ _ | refine blk_drew ?_ | refine blk_alloc ?_ _)); refine blk_put (cs := #[.bool t3, .bool t4, .bool t5, .bool t6, .bool t7, .bool t8, .bool t9, .bool t10, .int .i64 0, .int .i64 0, .int .i64 0, .int .i64 0, .int .i64 0]) ?_ 8 _ rfl; (with_reducible repeat (first | refine blk_drewN ?_ _ | refine blk_drew ?_ | refine blk_alloc ?_ _)); refine blk_put (cs := #[.bool t3, .bool t4, .bool t5, .bool t6, .bool t7, .bool t8, .bool t9, .bool false, .int .i64 0, .int .i64 0, .int .i64 0, .int .i64 0, .int .i64 0]) ?_ 7 _ rfl; (with_reducible repeat (first | refine blk_drewN ?_ _ | refine blk_drew ?_ | refine blk_alloc ?_ _)); refine blk_put (cs := #[.bool t3, .bool t4, .bool t5, .bool t6, .bool t7, .bool t8, .bool false, .bool false, .int .i64 0, .int .i64 0, .int .i64 0, .int .i64 0, .int .i64 0]) ?_ 6 _ rfl; (with_reducible repeat (first | refine blk_drewN ?_ _ | refine blk_drew ?_ | refine blk_alloc ?_ _)); refine blk_put (cs := #[.bool t3, .bool t4, .bool t5, .bool t6, .bool t7, .bool false, .bool false, .bool false, .int .i64 0, .int .i64 0, .int .i64 0, .int .i64 0, .int .i64 0]) ?_ 5 _ rfl; (with_reducible repeat (first | refine blk_drewN ?_ _ | refine blk_drew ?_ | refine blk_alloc ?_ _)); refine blk_put (cs := #[.bool t3, .bool t4, .bool t5, .bool t6, .bool false, .bool false, .bool false, .bool false, .int .i64 0, .int .i64 0, .int .i64 0, .int .i64 0, .int .i64 0]) ?_ 4 _ rfl; (with_reducible repeat (first | refine blk_drewN ?_ _ | refine blk_drew ?_ | refine blk_alloc ?_ _)); refine blk_put (cs := #[.bool t3, .bool t4, .bool t5, .bool false, .bool false, .bool false, .bool false, .bool false, .int .i64 0, .int .i64 0, .int .i64 0, .int .i64 0, .int .i64 0]) ?_ 3 _ rfl; (with_reducible repeat (first | refine blk_drewN ?_ _ | refine blk_drew ?_ | refine blk_alloc ?_ _)); refine blk_put (cs := #[.bool t3, .bool t4, .bool false, .bool false, .bool false, .bool false, .bool false, .bool false, .int .i64 0, .int .i64 0, .int .i64 0, .int .i64 0, .int .i64 0]) ?_ 2 _ rfl; (with_reducible repeat (first | refine blk_drewN ?_ _ | refine blk_drew ?_ | refine blk_alloc ?_ _)); refine blk_put (cs := #[.bool t3, .bool false, .bool false, .bool false, .bool false, .bool false, .bool false, .bool false, .int .i64 0, .int .i64 0, .int .i64 0, .int .i64 0, .int .i64 0]) ?_ 1 _ rfl; (with_reducible repeat (first | refine blk_drewN ?_ _ | refine blk_drew ?_ | refine blk_alloc ?_ _)); refine blk_put (cs := #[.bool false, .bool false, .bool false, .bool false, .bool false, .bool false, .bool false, .bool false, .int .i64 0, .int .i64 0, .int .i64 0, .int .i64 0, .int .i64 0]) ?_ 0 _ rfl; (with_reducible repeat (first | refine blk_drewN ?_ _ | refine blk_drew ?_ | refine blk_alloc ?_ _)); exact BK17.out⟩, ⟨by repeat (first | (with_reducible first | exact HB.out | apply below_alloc | apply pw_below_drewN | apply below_drew1 | refine below_set ?_ GE1.out | refine below_set ?_ GE2.out | refine below_set ?_ GE17.out) | exact HB.out)⟩⟩
    · rw [if_neg c14] at H
      have c14b0 : (a0_0.toList == ([71, 69, 84] : List UInt8)) = false := beq_eq_false_iff_ne.mpr c14
      have c14b1 : (a0_0.toList != ([71, 69, 84] : List UInt8)) = true := bne_iff_ne.mpr c14
      (first | rw [c14b0] | (simp only [i64_w, i32_w]; rw [c14b0]) | skip)
      have H' := Aside0.mk H
      clear H
      have hnb32 := NB1_2.out
      have hnc32 := NB2_1.out
      have hnb33 := NB1_17.out
      have hnc33 := NB17_1.out
      have hcz34_0 : w10.cell? ⟨gb1, 0, none⟩ = some (.string a0_0) := (blk_cell BK1.out 0).trans rfl
      have hcz34_1 : w10.cell? ⟨gb1, 1, none⟩ = some (.string a0_1) := (blk_cell BK1.out 1).trans rfl
      have hcz34_2 : w10.cell? ⟨gb1, 2, none⟩ = some (.slice A0_2 l0_2.length c0_2) := (blk_cell BK1.out 2).trans rfl
      have hcz34_3 : w10.cell? ⟨gb1, 3, none⟩ = some (.slice A0_3 l0_3.length c0_3) := (blk_cell BK1.out 3).trans rfl
      have hfz34_0 := blk_frozen BK1.out 0
      have hfz34_1 := blk_frozen BK1.out 1
      have hfz34_2 := blk_frozen BK1.out 2
      have hfz34_3 := blk_frozen BK1.out 3
      go_wp2
      go_meet
      case rel => exact ⟨_, (true), (by first | rfl | (simp; done) | (simp [*]; done)), H', ⟨by first | omega | exact Nat.le_refl _⟩, ⟨by (with_reducible repeat (first | refine blk_drewN ?_ _ | refine blk_drew ?_ | refine blk_alloc ?_ _)); refine blk_far ?_ NB1_17.out _; (with_reducible repeat (first | refine blk_drewN ?_ _ | refine blk_drew ?_ | refine blk_alloc ?_ _)); refine blk_far ?_ NB1_17.out _; (with_reducible repeat (first | refine blk_drewN ?_ _ | refine blk_drew ?_ | refine blk_alloc ?_ _)); refine blk_far ?_ NB1_17.out _; (with_reducible repeat (first | refine blk_drewN ?_ _ | refine blk_drew ?_ | refine blk_alloc ?_ _)); refine blk_far ?_ NB1_17.out _; (with_reducible repeat (first | refine blk_drewN ?_ _ | refine blk_drew ?_ | refine blk_alloc ?_ _)); refine blk_far ?_ NB1_17.out _; (with_reducible repeat (first | refine blk_drewN ?_ _ | refine blk_drew ?_ | refine blk_alloc ?_ _)); refine blk_far ?_ NB1_17.out _; (with_reducible repeat (first | refine blk_drewN ?_ _ | refine blk_drew ?_ | refine blk_alloc ?_ _)); refine blk_far ?_ NB1_17.out _; (with_reducible repeat (first | refine blk_drewN ?_ _ | refine blk_drew ?_ | refine blk_alloc ?_ _)); refine blk_far ?_ NB1_17.out _; (with_reducible repeat (first | refine blk_drewN ?_ _ | refine blk_drew ?_ | refine blk_alloc ?_ _)); refine blk_far ?_ NB1_17.out _; (with_reducible repeat (first | refine blk_drewN ?_ _ | refine blk_drew ?_ | refine blk_alloc ?_ _)); refine blk_far ?_ NB1_17.out _; (with_reducible repeat (first | refine blk_drewN ?_ _ | refine blk_drew ?_ | refine blk_alloc ?_ _)); refine blk_far ?_ NB1_17.out _; (with_reducible repeat (first | refine blk_drewN ?_ _ | refine blk_drew ?_ | refine blk_alloc ?_ _)); refine blk_far ?_ NB1_17.out _; (with_reducible repeat (first | refine blk_drewN ?_ _ | refine blk_drew ?_ | refine blk_alloc ?_ _)); refine blk_far ?_ NB1_17.out _; (with_reducible repeat (first | refine blk_drewN ?_ _ | refine blk_drew ?_ | refine blk_alloc ?_ _)); exact BK1.out⟩, ⟨by (with_reducible repeat (first | refine blk_drewN ?_ _ | refine blk_drew ?_ | refine blk_alloc ?_ _)); refine blk_far ?_ NB2_17.out _; (with_reducible repeat (first | refine blk_drewN ?_ _ | refine blk_drew ?_ | refine blk_alloc ?_ _)); refine blk_far ?_ NB2_17.out _; (with_reducible repeat (first | refine blk_drewN ?_ _ | refine blk_drew ?_ | refine blk_alloc ?_ _)); refine blk_far ?_ NB2_17.out _; (with_reducible repeat (first | refine blk_drewN ?_ _ | refine blk_drew ?_ | refine blk_alloc ?_ _)); refine blk_far ?_ NB2_17.out _; (with_reducible repeat (first | refine blk_drewN ?_ _ | refine blk_drew ?_ | refine blk_alloc ?_ _)); refine blk_far ?_ NB2_17.out _; (with_reducible repeat (first | refine blk_drewN ?_ _ | refine blk_drew ?_ | refine blk_alloc ?_ _)); refine blk_far ?_ NB2_17.out _; (with_reducible repeat (first | refine blk_drewN ?_ _ | refine blk_drew ?_ | refine blk_alloc ?_ _)); refine blk_far ?_ NB2_17.out _; (with_reducible repeat (first | refine blk_drewN ?_ _ | refine blk_drew ?_ | refine blk_alloc ?_ _)); refine blk_far ?_ NB2_17.out _; (with_reducible repeat (first | refine blk_drewN ?_ _ | refine blk_drew ?_ | refine blk_alloc ?_ _)); refine blk_far ?_ NB2_17.out _; (with_reducible repeat (first | refine blk_drewN ?_ _ | refine blk_drew ?_ | refine blk_alloc ?_ _)); refine blk_far ?_ NB2_17.out _; (with_reducible repeat (first | refine blk_drewN ?_ _ | refine blk_drew ?_ | refine blk_alloc ?_ _)); refine blk_far ?_ NB2_17.out _; (with_reducible repeat (first | refine blk_drewN ?_ _ | refine blk_drew ?_ | refine blk_alloc ?_ _)); refine blk_far ?_ NB2_17.out _; (with_reducible repeat (first | refine blk_drewN ?_ _ | refine blk_drew ?_ | refine blk_alloc ?_ _)); refine blk_far ?_ NB2_17.out _; (with_reducible repeat (first | refine blk_drewN ?_ _ | refine blk_drew ?_ | refine blk_alloc ?_ _)); exact BK2.out⟩, ⟨by (with_reducible repeat (first | refine blk_drewN ?_ _ | refine blk_drew ?_ | refine blk_alloc ?_ _)); refine blk_put (cs := #[.bool t3, .bool t4, .bool t5, .bool t6, .bool t7, .bool t8, .bool t9, .bool t10, .int .i64 t11, .int .i64 t12, .int .i64 t13, .int .i64 t14, .int .i64 0]) ?_ 12 _ rfl; (with_reducible repeat (first | refine blk_drewN ?_ _ | refine blk_drew ?_ | refine blk_alloc ?_ _)); refine blk_put (cs := #[.bool t3, .bool t4, .bool t5, .bool t6, .bool t7, .bool t8, .bool t9, .bool t10, .int .i64 t11, .int .i64 t12, .int .i64 t13, .int .i64 0, .int .i64 0]) ?_ 11 _ rfl; (with_reducible repeat (first | refine blk_drewN ?_ _ | refine blk_drew ?_ | refine blk_alloc ?_ _)); refine blk_put (cs := #[.bool t3, .bool t4, .bool t5, .bool t6, .bool t7, .bool t8, .bool t9, .bool t10, .int .i64 t11, .int .i64 t12, .int .i64 0, .int .i64 0, .int .i64 0]) ?_ 10 _ rfl; (with_reducible repeat (first | refine blk_drewN ?_ _ | refine blk_drew ?_ | refine blk_alloc ?_ _)); refine blk_put (cs := #[.bool t3, .bool t4, .bool t5, .bool t6, .bool t7, .bool t8, .bool t9, .bool t10, .int .i64 t11, .int .i64 0, .int .i64 0, .int .i64 0, .int .i64 0]) ?_ 9 _ rfl; (with_reducible repeat (first | refine blk_drewN ?_ _ | refine blk_drew ?_ | refine blk_alloc ?_ _)); refine blk_put (cs := #[.bool t3, .bool t4, .bool t5, .bool t6, .bool t7, .bool t8, .bool t9, .bool t10, .int .i64 0, .int .i64 0, .int .i64 0, .int .i64 0, .int .i64 0]) ?_ 8 _ rfl; (with_reducible repeat (first | refine blk_drewN ?_ _ | refine blk_drew ?_ | refine blk_alloc ?_ _)); refine blk_put (cs := #[.bool t3, .bool t4, .bool t5, .bool t6, .bool t7, .bool t8, .bool t9, .bool false, .int .i64 0, .int .i64 0, .int .i64 0, .int .i64 0, .int .i64 0]) ?_ 7 _ rfl; (with_reducible repeat (first | refine blk_drewN ?_ _ | refine blk_drew ?_ | refine blk_alloc ?_ _)); refine blk_put (cs := #[.bool t3, .bool t4, .bool t5, .bool t6, .bool t7, .bool t8, .bool false, .bool false, .int .i64 0, .int .i64 0, .int .i64 0, .int .i64 0, .int .i64 0]) ?_ 6 _ rfl; (with_reducible repeat (first | refine blk_drewN ?_ _ | refine blk_drew ?_ | refine blk_alloc ?_ _)); refine blk_put (cs := #[.bool t3, .bool t4, .bool t5, .bool t6, .bool t7, .bool false, .bool false, .bool false, .int .i64 0, .int .i64 0, .int .i64 0, .int .i64 0, .int .i64 0]) ?_ 5 _ rfl; (with_reducible repeat (first | refine blk_drewN ?_ _ | refine blk_drew ?_ | refine blk_alloc ?_ _)); refine blk_put (cs := #[.bool t3, .bool t4, .bool t5, .bool t6, .bool false, .bool false, .bool false, .bool false, .int .i64 0, .int .i64 0, .int .i64 0, .int .i64 0, .int .i64 0]) ?_ 4 _ rfl; (with_reducible repeat (first | refine blk_drewN ?_ _ | refine blk_drew ?_ | refine blk_alloc ?_ _)); refine blk_put (cs := #[.bool t3, .bool t4, .bool t5, .bool false, .bool false, .bool false, .bool false, .bool false, .int .i64 0, .int .i64 0, .int .i64 0, .int .i64 0, .int .i64 0]) ?_ 3 _ rfl; (with_reducible repeat (first | refine blk_drewN ?_ _ | refine blk_drew ?_ | refine blk_alloc ?_ _)); refine blk_put (cs := #[.bool t3, .bool t4, .bool false, .bool false, .bool false, .bool false, .bool false, .bool false, .int .i64 0, .int .i64 0, .int .i64 0, .int .i64 0, .int .i64 0]) ?_ 2 _ rfl; (with_reducible repeat (first | refine blk_drewN ?_ _ | refine blk_drew ?_ | refine blk_alloc ?_ _)); refine blk_put (cs := #[.bool t3, .bool false, .bool false, .bool false, .bool false, .bool false, .bool false, .bool false, .int .i64 0, .int .i64 0, .int .i64 0, .int .i64 0, .int .i64 0]) ?_ 1 _ rfl; (with_reducible repeat (first | refine blk_drewN ?_ _ | refine blk_drew ?_ | refine blk_alloc ?_ _)); refine blk_put (cs := #[.bool false, .bool false, .bool false, .bool false, .bool false, .bool false, .bool false, .bool false, .int .i64 0, .int .i64 0, .int .i64 0, .int .i64 0, .int .i64 0]) ?_ 0 _ rfl; (with_reducible repeat (first | refine blk_drewN ?_ _ | refine blk_drew ?_ | refine blk_alloc ?_ _)); exact BK17.out⟩, ⟨by repeat (first | (with_reducible first | exact HB.out | apply below_alloc | apply pw_below_drewN | apply below_drew1 | refine below_set ?_ GE1.out | refine below_set ?_ GE2.out | refine below_set ?_ GE17.out) | exact HB.out)⟩⟩
  case rest =>
    clear HC4
    try clear c1
    try clear c2
    try clear p2
    try clear c3
    try clear c7
    try clear c9
    try clear c11
    try clear c12
    try clear c14
    try clear c14b0
    try clear c14b1
    try clear c15
    try clear c15b0
    try clear c16
    try clear c17
    try clear c19
    try clear c21
    try clear c21b0
    try clear c21b1
    try clear c22
    try clear c23
    try clear c25
    try clear c27
    try clear c28
    try clear c30
    try clear c32
    try clear c33
    try clear hcz13_0
    try clear hcz13_1
    try clear hcz13_10
    try clear hcz13_11
    try clear hcz13_12
    try clear hcz13_2
    try clear hcz13_3
    try clear hcz13_4
    try clear hcz13_5
    try clear hcz13_6
    try clear hcz13_7
    try clear hcz13_8
    try clear hcz13_9
    try clear hcz18_0
    try clear hcz18_1
    try clear hcz18_2
    try clear hcz18_3
    try clear hcz20_0
    try clear hcz20_1
    try clear hcz20_2
    try clear hcz24_0
    try clear hcz24_1
    try clear hcz24_2
    try clear hcz24_3
    try clear hcz26_0
    try clear hcz26_1
    try clear hcz26_2
    try clear hcz29_0
    try clear hcz29_1
    try clear hcz29_2
    try clear hcz29_3
    try clear hcz31_0
    try clear hcz31_1
    try clear hcz31_2
    try clear hcz34_0
    try clear hcz34_1
    try clear hcz34_2
    try clear hcz34_3
    try clear hcz8_0
    try clear hcz8_1
    try clear hcz8_2
    try clear hfz13_0
    try clear hfz13_1
    try clear hfz13_10
    try clear hfz13_11
    try clear hfz13_12
    try clear hfz13_2
    try clear hfz13_3
    try clear hfz13_4
    try clear hfz13_5
    try clear hfz13_6
    try clear hfz13_7
    try clear hfz13_8
    try clear hfz13_9
    try clear hfz18_0
    try clear hfz18_1
    try clear hfz18_2
    try clear hfz18_3
    try clear hfz20_0
    try clear hfz20_1
    try clear hfz20_2
    try clear hfz24_0
    try clear hfz24_1
    try clear hfz24_2
    try clear hfz24_3
    try clear hfz26_0
    try clear hfz26_1
    try clear hfz26_2
    try clear hfz29_0
    try clear hfz29_1
    try clear hfz29_2
    try clear hfz29_3
    try clear hfz31_0
    try clear hfz31_1
    try clear hfz31_2
    try clear hfz34_0
    try clear hfz34_1
    try clear hfz34_2
    try clear hfz34_3
    try clear hfz8_0
    try clear hfz8_1
    try clear hfz8_2
    obtain ⟨kq, x13_3, rfl, HA, HJ3, BK1, BK2, BK17, HB⟩ := hcut
    cases kq with
    | zero => exact absurd HA.out (by simp [policy_Storable.j0])
    | succ kj3 =>
      have H := HA.out
      clear HA
      simp only [policy_Storable.j0] at H
      by_cases c35 : x13_3 = true
      · subst c35
        have H1 : (some false) = some r := by rw [if_pos rfl] at H; exact H
        clear H
        have H := H1
        clear H1
        obtain rfl := Option.some.inj H
        go_wp2
        go_ret
        exact ⟨by first | rfl | (simp [errW_none, errW_some] <;> rfl) | (simp [*, errW_none, errW_some] <;> rfl), by repeat (first | (with_reducible first | exact HB.out | apply below_alloc | apply pw_below_drewN | apply below_drew1 | refine below_set ?_ GE1.out | refine below_set ?_ GE2.out | refine below_set ?_ GE17.out) | exact HB.out)⟩
      · replace c35 := Bool.eq_false_iff.mpr c35
        subst c35
        have H1 : ((legacy_Read.f kj3 l0_2).bind fun bt18 => (if bt18.1 = true then (policy_Storable.j1 kj3 t16 true a0_0 a0_1 l0_2 l0_3 a1_0 l1_1 l1_2 t3 t4 t5 t6 t7 t8 t9 t10 t11 t12 t13 t14 t15) else (if t3 = true then (policy_Storable.j1 kj3 t16 true a0_0 a0_1 l0_2 l0_3 a1_0 l1_1 l1_2 t3 t4 t5 t6 t7 t8 t9 t10 t11 t12 t13 t14 t15) else (policy_Storable.j1 kj3 t16 t5 a0_0 a0_1 l0_2 l0_3 a1_0 l1_1 l1_2 t3 t4 t5 t6 t7 t8 t9 t10 t11 t12 t13 t14 t15)))) = some r := by rw [if_neg (show ¬ (false = true) by decide)] at H; exact H
        clear H
        have H := H1
        clear H1
        have HC36 := Aside0.mk H
        clear H
        go_upto_region 4 with (fail)
        go_cut [32] (fun v32 wc => ∃ (kq : Nat) (x32_35 : Bool), v32 = .bool x32_35 ∧ Aside0 (policy_Storable.j1 kq t16 x32_35 a0_0 a0_1 l0_2 l0_3 a1_0 l1_1 l1_2 t3 t4 t5 t6 t7 t8 t9 t10 t11 t12 t13 t14 t15 = some r) ∧ Aside0 (kq ≤ kj3) ∧ Aside0 (wc.heap[gb1]? = some (.cells #[.string a0_0, .string a0_1, (.slice A0_2 l0_2.length c0_2), (.slice A0_3 l0_3.length c0_3)] 25 (0, 0))) ∧ Aside0 (wc.heap[gb2]? = some (.cells #[.int .i64 a1_0, (.slice A1_1 l1_1.length c1_1), (.slice A1_2 l1_2.length c1_2)] 27 (0, 0))) ∧ Aside0 (wc.heap[gb17]? = some (.cells #[.bool t3, .bool t4, .bool t5, .bool t6, .bool t7, .bool t8, .bool t9, .bool t10, .int .i64 t11, .int .i64 t12, .int .i64 t13, .int .i64 t14, .int .i64 t15] 34 (0, 0))) ∧ Aside0 (Below w.heap.size w wc))
        case first =>
          have H := HC36.out
          clear HC36
          replace H := Option.bind_eq_some_iff.mp H
          obtain ⟨⟨t18, t19, t20, t21, t22, t23, t24, t25, t26, t27, t28, t29, t30⟩, A370, H⟩ := H
          replace H : (if t18 = true then (policy_Storable.j1 kj3 t16 true a0_0 a0_1 l0_2 l0_3 a1_0 l1_1 l1_2 t3 t4 t5 t6 t7 t8 t9 t10 t11 t12 t13 t14 t15) else (if t3 = true then (policy_Storable.j1 kj3 t16 true a0_0 a0_1 l0_2 l0_3 a1_0 l1_1 l1_2 t3 t4 t5 t6 t7 t8 t9 t10 t11 t12 t13 t14 t15) else (policy_Storable.j1 kj3 t16 t5 a0_0 a0_1 l0_2 l0_3 a1_0 l1_1 l1_2 t3 t4 t5 t6 t7 t8 t9 t10 t11 t12 t13 t14 t15))) = some r := H
          have A37 := Aside0.mk A370
          clear A370
          by_cases c38 : t18 = true
          · subst c38
            have H1 : (policy_Storable.j1 kj3 t16 true a0_0 a0_1 l0_2 l0_3 a1_0 l1_1 l1_2 t3 t4 t5 t6 t7 t8 t9 t10 t11 t12 t13 t14 t15) = some r := by rw [if_pos rfl] at H; exact H
            clear H
            have H := H1
            clear H1
            have H' := Aside0.mk H
            clear H
            have hnb39 := NB1_2.out
            have hnc39 := NB2_1.out
            have hnb40 := NB1_17.out
            have hnc40 := NB17_1.out
            have hcz41_0 : wc.cell? ⟨gb1, 0, none⟩ = some (.string a0_0) := (blk_cell BK1.out 0).trans rfl
            have hcz41_1 : wc.cell? ⟨gb1, 1, none⟩ = some (.string a0_1) := (blk_cell BK1.out 1).trans rfl
            have hcz41_2 : wc.cell? ⟨gb1, 2, none⟩ = some (.slice A0_2 l0_2.length c0_2) := (blk_cell BK1.out 2).trans rfl
            have hcz41_3 : wc.cell? ⟨gb1, 3, none⟩ = some (.slice A0_3 l0_3.length c0_3) := (blk_cell BK1.out 3).trans rfl
            have hfz41_0 := blk_frozen BK1.out 0
            have hfz41_1 := blk_frozen BK1.out 1
            have hfz41_2 := blk_frozen BK1.out 2
            have hfz41_3 := blk_frozen BK1.out 3
            go_wp2_with (first | ((with_reducible refine gate_callee (f := 22) rfl ?_); refine goesL_ (some 35) rfl rfl Tryz.func22 (by kernel_rfl) rfl #[.slice A0_2 l0_2.length c0_2] rfl (by (try simp only [List.map_toArray, List.map_cons, List.map_nil]); first | done | rfl | (simp only [List.length_drop, List.length_take]; rfl)) ?_; (with_reducible refine (legacy_Read.calls kj3 _ _ l0_2 true t19 t20 t21 t22 t23 t24 t25 t26 t27 t28 t29 t30 _ ?side1 ?side2 ?side3 A37.out).mono ?_); (case side1 => repeat (first | exact (Kd.C_below HR0_2.out HB.out) | (with_reducible refine Kd.C_alloc ?_ _) | (with_reducible refine Kd.C_drewN ?_ _) | (with_reducible refine Kd.C_drew ?_))); (case side2 => exact HC0_2.out); (case side3 => exact GL.below HG.out (by repeat (first | (with_reducible first | exact HB.out | apply below_alloc | apply pw_below_drewN | apply below_drew1 | refine below_set ?_ GE1.out | refine below_set ?_ GE2.out | refine below_set ?_ GE17.out) | exact HB.out))); rintro e w42 ⟨rfl, hb⟩; refine ⟨_, rfl, ?_⟩; have n0_ := Aside0.mk (blk_below (g := gb1) (o := .cells #[.string a0_0, .string a0_1, .slice A0_2 l0_2.length c0_2, .slice A0_3 l0_3.length c0_3] 25 (0, 0)) (by (with_reducible repeat (first | refine blk_drewN ?_ _ | refine blk_drew ?_ | refine blk_alloc ?_ _)); exact BK1.out) hb); have n1_ := Aside0.mk (blk_below (g := gb2) (o := .cells #[.int .i64 a1_0, .slice A1_1 l1_1.length c1_1, .slice A1_2 l1_2.length c1_2] 27 (0, 0)) (by (with_reducible repeat (first | refine blk_drewN ?_ _ | refine blk_drew ?_ | refine blk_alloc ?_ _)); exact BK2.out) hb); have n2_ := Aside0.mk (blk_below (g := gb17) (o := .cells #[.bool t3, .bool t4, .bool t5, .bool t6, .bool t7, .bool t8, .bool t9, .bool t10, .int .i64 t11, .int .i64 t12, .int .i64 t13, .int .i64 t14, .int .i64 t15] 34 (0, 0)) (by (with_reducible repeat (first | refine blk_drewN ?_ _ | refine blk_drew ?_ | refine blk_alloc ?_ _)); exact BK17.out) hb); have n3_ := Aside0.mk (below_step (by repeat (first | (with_reducible first | exact HB.out | apply below_alloc | apply pw_below_drewN | apply below_drew1 | refine below_set ?_ GE1.out | refine below_set ?_ GE2.out | refine below_set ?_ GE17.out) | exact HB.out)) hb); clear BK1; clear BK2; clear BK17; clear HB; have BK1 := n0_; have BK2 := n1_; have BK17 := n2_; have HB := n3_; clear n0_ n1_ n2_ n3_; (try clear hb); (try clear hb2); (try clear hk); (try clear hi)))
            go_meet
            case rel => exact ⟨_, (true), (by first | rfl | (simp; done) | (simp [*]; done)), H', ⟨by have := HJ3.out; first | omega | exact Nat.le_refl _⟩, ⟨by (with_reducible repeat (first | refine blk_drewN ?_ _ | refine blk_drew ?_ | refine blk_alloc ?_ _)); exact BK1.out⟩, ⟨by (with_reducible repeat (first | refine blk_drewN ?_ _ | refine blk_drew ?_ | refine blk_alloc ?_ _)); exact BK2.out⟩, ⟨by (with_reducible repeat (first | refine blk_drewN ?_ _ | refine blk_drew ?_ | refine blk_alloc ?_ _)); exact BK17.out⟩, ⟨by repeat (first | (with_reducible first | exact HB.out | apply below_alloc | apply pw_below_drewN | apply below_drew1 | refine below_set ?_ GE1.out | refine below_set ?_ GE2.out | refine below_set ?_ GE17.out) | exact HB.out)⟩⟩
          · replace c38 := Bool.eq_false_iff.mpr c38
            subst c38
            have H1 : (if t3 = true then (policy_Storable.j1 kj3 t16 true a0_0 a0_1 l0_2 l0_3 a1_0 l1_1 l1_2 t3 t4 t5 t6 t7 t8 t9 t10 t11 t12 t13 t14 t15) else (policy_Storable.j1 kj3 t16 t5 a0_0 a0_1 l0_2 l0_3 a1_0 l1_1 l1_2 t3 t4 t5 t6 t7 t8 t9 t10 t11 t12 t13 t14 t15)) = some r := by rw [if_neg (show ¬ (false = true) by decide)] at H; exact H
            clear H
            have H := H1
            clear H1
            by_cases c43 : t3 = true
            · subst c43
              have H1 : (policy_Storable.j1 kj3 t16 true a0_0 a0_1 l0_2 l0_3 a1_0 l1_1 l1_2 true t4 t5 t6 t7 t8 t9 t10 t11 t12 t13 t14 t15) = some r := by rw [if_pos rfl] at H; exact H
              clear H
              have H := H1
              clear H1
              have H' := Aside0.mk H
              clear H
              have hnb44 := NB1_2.out
              have hnc44 := NB2_1.out
              have hnb45 := NB1_17.out
              have hnc45 := NB17_1.out
              have hcz46_0 : wc.cell? ⟨gb1, 0, none⟩ = some (.string a0_0) := (blk_cell BK1.out 0).trans rfl
              have hcz46_1 : wc.cell? ⟨gb1, 1, none⟩ = some (.string a0_1) := (blk_cell BK1.out 1).trans rfl
              have hcz46_2 : wc.cell? ⟨gb1, 2, none⟩ = some (.slice A0_2 l0_2.length c0_2) := (blk_cell BK1.out 2).trans rfl
              have hcz46_3 : wc.cell? ⟨gb1, 3, none⟩ = some (.slice A0_3 l0_3.length c0_3) := (blk_cell BK1.out 3).trans rfl
              have hfz46_0 := blk_frozen BK1.out 0
              have hfz46_1 := blk_frozen BK1.out 1
              have hfz46_2 := blk_frozen BK1.out 2
              have hfz46_3 := blk_frozen BK1.out 3
              go_wp2_with (first | ((with_reducible refine gate_callee (f := 22) rfl ?_); refine goesL_ (some 35) rfl rfl Tryz.func22 (by kernel_rfl) rfl #[.slice A0_2 l0_2.length c0_2] rfl (by (try simp only [List.map_toArray, List.map_cons, List.map_nil]); first | done | rfl | (simp only [List.length_drop, List.length_take]; rfl)) ?_; (with_reducible refine (legacy_Read.calls kj3 _ _ l0_2 false t19 t20 t21 t22 t23 t24 t25 t26 t27 t28 t29 t30 _ ?side1 ?side2 ?side3 A37.out).mono ?_); (case side1 => repeat (first | exact (Kd.C_below HR0_2.out HB.out) | (with_reducible refine Kd.C_alloc ?_ _) | (with_reducible refine Kd.C_drewN ?_ _) | (with_reducible refine Kd.C_drew ?_))); (case side2 => exact HC0_2.out); (case side3 => exact GL.below HG.out (by repeat (first | (with_reducible first | exact HB.out | apply below_alloc | apply pw_below_drewN | apply below_drew1 | refine below_set ?_ GE1.out | refine below_set ?_ GE2.out | refine below_set ?_ GE17.out) | exact HB.out))); rintro e w47 ⟨rfl, hb⟩; refine ⟨_, rfl, ?_⟩; have n0_ := Aside0.mk (blk_below (g := gb1) (o := .cells #[.string a0_0, .string a0_1, .slice A0_2 l0_2.length c0_2, .slice A0_3 l0_3.length c0_3] 25 (0, 0)) (by (with_reducible repeat (first | refine blk_drewN ?_ _ | refine blk_drew ?_ | refine blk_alloc ?_ _)); exact BK1.out) hb); have n1_ := Aside0.mk (blk_below (g := gb2) (o := .cells #[.int .i64 a1_0, .slice A1_1 l1_1.length c1_1, .slice A1_2 l1_2.length c1_2] 27 (0, 0)) (by (with_reducible repeat (first | refine blk_drewN ?_ _ | refine blk_drew ?_ | refine blk_alloc ?_ _)); exact BK2.out) hb); have n2_ := Aside0.mk (blk_below (g := gb17) (o := .cells #[.bool true, .bool t4, .bool t5, .bool t6, .bool t7, .bool t8, .bool t9, .bool t10, .int .i64 t11, .int .i64 t12, .int .i64 t13, .int .i64 t14, .int .i64 t15] 34 (0, 0)) (by (with_reducible repeat (first | refine blk_drewN ?_ _ | refine blk_drew ?_ | refine blk_alloc ?_ _)); exact BK17.out) hb); have n3_ := Aside0.mk (below_step (by repeat (first | (with_reducible first | exact HB.out | apply below_alloc | apply pw_below_drewN | apply below_drew1 | refine below_set ?_ GE1.out | refine below_set ?_ GE2.out | refine below_set ?_ GE17.out) | exact HB.out)) hb); clear BK1; clear BK2; clear BK17; clear HB; have BK1 := n0_; have BK2 := n1_; have BK17 := n2_; have HB := n3_; clear n0_ n1_ n2_ n3_; (try clear hb); (try clear hb2); (try clear hk); (try clear hi); have hnb48 := NB17_2.out; have hnc48 := NB2_17.out; have hcz49_0 : w47.cell? ⟨gb17, 0, none⟩ = some (.bool true) := (blk_cell BK17.out 0).trans rfl; have hcz49_1 : w47.cell? ⟨gb17, 1, none⟩ = some (.bool t4) := (blk_cell BK17.out 1).trans rfl; have hcz49_2 : w47.cell? ⟨gb17, 2, none⟩ = some (.bool t5) := (blk_cell BK17.out 2).trans rfl; have hcz49_3 : w47.cell? ⟨gb17, 3, none⟩ = some (.bool t6) := (blk_cell BK17.out 3).trans rfl; have hcz49_4 : w47.cell? ⟨gb17, 4, none⟩ = some (.bool t7) := (blk_cell BK17.out 4).trans rfl; have hcz49_5 : w47.cell? ⟨gb17, 5, none⟩ = some (.bool t8) := (blk_cell BK17.out 5).trans rfl; have hcz49_6 : w47.cell? ⟨gb17, 6, none⟩ = some (.bool t9) := (blk_cell BK17.out 6).trans rfl; have hcz49_7 : w47.cell? ⟨gb17, 7, none⟩ = some (.bool t10) := (blk_cell BK17.out 7).trans rfl; have hcz49_8 : w47.cell? ⟨gb17, 8, none⟩ = some (.int .i64 t11) := (blk_cell BK17.out 8).trans rfl; have hcz49_9 : w47.cell? ⟨gb17, 9, none⟩ = some (.int .i64 t12) := (blk_cell BK17.out 9).trans rfl; have hcz49_10 : w47.cell? ⟨gb17, 10, none⟩ = some (.int .i64 t13) := (blk_cell BK17.out 10).trans rfl; have hcz49_11 : w47.cell? ⟨gb17, 11, none⟩ = some (.int .i64 t14) := (blk_cell BK17.out 11).trans rfl; have hcz49_12 : w47.cell? ⟨gb17, 12, none⟩ = some (.int .i64 t15) := (blk_cell BK17.out 12).trans rfl; have hfz49_0 := blk_frozen BK17.out 0; have hfz49_1 := blk_frozen BK17.out 1; have hfz49_2 := blk_frozen BK17.out 2; have hfz49_3 := blk_frozen BK17.out 3; have hfz49_4 := blk_frozen BK17.out 4; have hfz49_5 := blk_frozen BK17.out 5; have hfz49_6 := blk_frozen BK17.out 6; have hfz49_7 := blk_frozen BK17.out 7; have hfz49_8 := blk_frozen BK17.out 8; have hfz49_9 := blk_frozen BK17.out 9; have hfz49_10 := blk_frozen BK17.out 10; have hfz49_11 := blk_frozen BK17.out 11; have hfz49_12 := blk_frozen BK17.out 12))
              go_meet
              case rel => exact ⟨_, (true), (by first | rfl | (simp; done) | (simp [*]; done)), H', ⟨by have := HJ3.out; first | omega | exact Nat.le_refl _⟩, ⟨by (with_reducible repeat (first | refine blk_drewN ?_ _ | refine blk_drew ?_ | refine blk_alloc ?_ _)); exact BK1.out⟩, ⟨by (with_reducible repeat (first | refine blk_drewN ?_ _ | refine blk_drew ?_ | refine blk_alloc ?_ _)); exact BK2.out⟩, ⟨by (with_reducible repeat (first | refine blk_drewN ?_ _ | refine blk_drew ?_ | refine blk_alloc ?_ _)); exact BK17.out⟩, ⟨by repeat (first | (with_reducible first | exact HB.out | apply below_alloc | apply pw_below_drewN | apply below_drew1 | refine below_set ?_ GE1.out | refine below_set ?_ GE2.out | refine below_set ?_ GE17.out) | exact HB.out)⟩⟩
            · replace c43 := Bool.eq_false_iff.mpr c43
              subst c43
              have H1 : (policy_Storable.j1 kj3 t16 t5 a0_0 a0_1 l0_2 l0_3 a1_0 l1_1 l1_2 false t4 t5 t6 t7 t8 t9 t10 t11 t12 t13 t14 t15) = some r := by rw [if_neg (show ¬ (false = true) by decide)] at H; exact H
              clear H
              have H := H1
              clear H1
              have H' := Aside0.mk H
              clear H
              have hnb50 := NB1_2.out
              have hnc50 := NB2_1.out
              have hnb51 := NB1_17.out
              have hnc51 := NB17_1.out
              have hcz52_0 : wc.cell? ⟨gb1, 0, none⟩ = some (.string a0_0) := (blk_cell BK1.out 0).trans rfl
              have hcz52_1 : wc.cell? ⟨gb1, 1, none⟩ = some (.string a0_1) := (blk_cell BK1.out 1).trans rfl
              have hcz52_2 : wc.cell? ⟨gb1, 2, none⟩ = some (.slice A0_2 l0_2.length c0_2) := (blk_cell BK1.out 2).trans rfl
              have hcz52_3 : wc.cell? ⟨gb1, 3, none⟩ = some (.slice A0_3 l0_3.length c0_3) := (blk_cell BK1.out 3).trans rfl
              have hfz52_0 := blk_frozen BK1.out 0
              have hfz52_1 := blk_frozen BK1.out 1
              have hfz52_2 := blk_frozen BK1.out 2
              have hfz52_3 := blk_frozen BK1.out 3
              go_wp2_with (first | ((with_reducible refine gate_callee (f := 22) rfl ?_); refine goesL_ (some 35) rfl rfl Tryz.func22 (by kernel_rfl) rfl #[.slice A0_2 l0_2.length c0_2] rfl (by (try simp only [List.map_toArray, List.map_cons, List.map_nil]); first | done | rfl | (simp only [List.length_drop, List.length_take]; rfl)) ?_; (with_reducible refine (legacy_Read.calls kj3 _ _ l0_2 false t19 t20 t21 t22 t23 t24 t25 t26 t27 t28 t29 t30 _ ?side1 ?side2 ?side3 A37.out).mono ?_); (case side1 => repeat (first | exact (Kd.C_below HR0_2.out HB.out) | (with_reducible refine Kd.C_alloc ?_ _) | (with_reducible refine Kd.C_drewN ?_ _) | (with_reducible refine Kd.C_drew ?_))); (case side2 => exact HC0_2.out); (case side3 => exact GL.below HG.out (by repeat (first | (with_reducible first | exact HB.out | apply below_alloc | apply pw_below_drewN | apply below_drew1 | refine below_set ?_ GE1.out | refine below_set ?_ GE2.out | refine below_set ?_ GE17.out) | exact HB.out))); rintro e w53 ⟨rfl, hb⟩; refine ⟨_, rfl, ?_⟩; have n0_ := Aside0.mk (blk_below (g := gb1) (o := .cells #[.string a0_0, .string a0_1, .slice A0_2 l0_2.length c0_2, .slice A0_3 l0_3.length c0_3] 25 (0, 0)) (by (with_reducible repeat (first | refine blk_drewN ?_ _ | refine blk_drew ?_ | refine blk_alloc ?_ _)); exact BK1.out) hb); have n1_ := Aside0.mk (blk_below (g := gb2) (o := .cells #[.int .i64 a1_0, .slice A1_1 l1_1.length c1_1, .slice A1_2 l1_2.length c1_2] 27 (0, 0)) (by (with_reducible repeat (first | refine blk_drewN ?_ _ | refine blk_drew ?_ | refine blk_alloc ?_ _)); exact BK2.out) hb); have n2_ := Aside0.mk (blk_below (g := gb17) (o := .cells #[.bool false, .bool t4, .bool t5, .bool t6, .bool t7, .bool t8, .bool t9, .bool t10, .int .i64 t11, .int .i64 t12, .int .i64 t13, .int .i64 t14, .int .i64 t15] 34 (0, 0)) (by (with_reducible repeat (first | refine blk_drewN ?_ _ | refine blk_drew ?_ | refine blk_alloc ?_ _)); exact BK17.out) hb); have n3_ := Aside0.mk (below_step (by repeat (first | (with_reducible first | exact HB.out | apply below_alloc | apply pw_below_drewN | apply below_drew1 | refine below_set ?_ GE1.out | refine below_set ?_ GE2.out | refine below_set ?_ GE17.out) | exact HB.out)) hb); clear BK1; clear BK2; clear BK17; clear HB; have BK1 := n0_; have BK2 := n1_; have BK17 := n2_; have HB := n3_; clear n0_ n1_ n2_ n3_; (try clear hb); (try clear hb2); (try clear hk); (try clear hi); have hnb54 := NB17_2.out; have hnc54 := NB2_17.out; have hcz55_0 : w53.cell? ⟨gb17, 0, none⟩ = some (.bool false) := (blk_cell BK17.out 0).trans rfl; have hcz55_1 : w53.cell? ⟨gb17, 1, none⟩ = some (.bool t4) := (blk_cell BK17.out 1).trans rfl; have hcz55_2 : w53.cell? ⟨gb17, 2, none⟩ = some (.bool t5) := (blk_cell BK17.out 2).trans rfl; have hcz55_3 : w53.cell? ⟨gb17, 3, none⟩ = some (.bool t6) := (blk_cell BK17.out 3).trans rfl; have hcz55_4 : w53.cell? ⟨gb17, 4, none⟩ = some (.bool t7) := (blk_cell BK17.out 4).trans rfl; have hcz55_5 : w53.cell? ⟨gb17, 5, none⟩ = some (.bool t8) := (blk_cell BK17.out 5).trans rfl; have hcz55_6 : w53.cell? ⟨gb17, 6, none⟩ = some (.bool t9) := (blk_cell BK17.out 6).trans rfl; have hcz55_7 : w53.cell? ⟨gb17, 7, none⟩ = some (.bool t10) := (blk_cell BK17.out 7).trans rfl; have hcz55_8 : w53.cell? ⟨gb17, 8, none⟩ = some (.int .i64 t11) := (blk_cell BK17.out 8).trans rfl; have hcz55_9 : w53.cell? ⟨gb17, 9, none⟩ = some (.int .i64 t12) := (blk_cell BK17.out 9).trans rfl; have hcz55_10 : w53.cell? ⟨gb17, 10, none⟩ = some (.int .i64 t13) := (blk_cell BK17.out 10).trans rfl; have hcz55_11 : w53.cell? ⟨gb17, 11, none⟩ = some (.int .i64 t14) := (blk_cell BK17.out 11).trans rfl; have hcz55_12 : w53.cell? ⟨gb17, 12, none⟩ = some (.int .i64 t15) := (blk_cell BK17.out 12).trans rfl; have hfz55_0 := blk_frozen BK17.out 0; have hfz55_1 := blk_frozen BK17.out 1; have hfz55_2 := blk_frozen BK17.out 2; have hfz55_3 := blk_frozen BK17.out 3; have hfz55_4 := blk_frozen BK17.out 4; have hfz55_5 := blk_frozen BK17.out 5; have hfz55_6 := blk_frozen BK17.out 6; have hfz55_7 := blk_frozen BK17.out 7; have hfz55_8 := blk_frozen BK17.out 8; have hfz55_9 := blk_frozen BK17.out 9; have hfz55_10 := blk_frozen BK17.out 10; have hfz55_11 := blk_frozen BK17.out 11; have hfz55_12 := blk_frozen BK17.out 12))
              go_meet
              case rel => exact ⟨_, (t5), (by first | rfl | (simp; done) | (simp [*]; done)), H', ⟨by have := HJ3.out; first | omega | exact Nat.le_refl _⟩, ⟨by (with_reducible repeat (first | refine blk_drewN ?_ _ | refine blk_drew ?_ | refine blk_alloc ?_ _)); exact BK1.out⟩, ⟨by (with_reducible repeat (first | refine blk_drewN ?_ _ | refine blk_drew ?_ | refine blk_alloc ?_ _)); exact BK2.out⟩, ⟨by (with_reducible repeat (first | refine blk_drewN ?_ _ | refine blk_drew ?_ | refine blk_alloc ?_ _)); exact BK17.out⟩, ⟨by repeat (first | (with_reducible first | exact HB.out | apply below_alloc | apply pw_below_drewN | apply below_drew1 | refine below_set ?_ GE1.out | refine below_set ?_ GE2.out | refine below_set ?_ GE17.out) | exact HB.out)⟩⟩
        case rest =>
          clear HC36
          try clear c1
          try clear c2
          try clear p2
          try clear c3
          try clear c4
          try clear c5
          try clear c7
          try clear c9
          try clear c11
          try clear c12
          try clear c14
          try clear c14b0
          try clear c14b1
          try clear c15
          try clear c15b0
          try clear c16
          try clear c17
          try clear c19
          try clear c21
          try clear c21b0
          try clear c21b1
          try clear c22
          try clear c23
          try clear c25
          try clear c27
          try clear c28
          try clear c30
          try clear c32
          try clear c33
          try clear c35
          try clear c38
          try clear c39
          try clear c40
          try clear c43
          try clear c44
          try clear c45
          try clear c48
          try clear c50
          try clear c51
          try clear c54
          try clear hcz13_0
          try clear hcz13_1
          try clear hcz13_10
          try clear hcz13_11
          try clear hcz13_12
          try clear hcz13_2
          try clear hcz13_3
          try clear hcz13_4
          try clear hcz13_5
          try clear hcz13_6
          try clear hcz13_7
          try clear hcz13_8
          try clear hcz13_9
          try clear hcz18_0
          try clear hcz18_1
          try clear hcz18_2
          try clear hcz18_3
          try clear hcz20_0
          try clear hcz20_1
          try clear hcz20_2
          try clear hcz24_0
          try clear hcz24_1
          try clear hcz24_2
          try clear hcz24_3
          try clear hcz26_0
          try clear hcz26_1
          try clear hcz26_2
          try clear hcz29_0
          try clear hcz29_1
          try clear hcz29_2
          try clear hcz29_3
          try clear hcz31_0
          try clear hcz31_1
          try clear hcz31_2
          try clear hcz34_0
          try clear hcz34_1
          try clear hcz34_2
          try clear hcz34_3
          try clear hcz41_0
          try clear hcz41_1
          try clear hcz41_2
          try clear hcz41_3
          try clear hcz46_0
          try clear hcz46_1
          try clear hcz46_2
          try clear hcz46_3
          try clear hcz49_0
          try clear hcz49_1
          try clear hcz49_10
          try clear hcz49_11
          try clear hcz49_12
          try clear hcz49_2
          try clear hcz49_3
          try clear hcz49_4
          try clear hcz49_5
          try clear hcz49_6
          try clear hcz49_7
          try clear hcz49_8
          try clear hcz49_9
          try clear hcz52_0
          try clear hcz52_1
          try clear hcz52_2
          try clear hcz52_3
          try clear hcz55_0
          try clear hcz55_1
          try clear hcz55_10
          try clear hcz55_11
          try clear hcz55_12
          try clear hcz55_2
          try clear hcz55_3
          try clear hcz55_4
          try clear hcz55_5
          try clear hcz55_6
          try clear hcz55_7
          try clear hcz55_8
          try clear hcz55_9
          try clear hcz8_0
          try clear hcz8_1
          try clear hcz8_2
          try clear hfz13_0
          try clear hfz13_1
          try clear hfz13_10
          try clear hfz13_11
          try clear hfz13_12
          try clear hfz13_2
          try clear hfz13_3
          try clear hfz13_4
          try clear hfz13_5
          try clear hfz13_6
          try clear hfz13_7
          try clear hfz13_8
          try clear hfz13_9
          try clear hfz18_0
          try clear hfz18_1
          try clear hfz18_2
          try clear hfz18_3
          try clear hfz20_0
          try clear hfz20_1
          try clear hfz20_2
          try clear hfz24_0
          try clear hfz24_1
          try clear hfz24_2
          try clear hfz24_3
          try clear hfz26_0
          try clear hfz26_1
          try clear hfz26_2
          try clear hfz29_0
          try clear hfz29_1
          try clear hfz29_2
          try clear hfz29_3
          try clear hfz31_0
          try clear hfz31_1
          try clear hfz31_2
          try clear hfz34_0
          try clear hfz34_1
          try clear hfz34_2
          try clear hfz34_3
          try clear hfz41_0
          try clear hfz41_1
          try clear hfz41_2
          try clear hfz41_3
          try clear hfz46_0
          try clear hfz46_1
          try clear hfz46_2
          try clear hfz46_3
          try clear hfz49_0
          try clear hfz49_1
          try clear hfz49_10
          try clear hfz49_11
          try clear hfz49_12
          try clear hfz49_2
          try clear hfz49_3
          try clear hfz49_4
          try clear hfz49_5
          try clear hfz49_6
          try clear hfz49_7
          try clear hfz49_8
          try clear hfz49_9
          try clear hfz52_0
          try clear hfz52_1
          try clear hfz52_2
          try clear hfz52_3
          try clear hfz55_0
          try clear hfz55_1
          try clear hfz55_10
          try clear hfz55_11
          try clear hfz55_12
          try clear hfz55_2
          try clear hfz55_3
          try clear hfz55_4
          try clear hfz55_5
          try clear hfz55_6
          try clear hfz55_7
          try clear hfz55_8
          try clear hfz55_9
          try clear hfz8_0
          try clear hfz8_1
          try clear hfz8_2
          try clear p2
          obtain ⟨kq, x32_35, rfl, HA, HJ35, BK1, BK2, BK17, HB⟩ := hcut
          cases kq with
          | zero => exact absurd HA.out (by simp [policy_Storable.j1])
          | succ kj35 =>
            have H := HA.out
            clear HA
            simp only [policy_Storable.j1] at H
            by_cases c56 : x32_35 = true
            · subst c56
              have H1 : (some false) = some r := by rw [if_pos rfl] at H; exact H
              clear H
              have H := H1
              clear H1
              obtain rfl := Option.some.inj H
              go_wp2
              go_ret
              exact ⟨by first | rfl | (simp [errW_none, errW_some] <;> rfl) | (simp [*, errW_none, errW_some] <;> rfl), by repeat (first | (with_reducible first | exact HB.out | apply below_alloc | apply pw_below_drewN | apply below_drew1 | refine below_set ?_ GE1.out | refine below_set ?_ GE2.out | refine below_set ?_ GE17.out) | exact HB.out)⟩
            · replace c56 := Bool.eq_false_iff.mpr c56
              subst c56
              have H1 : ((policy_has.f l0_2 (⟨#[97, 117, 116, 104, 111, 114, 105, 122, 97, 116, 105, 111, 110]⟩ : ByteArray)).bind fun t31 => (if t31 = true then ((policy_strict.f t3 t4 t5 t6 t7 t8 t9 t10 t11 t12 t13 t14 t15).bind fun t32 => (if t32 = true then (policy_Storable.j2 kj35 t16 false a1_0 l1_1 l1_2 t3 t4 t5 t6 t7 t8 t9 t10 t11 t12 t13 t14 t15) else (policy_Storable.j2 kj35 t16 (!t6) a1_0 l1_1 l1_2 t3 t4 t5 t6 t7 t8 t9 t10 t11 t12 t13 t14 t15))) else (policy_Storable.j2 kj35 t16 false a1_0 l1_1 l1_2 t3 t4 t5 t6 t7 t8 t9 t10 t11 t12 t13 t14 t15))) = some r := by rw [if_neg (show ¬ (false = true) by decide)] at H; exact H
              clear H
              have H := H1
              clear H1
              have HC57 := Aside0.mk H
              clear H
              go_upto_region 6 with (fail)
              go_cut [45] (fun v45 wc => ∃ (kq : Nat) (x45_56 : Bool), v45 = .bool x45_56 ∧ Aside0 (policy_Storable.j2 kq t16 x45_56 a1_0 l1_1 l1_2 t3 t4 t5 t6 t7 t8 t9 t10 t11 t12 t13 t14 t15 = some r) ∧ Aside0 (kq ≤ kj35) ∧ Aside0 (wc.heap[gb1]? = some (.cells #[.string a0_0, .string a0_1, (.slice A0_2 l0_2.length c0_2), (.slice A0_3 l0_3.length c0_3)] 25 (0, 0))) ∧ Aside0 (wc.heap[gb2]? = some (.cells #[.int .i64 a1_0, (.slice A1_1 l1_1.length c1_1), (.slice A1_2 l1_2.length c1_2)] 27 (0, 0))) ∧ Aside0 (wc.heap[gb17]? = some (.cells #[.bool t3, .bool t4, .bool t5, .bool t6, .bool t7, .bool t8, .bool t9, .bool t10, .int .i64 t11, .int .i64 t12, .int .i64 t13, .int .i64 t14, .int .i64 t15] 34 (0, 0))) ∧ Aside0 (Below w.heap.size w wc))
              case first =>
                have H := HC57.out
                clear HC57
                replace H := Option.bind_eq_some_iff.mp H
                obtain ⟨t31, A580, H⟩ := H
                replace H : (if t31 = true then ((policy_strict.f t3 t4 t5 t6 t7 t8 t9 t10 t11 t12 t13 t14 t15).bind fun t32 => (if t32 = true then (policy_Storable.j2 kj35 t16 false a1_0 l1_1 l1_2 t3 t4 t5 t6 t7 t8 t9 t10 t11 t12 t13 t14 t15) else (policy_Storable.j2 kj35 t16 (!t6) a1_0 l1_1 l1_2 t3 t4 t5 t6 t7 t8 t9 t10 t11 t12 t13 t14 t15))) else (policy_Storable.j2 kj35 t16 false a1_0 l1_1 l1_2 t3 t4 t5 t6 t7 t8 t9 t10 t11 t12 t13 t14 t15)) = some r := H
                have A58 := Aside0.mk A580
                clear A580
                by_cases c59 : t31 = true
                · subst c59
                  have H1 : ((policy_strict.f t3 t4 t5 t6 t7 t8 t9 t10 t11 t12 t13 t14 t15).bind fun t32 => (if t32 = true then (policy_Storable.j2 kj35 t16 false a1_0 l1_1 l1_2 t3 t4 t5 t6 t7 t8 t9 t10 t11 t12 t13 t14 t15) else (policy_Storable.j2 kj35 t16 (!t6) a1_0 l1_1 l1_2 t3 t4 t5 t6 t7 t8 t9 t10 t11 t12 t13 t14 t15))) = some r := by rw [if_pos rfl] at H; exact H
                  clear H
                  have H := H1
                  clear H1
                  replace H := Option.bind_eq_some_iff.mp H
                  obtain ⟨t32, A600, H⟩ := H
                  replace H : (if t32 = true then (policy_Storable.j2 kj35 t16 false a1_0 l1_1 l1_2 t3 t4 t5 t6 t7 t8 t9 t10 t11 t12 t13 t14 t15) else (policy_Storable.j2 kj35 t16 (!t6) a1_0 l1_1 l1_2 t3 t4 t5 t6 t7 t8 t9 t10 t11 t12 t13 t14 t15)) = some r := H
                  have A60 := Aside0.mk A600
                  clear A600
                  by_cases c61 : t32 = true
                  · subst c61
                    have H1 : (policy_Storable.j2 kj35 t16 false a1_0 l1_1 l1_2 t3 t4 t5 t6 t7 t8 t9 t10 t11 t12 t13 t14 t15) = some r := by rw [if_pos rfl] at H; exact H
                    clear H
                    have H := H1
                    clear H1
                    have H' := Aside0.mk H
                    clear H
                    have hnb62 := NB1_2.out
                    have hnc62 := NB2_1.out
                    have hnb63 := NB1_17.out
                    have hnc63 := NB17_1.out
                    have hcz64_0 : wc.cell? ⟨gb1, 0, none⟩ = some (.string a0_0) := (blk_cell BK1.out 0).trans rfl
                    have hcz64_1 : wc.cell? ⟨gb1, 1, none⟩ = some (.string a0_1) := (blk_cell BK1.out 1).trans rfl
                    have hcz64_2 : wc.cell? ⟨gb1, 2, none⟩ = some (.slice A0_2 l0_2.length c0_2) := (blk_cell BK1.out 2).trans rfl
                    have hcz64_3 : wc.cell? ⟨gb1, 3, none⟩ = some (.slice A0_3 l0_3.length c0_3) := (blk_cell BK1.out 3).trans rfl
                    have hfz64_0 := blk_frozen BK1.out 0
                    have hfz64_1 := blk_frozen BK1.out 1
                    have hfz64_2 := blk_frozen BK1.out 2
                    have hfz64_3 := blk_frozen BK1.out 3
                    go_wp2_with (first | ((with_reducible refine gate_callee (f := 23) rfl ?_); refine goesL_ (some 48) rfl rfl Tryz.func23 (by kernel_rfl) rfl #[.slice A0_2 l0_2.length c0_2, .string (⟨#[97, 117, 116, 104, 111, 114, 105, 122, 97, 116, 105, 111, 110]⟩ : ByteArray)] rfl (by (try simp only [List.map_toArray, List.map_cons, List.map_nil]); first | done | rfl | (simp only [List.length_drop, List.length_take]; rfl)) ?_; (with_reducible refine (policy_has.calls _ _ l0_2 (⟨#[97, 117, 116, 104, 111, 114, 105, 122, 97, 116, 105, 111, 110]⟩ : ByteArray) true _ ?side1 ?side2 A58.out).mono ?_); (case side1 => repeat (first | exact (Kd.C_below HR0_2.out HB.out) | (with_reducible refine Kd.C_alloc ?_ _) | (with_reducible refine Kd.C_drewN ?_ _) | (with_reducible refine Kd.C_drew ?_))); (case side2 => exact HC0_2.out); rintro e w65 ⟨rfl, hb⟩; refine ⟨_, rfl, ?_⟩; have n0_ := Aside0.mk (blk_below (g := gb1) (o := .cells #[.string a0_0, .string a0_1, .slice A0_2 l0_2.length c0_2, .slice A0_3 l0_3.length c0_3] 25 (0, 0)) (by (with_reducible repeat (first | refine blk_drewN ?_ _ | refine blk_drew ?_ | refine blk_alloc ?_ _)); exact BK1.out) hb); have n1_ := Aside0.mk (blk_below (g := gb2) (o := .cells #[.int .i64 a1_0, .slice A1_1 l1_1.length c1_1, .slice A1_2 l1_2.length c1_2] 27 (0, 0)) (by (with_reducible repeat (first | refine blk_drewN ?_ _ | refine blk_drew ?_ | refine blk_alloc ?_ _)); exact BK2.out) hb); have n2_ := Aside0.mk (blk_below (g := gb17) (o := .cells #[.bool t3, .bool t4, .bool t5, .bool t6, .bool t7, .bool t8, .bool t9, .bool t10, .int .i64 t11, .int .i64 t12, .int .i64 t13, .int .i64 t14, .int .i64 t15] 34 (0, 0)) (by (with_reducible repeat (first | refine blk_drewN ?_ _ | refine blk_drew ?_ | refine blk_alloc ?_ _)); exact BK17.out) hb); have n3_ := Aside0.mk (below_step (by repeat (first | (with_reducible first | exact HB.out | apply below_alloc | apply pw_below_drewN | apply below_drew1 | refine below_set ?_ GE1.out | refine below_set ?_ GE2.out | refine below_set ?_ GE17.out) | exact HB.out)) hb); clear BK1; clear BK2; clear BK17; clear HB; have BK1 := n0_; have BK2 := n1_; have BK17 := n2_; have HB := n3_; clear n0_ n1_ n2_ n3_; (try clear hb); (try clear hb2); (try clear hk); (try clear hi); have hnb66 := NB17_2.out; have hnc66 := NB2_17.out; have hcz67_0 : w65.cell? ⟨gb17, 0, none⟩ = some (.bool t3) := (blk_cell BK17.out 0).trans rfl; have hcz67_1 : w65.cell? ⟨gb17, 1, none⟩ = some (.bool t4) := (blk_cell BK17.out 1).trans rfl; have hcz67_2 : w65.cell? ⟨gb17, 2, none⟩ = some (.bool t5) := (blk_cell BK17.out 2).trans rfl; have hcz67_3 : w65.cell? ⟨gb17, 3, none⟩ = some (.bool t6) := (blk_cell BK17.out 3).trans rfl; have hcz67_4 : w65.cell? ⟨gb17, 4, none⟩ = some (.bool t7) := (blk_cell BK17.out 4).trans rfl; have hcz67_5 : w65.cell? ⟨gb17, 5, none⟩ = some (.bool t8) := (blk_cell BK17.out 5).trans rfl; have hcz67_6 : w65.cell? ⟨gb17, 6, none⟩ = some (.bool t9) := (blk_cell BK17.out 6).trans rfl; have hcz67_7 : w65.cell? ⟨gb17, 7, none⟩ = some (.bool t10) := (blk_cell BK17.out 7).trans rfl; have hcz67_8 : w65.cell? ⟨gb17, 8, none⟩ = some (.int .i64 t11) := (blk_cell BK17.out 8).trans rfl; have hcz67_9 : w65.cell? ⟨gb17, 9, none⟩ = some (.int .i64 t12) := (blk_cell BK17.out 9).trans rfl; have hcz67_10 : w65.cell? ⟨gb17, 10, none⟩ = some (.int .i64 t13) := (blk_cell BK17.out 10).trans rfl; have hcz67_11 : w65.cell? ⟨gb17, 11, none⟩ = some (.int .i64 t14) := (blk_cell BK17.out 11).trans rfl; have hcz67_12 : w65.cell? ⟨gb17, 12, none⟩ = some (.int .i64 t15) := (blk_cell BK17.out 12).trans rfl; have hfz67_0 := blk_frozen BK17.out 0; have hfz67_1 := blk_frozen BK17.out 1; have hfz67_2 := blk_frozen BK17.out 2; have hfz67_3 := blk_frozen BK17.out 3; have hfz67_4 := blk_frozen BK17.out 4; have hfz67_5 := blk_frozen BK17.out 5; have hfz67_6 := blk_frozen BK17.out 6; have hfz67_7 := blk_frozen BK17.out 7; have hfz67_8 := blk_frozen BK17.out 8; have hfz67_9 := blk_frozen BK17.out 9; have hfz67_10 := blk_frozen BK17.out 10; have hfz67_11 := blk_frozen BK17.out 11; have hfz67_12 := blk_frozen BK17.out 12) | (go_at_call 24; (with_reducible refine (policy_strict.calls t3 t4 t5 t6 t7 t8 t9 t10 t11 t12 t13 t14 t15 true _ A60.out).mono ?_); rintro e w68 ⟨rfl, hb⟩; have n0_ := Aside0.mk (blk_below (g := gb1) (o := .cells #[.string a0_0, .string a0_1, .slice A0_2 l0_2.length c0_2, .slice A0_3 l0_3.length c0_3] 25 (0, 0)) (by (with_reducible repeat (first | refine blk_drewN ?_ _ | refine blk_drew ?_ | refine blk_alloc ?_ _)); exact BK1.out) hb); have n1_ := Aside0.mk (blk_below (g := gb2) (o := .cells #[.int .i64 a1_0, .slice A1_1 l1_1.length c1_1, .slice A1_2 l1_2.length c1_2] 27 (0, 0)) (by (with_reducible repeat (first | refine blk_drewN ?_ _ | refine blk_drew ?_ | refine blk_alloc ?_ _)); exact BK2.out) hb); have n2_ := Aside0.mk (blk_below (g := gb17) (o := .cells #[.bool t3, .bool t4, .bool t5, .bool t6, .bool t7, .bool t8, .bool t9, .bool t10, .int .i64 t11, .int .i64 t12, .int .i64 t13, .int .i64 t14, .int .i64 t15] 34 (0, 0)) (by (with_reducible repeat (first | refine blk_drewN ?_ _ | refine blk_drew ?_ | refine blk_alloc ?_ _)); exact BK17.out) hb); have n3_ := Aside0.mk (below_step (by repeat (first | (with_reducible first | exact HB.out | apply below_alloc | apply pw_below_drewN | apply below_drew1 | refine below_set ?_ GE1.out | refine below_set ?_ GE2.out | refine below_set ?_ GE17.out) | exact HB.out)) hb); clear BK1; clear BK2; clear BK17; clear HB; have BK1 := n0_; have BK2 := n1_; have BK17 := n2_; have HB := n3_; clear n0_ n1_ n2_ n3_; (try clear hb); (try clear hb2); (try clear hk); (try clear hi)))
                    go_meet
                    case rel => exact ⟨_, (false), (by first | rfl | (simp; done) | (simp [*]; done)), H', ⟨by have := HJ3.out; have := HJ35.out; first | omega | exact Nat.le_refl _⟩, ⟨by (with_reducible repeat (first | refine blk_drewN ?_ _ | refine blk_drew ?_ | refine blk_alloc ?_ _)); exact BK1.out⟩, ⟨by (with_reducible repeat (first | refine blk_drewN ?_ _ | refine blk_drew ?_ | refine blk_alloc ?_ _)); exact BK2.out⟩, ⟨by (with_reducible repeat (first | refine blk_drewN ?_ _ | refine blk_drew ?_ | refine blk_alloc ?_ _)); exact BK17.out⟩, ⟨by repeat (first | (with_reducible first | exact HB.out | apply below_alloc | apply pw_below_drewN | apply below_drew1 | refine below_set ?_ GE1.out | refine below_set ?_ GE2.out | refine below_set ?_ GE17.out) | exact HB.out)⟩⟩
                  · replace c61 := Bool.eq_false_iff.mpr c61
                    subst c61
                    have H1 : (policy_Storable.j2 kj35 t16 (!t6) a1_0 l1_1 l1_2 t3 t4 t5 t6 t7 t8 t9 t10 t11 t12 t13 t14 t15) = some r := by rw [if_neg (show ¬ (false = true) by decide)] at H; exact H
                    clear H
                    have H := H1
                    clear H1
                    have H' := Aside0.mk H
                    clear H
                    have hnb69 := NB1_2.out
                    have hnc69 := NB2_1.out
                    have hnb70 := NB1_17.out
                    have hnc70 := NB17_1.out
                    have hcz71_0 : wc.cell? ⟨gb1, 0, none⟩ = some (.string a0_0) := (blk_cell BK1.out 0).trans rfl
                    have hcz71_1 : wc.cell? ⟨gb1, 1, none⟩ = some (.string a0_1) := (blk_cell BK1.out 1).trans rfl
                    have hcz71_2 : wc.cell? ⟨gb1, 2, none⟩ = some (.slice A0_2 l0_2.length c0_2) := (blk_cell BK1.out 2).trans rfl
                    have hcz71_3 : wc.cell? ⟨gb1, 3, none⟩ = some (.slice A0_3 l0_3.length c0_3) := (blk_cell BK1.out 3).trans rfl
                    have hfz71_0 := blk_frozen BK1.out 0
                    have hfz71_1 := blk_frozen BK1.out 1
                    have hfz71_2 := blk_frozen BK1.out 2
                    have hfz71_3 := blk_frozen BK1.out 3
                    go_wp2_with (first | ((with_reducible refine gate_callee (f := 23) rfl ?_); refine goesL_ (some 48) rfl rfl Tryz.func23 (by kernel_rfl) rfl #[.slice A0_2 l0_2.length c0_2, .string (⟨#[97, 117, 116, 104, 111, 114, 105, 122, 97, 116, 105, 111, 110]⟩ : ByteArray)] rfl (by (try simp only [List.map_toArray, List.map_cons, List.map_nil]); first | done | rfl | (simp only [List.length_drop, List.length_take]; rfl)) ?_; (with_reducible refine (policy_has.calls _ _ l0_2 (⟨#[97, 117, 116, 104, 111, 114, 105, 122, 97, 116, 105, 111, 110]⟩ : ByteArray) true _ ?side1 ?side2 A58.out).mono ?_); (case side1 => repeat (first | exact (Kd.C_below HR0_2.out HB.out) | (with_reducible refine Kd.C_alloc ?_ _) | (with_reducible refine Kd.C_drewN ?_ _) | (with_reducible refine Kd.C_drew ?_))); (case side2 => exact HC0_2.out); rintro e w72 ⟨rfl, hb⟩; refine ⟨_, rfl, ?_⟩; have n0_ := Aside0.mk (blk_below (g := gb1) (o := .cells #[.string a0_0, .string a0_1, .slice A0_2 l0_2.length c0_2, .slice A0_3 l0_3.length c0_3] 25 (0, 0)) (by (with_reducible repeat (first | refine blk_drewN ?_ _ | refine blk_drew ?_ | refine blk_alloc ?_ _)); exact BK1.out) hb); have n1_ := Aside0.mk (blk_below (g := gb2) (o := .cells #[.int .i64 a1_0, .slice A1_1 l1_1.length c1_1, .slice A1_2 l1_2.length c1_2] 27 (0, 0)) (by (with_reducible repeat (first | refine blk_drewN ?_ _ | refine blk_drew ?_ | refine blk_alloc ?_ _)); exact BK2.out) hb); have n2_ := Aside0.mk (blk_below (g := gb17) (o := .cells #[.bool t3, .bool t4, .bool t5, .bool t6, .bool t7, .bool t8, .bool t9, .bool t10, .int .i64 t11, .int .i64 t12, .int .i64 t13, .int .i64 t14, .int .i64 t15] 34 (0, 0)) (by (with_reducible repeat (first | refine blk_drewN ?_ _ | refine blk_drew ?_ | refine blk_alloc ?_ _)); exact BK17.out) hb); have n3_ := Aside0.mk (below_step (by repeat (first | (with_reducible first | exact HB.out | apply below_alloc | apply pw_below_drewN | apply below_drew1 | refine below_set ?_ GE1.out | refine below_set ?_ GE2.out | refine below_set ?_ GE17.out) | exact HB.out)) hb); clear BK1; clear BK2; clear BK17; clear HB; have BK1 := n0_; have BK2 := n1_; have BK17 := n2_; have HB := n3_; clear n0_ n1_ n2_ n3_; (try clear hb); (try clear hb2); (try clear hk); (try clear hi); have hnb73 := NB17_2.out; have hnc73 := NB2_17.out; have hcz74_0 : w72.cell? ⟨gb17, 0, none⟩ = some (.bool t3) := (blk_cell BK17.out 0).trans rfl; have hcz74_1 : w72.cell? ⟨gb17, 1, none⟩ = some (.bool t4) := (blk_cell BK17.out 1).trans rfl; have hcz74_2 : w72.cell? ⟨gb17, 2, none⟩ = some (.bool t5) := (blk_cell BK17.out 2).trans rfl; have hcz74_3 : w72.cell? ⟨gb17, 3, none⟩ = some (.bool t6) := (blk_cell BK17.out 3).trans rfl; have hcz74_4 : w72.cell? ⟨gb17, 4, none⟩ = some (.bool t7) := (blk_cell BK17.out 4).trans rfl; have hcz74_5 : w72.cell? ⟨gb17, 5, none⟩ = some (.bool t8) := (blk_cell BK17.out 5).trans rfl; have hcz74_6 : w72.cell? ⟨gb17, 6, none⟩ = some (.bool t9) := (blk_cell BK17.out 6).trans rfl; have hcz74_7 : w72.cell? ⟨gb17, 7, none⟩ = some (.bool t10) := (blk_cell BK17.out 7).trans rfl; have hcz74_8 : w72.cell? ⟨gb17, 8, none⟩ = some (.int .i64 t11) := (blk_cell BK17.out 8).trans rfl; have hcz74_9 : w72.cell? ⟨gb17, 9, none⟩ = some (.int .i64 t12) := (blk_cell BK17.out 9).trans rfl; have hcz74_10 : w72.cell? ⟨gb17, 10, none⟩ = some (.int .i64 t13) := (blk_cell BK17.out 10).trans rfl; have hcz74_11 : w72.cell? ⟨gb17, 11, none⟩ = some (.int .i64 t14) := (blk_cell BK17.out 11).trans rfl; have hcz74_12 : w72.cell? ⟨gb17, 12, none⟩ = some (.int .i64 t15) := (blk_cell BK17.out 12).trans rfl; have hfz74_0 := blk_frozen BK17.out 0; have hfz74_1 := blk_frozen BK17.out 1; have hfz74_2 := blk_frozen BK17.out 2; have hfz74_3 := blk_frozen BK17.out 3; have hfz74_4 := blk_frozen BK17.out 4; have hfz74_5 := blk_frozen BK17.out 5; have hfz74_6 := blk_frozen BK17.out 6; have hfz74_7 := blk_frozen BK17.out 7; have hfz74_8 := blk_frozen BK17.out 8; have hfz74_9 := blk_frozen BK17.out 9; have hfz74_10 := blk_frozen BK17.out 10; have hfz74_11 := blk_frozen BK17.out 11; have hfz74_12 := blk_frozen BK17.out 12) | (go_at_call 24; (with_reducible refine (policy_strict.calls t3 t4 t5 t6 t7 t8 t9 t10 t11 t12 t13 t14 t15 false _ A60.out).mono ?_); rintro e w75 ⟨rfl, hb⟩; have n0_ := Aside0.mk (blk_below (g := gb1) (o := .cells #[.string a0_0, .string a0_1, .slice A0_2 l0_2.length c0_2, .slice A0_3 l0_3.length c0_3] 25 (0, 0)) (by (with_reducible repeat (first | refine blk_drewN ?_ _ | refine blk_drew ?_ | refine blk_alloc ?_ _)); exact BK1.out) hb); have n1_ := Aside0.mk (blk_below (g := gb2) (o := .cells #[.int .i64 a1_0, .slice A1_1 l1_1.length c1_1, .slice A1_2 l1_2.length c1_2] 27 (0, 0)) (by (with_reducible repeat (first | refine blk_drewN ?_ _ | refine blk_drew ?_ | refine blk_alloc ?_ _)); exact BK2.out) hb); have n2_ := Aside0.mk (blk_below (g := gb17) (o := .cells #[.bool t3, .bool t4, .bool t5, .bool t6, .bool t7, .bool t8, .bool t9, .bool t10, .int .i64 t11, .int .i64 t12, .int .i64 t13, .int .i64 t14, .int .i64 t15] 34 (0, 0)) (by (with_reducible repeat (first | refine blk_drewN ?_ _ | refine blk_drew ?_ | refine blk_alloc ?_ _)); exact BK17.out) hb); have n3_ := Aside0.mk (below_step (by repeat (first | (with_reducible first | exact HB.out | apply below_alloc | apply pw_below_drewN | apply below_drew1 | refine below_set ?_ GE1.out | refine below_set ?_ GE2.out | refine below_set ?_ GE17.out) | exact HB.out)) hb); clear BK1; clear BK2; clear BK17; clear HB; have BK1 := n0_; have BK2 := n1_; have BK17 := n2_; have HB := n3_; clear n0_ n1_ n2_ n3_; (try clear hb); (try clear hb2); (try clear hk); (try clear hi); have hcz76_0 : w75.cell? ⟨gb17, 0, none⟩ = some (.bool t3) := (blk_cell BK17.out 0).trans rfl; have hcz76_1 : w75.cell? ⟨gb17, 1, none⟩ = some (.bool t4) := (blk_cell BK17.out 1).trans rfl; have hcz76_2 : w75.cell? ⟨gb17, 2, none⟩ = some (.bool t5) := (blk_cell BK17.out 2).trans rfl; have hcz76_3 : w75.cell? ⟨gb17, 3, none⟩ = some (.bool t6) := (blk_cell BK17.out 3).trans rfl; have hcz76_4 : w75.cell? ⟨gb17, 4, none⟩ = some (.bool t7) := (blk_cell BK17.out 4).trans rfl; have hcz76_5 : w75.cell? ⟨gb17, 5, none⟩ = some (.bool t8) := (blk_cell BK17.out 5).trans rfl; have hcz76_6 : w75.cell? ⟨gb17, 6, none⟩ = some (.bool t9) := (blk_cell BK17.out 6).trans rfl; have hcz76_7 : w75.cell? ⟨gb17, 7, none⟩ = some (.bool t10) := (blk_cell BK17.out 7).trans rfl; have hcz76_8 : w75.cell? ⟨gb17, 8, none⟩ = some (.int .i64 t11) := (blk_cell BK17.out 8).trans rfl; have hcz76_9 : w75.cell? ⟨gb17, 9, none⟩ = some (.int .i64 t12) := (blk_cell BK17.out 9).trans rfl; have hcz76_10 : w75.cell? ⟨gb17, 10, none⟩ = some (.int .i64 t13) := (blk_cell BK17.out 10).trans rfl; have hcz76_11 : w75.cell? ⟨gb17, 11, none⟩ = some (.int .i64 t14) := (blk_cell BK17.out 11).trans rfl; have hcz76_12 : w75.cell? ⟨gb17, 12, none⟩ = some (.int .i64 t15) := (blk_cell BK17.out 12).trans rfl; have hfz76_0 := blk_frozen BK17.out 0; have hfz76_1 := blk_frozen BK17.out 1; have hfz76_2 := blk_frozen BK17.out 2; have hfz76_3 := blk_frozen BK17.out 3; have hfz76_4 := blk_frozen BK17.out 4; have hfz76_5 := blk_frozen BK17.out 5; have hfz76_6 := blk_frozen BK17.out 6; have hfz76_7 := blk_frozen BK17.out 7; have hfz76_8 := blk_frozen BK17.out 8; have hfz76_9 := blk_frozen BK17.out 9; have hfz76_10 := blk_frozen BK17.out 10; have hfz76_11 := blk_frozen BK17.out 11; have hfz76_12 := blk_frozen BK17.out 12))
                    go_meet
                    case rel => exact ⟨_, (!t6), (by first | rfl | (simp; done) | (simp [*]; done)), H', ⟨by have := HJ3.out; have := HJ35.out; first | omega | exact Nat.le_refl _⟩, ⟨by (with_reducible repeat (first | refine blk_drewN ?_ _ | refine blk_drew ?_ | refine blk_alloc ?_ _)); exact BK1.out⟩, ⟨by (with_reducible repeat (first | refine blk_drewN ?_ _ | refine blk_drew ?_ | refine blk_alloc ?_ _)); exact BK2.out⟩, ⟨by (with_reducible repeat (first | refine blk_drewN ?_ _ | refine blk_drew ?_ | refine blk_alloc ?_ _)); exact BK17.out⟩, ⟨by repeat (first | (with_reducible first | exact HB.out | apply below_alloc | apply pw_below_drewN | apply below_drew1 | refine below_set ?_ GE1.out | refine below_set ?_ GE2.out | refine below_set ?_ GE17.out) | exact HB.out)⟩⟩
                · replace c59 := Bool.eq_false_iff.mpr c59
                  subst c59
                  have H1 : (policy_Storable.j2 kj35 t16 false a1_0 l1_1 l1_2 t3 t4 t5 t6 t7 t8 t9 t10 t11 t12 t13 t14 t15) = some r := by rw [if_neg (show ¬ (false = true) by decide)] at H; exact H
                  clear H
                  have H := H1
                  clear H1
                  have H' := Aside0.mk H
                  clear H
                  have hnb77 := NB1_2.out
                  have hnc77 := NB2_1.out
                  have hnb78 := NB1_17.out
                  have hnc78 := NB17_1.out
                  have hcz79_0 : wc.cell? ⟨gb1, 0, none⟩ = some (.string a0_0) := (blk_cell BK1.out 0).trans rfl
                  have hcz79_1 : wc.cell? ⟨gb1, 1, none⟩ = some (.string a0_1) := (blk_cell BK1.out 1).trans rfl
                  have hcz79_2 : wc.cell? ⟨gb1, 2, none⟩ = some (.slice A0_2 l0_2.length c0_2) := (blk_cell BK1.out 2).trans rfl
                  have hcz79_3 : wc.cell? ⟨gb1, 3, none⟩ = some (.slice A0_3 l0_3.length c0_3) := (blk_cell BK1.out 3).trans rfl
                  have hfz79_0 := blk_frozen BK1.out 0
                  have hfz79_1 := blk_frozen BK1.out 1
                  have hfz79_2 := blk_frozen BK1.out 2
                  have hfz79_3 := blk_frozen BK1.out 3
                  go_wp2_with (first | ((with_reducible refine gate_callee (f := 23) rfl ?_); refine goesL_ (some 48) rfl rfl Tryz.func23 (by kernel_rfl) rfl #[.slice A0_2 l0_2.length c0_2, .string (⟨#[97, 117, 116, 104, 111, 114, 105, 122, 97, 116, 105, 111, 110]⟩ : ByteArray)] rfl (by (try simp only [List.map_toArray, List.map_cons, List.map_nil]); first | done | rfl | (simp only [List.length_drop, List.length_take]; rfl)) ?_; (with_reducible refine (policy_has.calls _ _ l0_2 (⟨#[97, 117, 116, 104, 111, 114, 105, 122, 97, 116, 105, 111, 110]⟩ : ByteArray) false _ ?side1 ?side2 A58.out).mono ?_); (case side1 => repeat (first | exact (Kd.C_below HR0_2.out HB.out) | (with_reducible refine Kd.C_alloc ?_ _) | (with_reducible refine Kd.C_drewN ?_ _) | (with_reducible refine Kd.C_drew ?_))); (case side2 => exact HC0_2.out); rintro e w80 ⟨rfl, hb⟩; refine ⟨_, rfl, ?_⟩; have n0_ := Aside0.mk (blk_below (g := gb1) (o := .cells #[.string a0_0, .string a0_1, .slice A0_2 l0_2.length c0_2, .slice A0_3 l0_3.length c0_3] 25 (0, 0)) (by (with_reducible repeat (first | refine blk_drewN ?_ _ | refine blk_drew ?_ | refine blk_alloc ?_ _)); exact BK1.out) hb); have n1_ := Aside0.mk (blk_below (g := gb2) (o := .cells #[.int .i64 a1_0, .slice A1_1 l1_1.length c1_1, .slice A1_2 l1_2.length c1_2] 27 (0, 0)) (by (with_reducible repeat (first | refine blk_drewN ?_ _ | refine blk_drew ?_ | refine blk_alloc ?_ _)); exact BK2.out) hb); have n2_ := Aside0.mk (blk_below (g := gb17) (o := .cells #[.bool t3, .bool t4, .bool t5, .bool t6, .bool t7, .bool t8, .bool t9, .bool t10, .int .i64 t11, .int .i64 t12, .int .i64 t13, .int .i64 t14, .int .i64 t15] 34 (0, 0)) (by (with_reducible repeat (first | refine blk_drewN ?_ _ | refine blk_drew ?_ | refine blk_alloc ?_ _)); exact BK17.out) hb); have n3_ := Aside0.mk (below_step (by repeat (first | (with_reducible first | exact HB.out | apply below_alloc | apply pw_below_drewN | apply below_drew1 | refine below_set ?_ GE1.out | refine below_set ?_ GE2.out | refine below_set ?_ GE17.out) | exact HB.out)) hb); clear BK1; clear BK2; clear BK17; clear HB; have BK1 := n0_; have BK2 := n1_; have BK17 := n2_; have HB := n3_; clear n0_ n1_ n2_ n3_; (try clear hb); (try clear hb2); (try clear hk); (try clear hi)))
                  go_meet
                  case rel => exact ⟨_, (false), (by first | rfl | (simp; done) | (simp [*]; done)), H', ⟨by have := HJ3.out; have := HJ35.out; first | omega | exact Nat.le_refl _⟩, ⟨by (with_reducible repeat (first | refine blk_drewN ?_ _ | refine blk_drew ?_ | refine blk_alloc ?_ _)); exact BK1.out⟩, ⟨by (with_reducible repeat (first | refine blk_drewN ?_ _ | refine blk_drew ?_ | refine blk_alloc ?_ _)); exact BK2.out⟩, ⟨by (with_reducible repeat (first | refine blk_drewN ?_ _ | refine blk_drew ?_ | refine blk_alloc ?_ _)); exact BK17.out⟩, ⟨by repeat (first | (with_reducible first | exact HB.out | apply below_alloc | apply pw_below_drewN | apply below_drew1 | refine below_set ?_ GE1.out | refine below_set ?_ GE2.out | refine below_set ?_ GE17.out) | exact HB.out)⟩⟩
              case rest =>
                clear HC57
                try clear c1
                try clear c2
                try clear p2
                try clear c3
                try clear c4
                try clear c5
                try clear c6
                try clear c7
                try clear c9
                try clear c11
                try clear c12
                try clear c14
                try clear c14b0
                try clear c14b1
                try clear c15
                try clear c15b0
                try clear c16
                try clear c17
                try clear c19
                try clear c21
                try clear c21b0
                try clear c21b1
                try clear c22
                try clear c23
                try clear c25
                try clear c27
                try clear c28
                try clear c30
                try clear c32
                try clear c33
                try clear c35
                try clear c38
                try clear c39
                try clear c40
                try clear c43
                try clear c44
                try clear c45
                try clear c48
                try clear c50
                try clear c51
                try clear c54
                try clear c56
                try clear c59
                try clear c61
                try clear c62
                try clear c63
                try clear c66
                try clear c69
                try clear c70
                try clear c73
                try clear c77
                try clear c78
                try clear hcz13_0
                try clear hcz13_1
                try clear hcz13_10
                try clear hcz13_11
                try clear hcz13_12
                try clear hcz13_2
                try clear hcz13_3
                try clear hcz13_4
                try clear hcz13_5
                try clear hcz13_6
                try clear hcz13_7
                try clear hcz13_8
                try clear hcz13_9
                try clear hcz18_0
                try clear hcz18_1
                try clear hcz18_2
                try clear hcz18_3
                try clear hcz20_0
                try clear hcz20_1
                try clear hcz20_2
                try clear hcz24_0
                try clear hcz24_1
                try clear hcz24_2
                try clear hcz24_3
                try clear hcz26_0
                try clear hcz26_1
                try clear hcz26_2
                try clear hcz29_0
                try clear hcz29_1
                try clear hcz29_2
                try clear hcz29_3
                try clear hcz31_0
                try clear hcz31_1
                try clear hcz31_2
                try clear hcz34_0
                try clear hcz34_1
                try clear hcz34_2
                try clear hcz34_3
                try clear hcz41_0
                try clear hcz41_1
                try clear hcz41_2
                try clear hcz41_3
                try clear hcz46_0
                try clear hcz46_1
                try clear hcz46_2
                try clear hcz46_3
                try clear hcz49_0
                try clear hcz49_1
                try clear hcz49_10
                try clear hcz49_11
                try clear hcz49_12
                try clear hcz49_2
                try clear hcz49_3
                try clear hcz49_4
                try clear hcz49_5
                try clear hcz49_6
                try clear hcz49_7
                try clear hcz49_8
                try clear hcz49_9
                try clear hcz52_0
                try clear hcz52_1
                try clear hcz52_2
                try clear hcz52_3
                try clear hcz55_0
                try clear hcz55_1
                try clear hcz55_10
                try clear hcz55_11
                try clear hcz55_12
                try clear hcz55_2
                try clear hcz55_3
                try clear hcz55_4
                try clear hcz55_5
                try clear hcz55_6
                try clear hcz55_7
                try clear hcz55_8
                try clear hcz55_9
                try clear hcz64_0
                try clear hcz64_1
                try clear hcz64_2
                try clear hcz64_3
                try clear hcz67_0
                try clear hcz67_1
                try clear hcz67_10
                try clear hcz67_11
                try clear hcz67_12
                try clear hcz67_2
                try clear hcz67_3
                try clear hcz67_4
                try clear hcz67_5
                try clear hcz67_6
                try clear hcz67_7
                try clear hcz67_8
                try clear hcz67_9
                try clear hcz71_0
                try clear hcz71_1
                try clear hcz71_2
                try clear hcz71_3
                try clear hcz74_0
                try clear hcz74_1
                try clear hcz74_10
                try clear hcz74_11
                try clear hcz74_12
                try clear hcz74_2
                try clear hcz74_3
                try clear hcz74_4
                try clear hcz74_5
                try clear hcz74_6
                try clear hcz74_7
                try clear hcz74_8
                try clear hcz74_9
                try clear hcz76_0
                try clear hcz76_1
                try clear hcz76_10
                try clear hcz76_11
                try clear hcz76_12
                try clear hcz76_2
                try clear hcz76_3
                try clear hcz76_4
                try clear hcz76_5
                try clear hcz76_6
                try clear hcz76_7
                try clear hcz76_8
                try clear hcz76_9
                try clear hcz79_0
                try clear hcz79_1
                try clear hcz79_2
                try clear hcz79_3
                try clear hcz8_0
                try clear hcz8_1
                try clear hcz8_2
                try clear hfz13_0
                try clear hfz13_1
                try clear hfz13_10
                try clear hfz13_11
                try clear hfz13_12
                try clear hfz13_2
                try clear hfz13_3
                try clear hfz13_4
                try clear hfz13_5
                try clear hfz13_6
                try clear hfz13_7
                try clear hfz13_8
                try clear hfz13_9
                try clear hfz18_0
                try clear hfz18_1
                try clear hfz18_2
                try clear hfz18_3
                try clear hfz20_0
                try clear hfz20_1
                try clear hfz20_2
                try clear hfz24_0
                try clear hfz24_1
                try clear hfz24_2
                try clear hfz24_3
                try clear hfz26_0
                try clear hfz26_1
                try clear hfz26_2
                try clear hfz29_0
                try clear hfz29_1
                try clear hfz29_2
                try clear hfz29_3
                try clear hfz31_0
                try clear hfz31_1
                try clear hfz31_2
                try clear hfz34_0
                try clear hfz34_1
                try clear hfz34_2
                try clear hfz34_3
                try clear hfz41_0
                try clear hfz41_1
                try clear hfz41_2
                try clear hfz41_3
                try clear hfz46_0
                try clear hfz46_1
                try clear hfz46_2
                try clear hfz46_3
                try clear hfz49_0
                try clear hfz49_1
                try clear hfz49_10
                try clear hfz49_11
                try clear hfz49_12
                try clear hfz49_2
                try clear hfz49_3
                try clear hfz49_4
                try clear hfz49_5
                try clear hfz49_6
                try clear hfz49_7
                try clear hfz49_8
                try clear hfz49_9
                try clear hfz52_0
                try clear hfz52_1
                try clear hfz52_2
                try clear hfz52_3
                try clear hfz55_0
                try clear hfz55_1
                try clear hfz55_10
                try clear hfz55_11
                try clear hfz55_12
                try clear hfz55_2
                try clear hfz55_3
                try clear hfz55_4
                try clear hfz55_5
                try clear hfz55_6
                try clear hfz55_7
                try clear hfz55_8
                try clear hfz55_9
                try clear hfz64_0
                try clear hfz64_1
                try clear hfz64_2
                try clear hfz64_3
                try clear hfz67_0
                try clear hfz67_1
                try clear hfz67_10
                try clear hfz67_11
                try clear hfz67_12
                try clear hfz67_2
                try clear hfz67_3
                try clear hfz67_4
                try clear hfz67_5
                try clear hfz67_6
                try clear hfz67_7
                try clear hfz67_8
                try clear hfz67_9
                try clear hfz71_0
                try clear hfz71_1
                try clear hfz71_2
                try clear hfz71_3
                try clear hfz74_0
                try clear hfz74_1
                try clear hfz74_10
                try clear hfz74_11
                try clear hfz74_12
                try clear hfz74_2
                try clear hfz74_3
                try clear hfz74_4
                try clear hfz74_5
                try clear hfz74_6
                try clear hfz74_7
                try clear hfz74_8
                try clear hfz74_9
                try clear hfz76_0
                try clear hfz76_1
                try clear hfz76_10
                try clear hfz76_11
                try clear hfz76_12
                try clear hfz76_2
                try clear hfz76_3
                try clear hfz76_4
                try clear hfz76_5
                try clear hfz76_6
                try clear hfz76_7
                try clear hfz76_8
                try clear hfz76_9
                try clear hfz79_0
                try clear hfz79_1
                try clear hfz79_2
                try clear hfz79_3
                try clear hfz8_0
                try clear hfz8_1
                try clear hfz8_2
                try clear p2
                obtain ⟨kq, x45_56, rfl, HA, HJ56, BK1, BK2, BK17, HB⟩ := hcut
                cases kq with
                | zero => exact absurd HA.out (by simp [policy_Storable.j2])
                | succ kj56 =>
                  have H := HA.out
                  clear HA
                  simp only [policy_Storable.j2] at H
                  by_cases c81 : x45_56 = true
                  · subst c81
                    have H1 : (some false) = some r := by rw [if_pos rfl] at H; exact H
                    clear H
                    have H := H1
                    clear H1
                    obtain rfl := Option.some.inj H
                    go_wp2
                    go_ret
                    exact ⟨by first | rfl | (simp [errW_none, errW_some] <;> rfl) | (simp [*, errW_none, errW_some] <;> rfl), by repeat (first | (with_reducible first | exact HB.out | apply below_alloc | apply pw_below_drewN | apply below_drew1 | refine below_set ?_ GE1.out | refine below_set ?_ GE2.out | refine below_set ?_ GE17.out) | exact HB.out)⟩
                  · replace c81 := Bool.eq_false_iff.mpr c81
                    subst c81
                    have H1 : (if t16 = 2 then (some true) else (if t6 = true then (some true) else (if (mx t11 t12) ≥ 0 then (some true) else ((policy_has.f l1_1 (⟨#[101, 120, 112, 105, 114, 101, 115]⟩ : ByteArray)).bind fun t33 => (if t33 = true then (some true) else ((policy_usual.f kj56 a1_0).bind fun t34 => (some t34))))))) = some r := by rw [if_neg (show ¬ (false = true) by decide)] at H; exact H
                    clear H
                    have H := H1
                    clear H1
                    by_cases c82 : t16 = 2
                    · rw [if_pos c82] at H
                      have c82b0 : (t16 == 2) = true := beq_iff_eq.mpr c82
                      have c82b1 : (t16 != 2) = false := bne_eq_false_iff_eq.mpr c82
                      clear c82
                      obtain rfl := Option.some.inj H
                      go_wp2
                      go_ret
                      exact ⟨by first | rfl | (simp [errW_none, errW_some] <;> rfl) | (simp [*, errW_none, errW_some] <;> rfl), by repeat (first | (with_reducible first | exact HB.out | apply below_alloc | apply pw_below_drewN | apply below_drew1 | refine below_set ?_ GE1.out | refine below_set ?_ GE2.out | refine below_set ?_ GE17.out) | exact HB.out)⟩
                    · rw [if_neg c82] at H
                      have c82b0 : (t16 == 2) = false := beq_eq_false_iff_ne.mpr c82
                      have c82b1 : (t16 != 2) = true := bne_iff_ne.mpr c82
                      by_cases c83 : t6 = true
                      · subst c83
                        have H1 : (some true) = some r := by rw [if_pos rfl] at H; exact H
                        clear H
                        have H := H1
                        clear H1
                        obtain rfl := Option.some.inj H
                        have hnb84 := NB17_1.out
                        have hnc84 := NB1_17.out
                        have hnb85 := NB17_2.out
                        have hnc85 := NB2_17.out
                        have hcz86_0 : wc.cell? ⟨gb17, 0, none⟩ = some (.bool t3) := (blk_cell BK17.out 0).trans rfl
                        have hcz86_1 : wc.cell? ⟨gb17, 1, none⟩ = some (.bool t4) := (blk_cell BK17.out 1).trans rfl
                        have hcz86_2 : wc.cell? ⟨gb17, 2, none⟩ = some (.bool t5) := (blk_cell BK17.out 2).trans rfl
                        have hcz86_3 : wc.cell? ⟨gb17, 3, none⟩ = some (.bool true) := (blk_cell BK17.out 3).trans rfl
                        have hcz86_4 : wc.cell? ⟨gb17, 4, none⟩ = some (.bool t7) := (blk_cell BK17.out 4).trans rfl
                        have hcz86_5 : wc.cell? ⟨gb17, 5, none⟩ = some (.bool t8) := (blk_cell BK17.out 5).trans rfl
                        have hcz86_6 : wc.cell? ⟨gb17, 6, none⟩ = some (.bool t9) := (blk_cell BK17.out 6).trans rfl
                        have hcz86_7 : wc.cell? ⟨gb17, 7, none⟩ = some (.bool t10) := (blk_cell BK17.out 7).trans rfl
                        have hcz86_8 : wc.cell? ⟨gb17, 8, none⟩ = some (.int .i64 t11) := (blk_cell BK17.out 8).trans rfl
                        have hcz86_9 : wc.cell? ⟨gb17, 9, none⟩ = some (.int .i64 t12) := (blk_cell BK17.out 9).trans rfl
                        have hcz86_10 : wc.cell? ⟨gb17, 10, none⟩ = some (.int .i64 t13) := (blk_cell BK17.out 10).trans rfl
                        have hcz86_11 : wc.cell? ⟨gb17, 11, none⟩ = some (.int .i64 t14) := (blk_cell BK17.out 11).trans rfl
                        have hcz86_12 : wc.cell? ⟨gb17, 12, none⟩ = some (.int .i64 t15) := (blk_cell BK17.out 12).trans rfl
                        have hfz86_0 := blk_frozen BK17.out 0
                        have hfz86_1 := blk_frozen BK17.out 1
                        have hfz86_2 := blk_frozen BK17.out 2
                        have hfz86_3 := blk_frozen BK17.out 3
                        have hfz86_4 := blk_frozen BK17.out 4
                        have hfz86_5 := blk_frozen BK17.out 5
                        have hfz86_6 := blk_frozen BK17.out 6
                        have hfz86_7 := blk_frozen BK17.out 7
                        have hfz86_8 := blk_frozen BK17.out 8
                        have hfz86_9 := blk_frozen BK17.out 9
                        have hfz86_10 := blk_frozen BK17.out 10
                        have hfz86_11 := blk_frozen BK17.out 11
                        have hfz86_12 := blk_frozen BK17.out 12
                        go_wp2
                        go_ret
                        exact ⟨by first | rfl | (simp [errW_none, errW_some] <;> rfl) | (simp [*, errW_none, errW_some] <;> rfl), by repeat (first | (with_reducible first | exact HB.out | apply below_alloc | apply pw_below_drewN | apply below_drew1 | refine below_set ?_ GE1.out | refine below_set ?_ GE2.out | refine below_set ?_ GE17.out) | exact HB.out)⟩
                      · replace c83 := Bool.eq_false_iff.mpr c83
                        subst c83
                        have H1 : (if (mx t11 t12) ≥ 0 then (some true) else ((policy_has.f l1_1 (⟨#[101, 120, 112, 105, 114, 101, 115]⟩ : ByteArray)).bind fun t33 => (if t33 = true then (some true) else ((policy_usual.f kj56 a1_0).bind fun t34 => (some t34))))) = some r := by rw [if_neg (show ¬ (false = true) by decide)] at H; exact H
                        clear H
                        have H := H1
                        clear H1
                        obtain ⟨ji87, hji87⟩ : ∃ j_ : Int, (mx t11 t12) = j_ := ⟨_, rfl⟩
                        replace H : (if (ji87) ≥ 0 then (some true) else ((policy_has.f l1_1 (⟨#[101, 120, 112, 105, 114, 101, 115]⟩ : ByteArray)).bind fun t33 => (if t33 = true then (some true) else ((policy_usual.f kj56 a1_0).bind fun t34 => (some t34))))) = some r := by first | (rw [hji87] at H; exact H) | (simp only [hji87] at H ⊢; exact H)
                        have hji87_ : (if t11 < t12 then t12 else t11) = ji87 := hji87
                        by_cases c88 : (ji87) ≥ 0
                        · rw [if_pos c88] at H
                          have c88b0 : decide (0 ≤ (ji87)) = true := decide_eq_true c88
                          clear c88
                          obtain rfl := Option.some.inj H
                          have hnb89 := NB17_1.out
                          have hnc89 := NB1_17.out
                          have hnb90 := NB17_2.out
                          have hnc90 := NB2_17.out
                          have hcz91_0 : wc.cell? ⟨gb17, 0, none⟩ = some (.bool t3) := (blk_cell BK17.out 0).trans rfl
                          have hcz91_1 : wc.cell? ⟨gb17, 1, none⟩ = some (.bool t4) := (blk_cell BK17.out 1).trans rfl
                          have hcz91_2 : wc.cell? ⟨gb17, 2, none⟩ = some (.bool t5) := (blk_cell BK17.out 2).trans rfl
                          have hcz91_3 : wc.cell? ⟨gb17, 3, none⟩ = some (.bool false) := (blk_cell BK17.out 3).trans rfl
                          have hcz91_4 : wc.cell? ⟨gb17, 4, none⟩ = some (.bool t7) := (blk_cell BK17.out 4).trans rfl
                          have hcz91_5 : wc.cell? ⟨gb17, 5, none⟩ = some (.bool t8) := (blk_cell BK17.out 5).trans rfl
                          have hcz91_6 : wc.cell? ⟨gb17, 6, none⟩ = some (.bool t9) := (blk_cell BK17.out 6).trans rfl
                          have hcz91_7 : wc.cell? ⟨gb17, 7, none⟩ = some (.bool t10) := (blk_cell BK17.out 7).trans rfl
                          have hcz91_8 : wc.cell? ⟨gb17, 8, none⟩ = some (.int .i64 t11) := (blk_cell BK17.out 8).trans rfl
                          have hcz91_9 : wc.cell? ⟨gb17, 9, none⟩ = some (.int .i64 t12) := (blk_cell BK17.out 9).trans rfl
                          have hcz91_10 : wc.cell? ⟨gb17, 10, none⟩ = some (.int .i64 t13) := (blk_cell BK17.out 10).trans rfl
                          have hcz91_11 : wc.cell? ⟨gb17, 11, none⟩ = some (.int .i64 t14) := (blk_cell BK17.out 11).trans rfl
                          have hcz91_12 : wc.cell? ⟨gb17, 12, none⟩ = some (.int .i64 t15) := (blk_cell BK17.out 12).trans rfl
                          have hfz91_0 := blk_frozen BK17.out 0
                          have hfz91_1 := blk_frozen BK17.out 1
                          have hfz91_2 := blk_frozen BK17.out 2
                          have hfz91_3 := blk_frozen BK17.out 3
                          have hfz91_4 := blk_frozen BK17.out 4
                          have hfz91_5 := blk_frozen BK17.out 5
                          have hfz91_6 := blk_frozen BK17.out 6
                          have hfz91_7 := blk_frozen BK17.out 7
                          have hfz91_8 := blk_frozen BK17.out 8
                          have hfz91_9 := blk_frozen BK17.out 9
                          have hfz91_10 := blk_frozen BK17.out 10
                          have hfz91_11 := blk_frozen BK17.out 11
                          have hfz91_12 := blk_frozen BK17.out 12
                          go_wp2
                          go_ret
                          exact ⟨by first | rfl | (simp [errW_none, errW_some] <;> rfl) | (simp only [← hji87]; first | rfl | (simp [errW_none, errW_some] <;> rfl)) | (simp [*, errW_none, errW_some] <;> rfl), by repeat (first | (with_reducible first | exact HB.out | apply below_alloc | apply pw_below_drewN | apply below_drew1 | refine below_set ?_ GE1.out | refine below_set ?_ GE2.out | refine below_set ?_ GE17.out) | exact HB.out)⟩
                        · rw [if_neg c88] at H
                          have c88b0 : decide (0 ≤ (ji87)) = false := decide_eq_false c88
                          clear c88
                          replace H := Option.bind_eq_some_iff.mp H
                          obtain ⟨t33, A920, H⟩ := H
                          replace H : (if t33 = true then (some true) else ((policy_usual.f kj56 a1_0).bind fun t34 => (some t34))) = some r := H
                          have A92 := Aside0.mk A920
                          clear A920
                          by_cases c93 : t33 = true
                          · subst c93
                            have H1 : (some true) = some r := by rw [if_pos rfl] at H; exact H
                            clear H
                            have H := H1
                            clear H1
                            obtain rfl := Option.some.inj H
                            have hnb94 := NB17_1.out
                            have hnc94 := NB1_17.out
                            have hnb95 := NB17_2.out
                            have hnc95 := NB2_17.out
                            have hcz96_0 : wc.cell? ⟨gb17, 0, none⟩ = some (.bool t3) := (blk_cell BK17.out 0).trans rfl
                            have hcz96_1 : wc.cell? ⟨gb17, 1, none⟩ = some (.bool t4) := (blk_cell BK17.out 1).trans rfl
                            have hcz96_2 : wc.cell? ⟨gb17, 2, none⟩ = some (.bool t5) := (blk_cell BK17.out 2).trans rfl
                            have hcz96_3 : wc.cell? ⟨gb17, 3, none⟩ = some (.bool false) := (blk_cell BK17.out 3).trans rfl
                            have hcz96_4 : wc.cell? ⟨gb17, 4, none⟩ = some (.bool t7) := (blk_cell BK17.out 4).trans rfl
                            have hcz96_5 : wc.cell? ⟨gb17, 5, none⟩ = some (.bool t8) := (blk_cell BK17.out 5).trans rfl
                            have hcz96_6 : wc.cell? ⟨gb17, 6, none⟩ = some (.bool t9) := (blk_cell BK17.out 6).trans rfl
                            have hcz96_7 : wc.cell? ⟨gb17, 7, none⟩ = some (.bool t10) := (blk_cell BK17.out 7).trans rfl
                            have hcz96_8 : wc.cell? ⟨gb17, 8, none⟩ = some (.int .i64 t11) := (blk_cell BK17.out 8).trans rfl
                            have hcz96_9 : wc.cell? ⟨gb17, 9, none⟩ = some (.int .i64 t12) := (blk_cell BK17.out 9).trans rfl
                            have hcz96_10 : wc.cell? ⟨gb17, 10, none⟩ = some (.int .i64 t13) := (blk_cell BK17.out 10).trans rfl
                            have hcz96_11 : wc.cell? ⟨gb17, 11, none⟩ = some (.int .i64 t14) := (blk_cell BK17.out 11).trans rfl
                            have hcz96_12 : wc.cell? ⟨gb17, 12, none⟩ = some (.int .i64 t15) := (blk_cell BK17.out 12).trans rfl
                            have hfz96_0 := blk_frozen BK17.out 0
                            have hfz96_1 := blk_frozen BK17.out 1
                            have hfz96_2 := blk_frozen BK17.out 2
                            have hfz96_3 := blk_frozen BK17.out 3
                            have hfz96_4 := blk_frozen BK17.out 4
                            have hfz96_5 := blk_frozen BK17.out 5
                            have hfz96_6 := blk_frozen BK17.out 6
                            have hfz96_7 := blk_frozen BK17.out 7
                            have hfz96_8 := blk_frozen BK17.out 8
                            have hfz96_9 := blk_frozen BK17.out 9
                            have hfz96_10 := blk_frozen BK17.out 10
                            have hfz96_11 := blk_frozen BK17.out 11
                            have hfz96_12 := blk_frozen BK17.out 12
                            have hnb97 := NB2_1.out
                            have hnc97 := NB1_2.out
                            have hcz98_0 : wc.cell? ⟨gb2, 0, none⟩ = some (.int .i64 a1_0) := (blk_cell BK2.out 0).trans rfl
                            have hcz98_1 : wc.cell? ⟨gb2, 1, none⟩ = some (.slice A1_1 l1_1.length c1_1) := (blk_cell BK2.out 1).trans rfl
                            have hcz98_2 : wc.cell? ⟨gb2, 2, none⟩ = some (.slice A1_2 l1_2.length c1_2) := (blk_cell BK2.out 2).trans rfl
                            have hfz98_0 := blk_frozen BK2.out 0
                            have hfz98_1 := blk_frozen BK2.out 1
                            have hfz98_2 := blk_frozen BK2.out 2
                            go_wp2_with (first | (go_at_call 23; (with_reducible refine (policy_has.calls _ _ l1_1 (⟨#[101, 120, 112, 105, 114, 101, 115]⟩ : ByteArray) true _ ?side1 ?side2 A92.out).mono ?_); (case side1 => repeat (first | exact (Kd.C_below HR1_1.out HB.out) | (with_reducible refine Kd.C_alloc ?_ _) | (with_reducible refine Kd.C_drewN ?_ _) | (with_reducible refine Kd.C_drew ?_))); (case side2 => exact HC1_1.out); rintro e w99 ⟨rfl, hb⟩; have n0_ := Aside0.mk (blk_below (g := gb1) (o := .cells #[.string a0_0, .string a0_1, .slice A0_2 l0_2.length c0_2, .slice A0_3 l0_3.length c0_3] 25 (0, 0)) (by (with_reducible repeat (first | refine blk_drewN ?_ _ | refine blk_drew ?_ | refine blk_alloc ?_ _)); exact BK1.out) hb); have n1_ := Aside0.mk (blk_below (g := gb2) (o := .cells #[.int .i64 a1_0, .slice A1_1 l1_1.length c1_1, .slice A1_2 l1_2.length c1_2] 27 (0, 0)) (by (with_reducible repeat (first | refine blk_drewN ?_ _ | refine blk_drew ?_ | refine blk_alloc ?_ _)); exact BK2.out) hb); have n2_ := Aside0.mk (blk_below (g := gb17) (o := .cells #[.bool t3, .bool t4, .bool t5, .bool false, .bool t7, .bool t8, .bool t9, .bool t10, .int .i64 t11, .int .i64 t12, .int .i64 t13, .int .i64 t14, .int .i64 t15] 34 (0, 0)) (by (with_reducible repeat (first | refine blk_drewN ?_ _ | refine blk_drew ?_ | refine blk_alloc ?_ _)); exact BK17.out) hb); have n3_ := Aside0.mk (below_step (by repeat (first | (with_reducible first | exact HB.out | apply below_alloc | apply pw_below_drewN | apply below_drew1 | refine below_set ?_ GE1.out | refine below_set ?_ GE2.out | refine below_set ?_ GE17.out) | exact HB.out)) hb); clear BK1; clear BK2; clear BK17; clear HB; have BK1 := n0_; have BK2 := n1_; have BK17 := n2_; have HB := n3_; clear n0_ n1_ n2_ n3_; (try clear hb); (try clear hb2); (try clear hk); (try clear hi)))
                            go_ret
                            exact ⟨by first | rfl | (simp [errW_none, errW_some] <;> rfl) | (simp only [← hji87]; first | rfl | (simp [errW_none, errW_some] <;> rfl)) | (simp [*, errW_none, errW_some] <;> rfl), by repeat (first | (with_reducible first | exact HB.out | apply below_alloc | apply pw_below_drewN | apply below_drew1 | refine below_set ?_ GE1.out | refine below_set ?_ GE2.out | refine below_set ?_ GE17.out) | exact HB.out)⟩
                          · replace c93 := Bool.eq_false_iff.mpr c93
                            subst c93
                            have H1 : ((policy_usual.f kj56 a1_0).bind fun t34 => (some t34)) = some r := by rw [if_neg (show ¬ (false = true) by decide)] at H; exact H
                            clear H
                            have H := H1
                            clear H1
                            replace H := Option.bind_eq_some_iff.mp H
                            obtain ⟨t34, A1000, H⟩ := H
                            replace H : (some t34) = some r := H
                            have A100 := Aside0.mk A1000
                            clear A1000
                            obtain rfl := Option.some.inj H
                            have hnb101 := NB17_1.out
                            have hnc101 := NB1_17.out
                            have hnb102 := NB17_2.out
                            have hnc102 := NB2_17.out
                            have hcz103_0 : wc.cell? ⟨gb17, 0, none⟩ = some (.bool t3) := (blk_cell BK17.out 0).trans rfl
                            have hcz103_1 : wc.cell? ⟨gb17, 1, none⟩ = some (.bool t4) := (blk_cell BK17.out 1).trans rfl
                            have hcz103_2 : wc.cell? ⟨gb17, 2, none⟩ = some (.bool t5) := (blk_cell BK17.out 2).trans rfl
                            have hcz103_3 : wc.cell? ⟨gb17, 3, none⟩ = some (.bool false) := (blk_cell BK17.out 3).trans rfl
                            have hcz103_4 : wc.cell? ⟨gb17, 4, none⟩ = some (.bool t7) := (blk_cell BK17.out 4).trans rfl
                            have hcz103_5 : wc.cell? ⟨gb17, 5, none⟩ = some (.bool t8) := (blk_cell BK17.out 5).trans rfl
                            have hcz103_6 : wc.cell? ⟨gb17, 6, none⟩ = some (.bool t9) := (blk_cell BK17.out 6).trans rfl
                            have hcz103_7 : wc.cell? ⟨gb17, 7, none⟩ = some (.bool t10) := (blk_cell BK17.out 7).trans rfl
                            have hcz103_8 : wc.cell? ⟨gb17, 8, none⟩ = some (.int .i64 t11) := (blk_cell BK17.out 8).trans rfl
                            have hcz103_9 : wc.cell? ⟨gb17, 9, none⟩ = some (.int .i64 t12) := (blk_cell BK17.out 9).trans rfl
                            have hcz103_10 : wc.cell? ⟨gb17, 10, none⟩ = some (.int .i64 t13) := (blk_cell BK17.out 10).trans rfl
                            have hcz103_11 : wc.cell? ⟨gb17, 11, none⟩ = some (.int .i64 t14) := (blk_cell BK17.out 11).trans rfl
                            have hcz103_12 : wc.cell? ⟨gb17, 12, none⟩ = some (.int .i64 t15) := (blk_cell BK17.out 12).trans rfl
                            have hfz103_0 := blk_frozen BK17.out 0
                            have hfz103_1 := blk_frozen BK17.out 1
                            have hfz103_2 := blk_frozen BK17.out 2
                            have hfz103_3 := blk_frozen BK17.out 3
                            have hfz103_4 := blk_frozen BK17.out 4
                            have hfz103_5 := blk_frozen BK17.out 5
                            have hfz103_6 := blk_frozen BK17.out 6
                            have hfz103_7 := blk_frozen BK17.out 7
                            have hfz103_8 := blk_frozen BK17.out 8
                            have hfz103_9 := blk_frozen BK17.out 9
                            have hfz103_10 := blk_frozen BK17.out 10
                            have hfz103_11 := blk_frozen BK17.out 11
                            have hfz103_12 := blk_frozen BK17.out 12
                            have hnb104 := NB2_1.out
                            have hnc104 := NB1_2.out
                            have hcz105_0 : wc.cell? ⟨gb2, 0, none⟩ = some (.int .i64 a1_0) := (blk_cell BK2.out 0).trans rfl
                            have hcz105_1 : wc.cell? ⟨gb2, 1, none⟩ = some (.slice A1_1 l1_1.length c1_1) := (blk_cell BK2.out 1).trans rfl
                            have hcz105_2 : wc.cell? ⟨gb2, 2, none⟩ = some (.slice A1_2 l1_2.length c1_2) := (blk_cell BK2.out 2).trans rfl
                            have hfz105_0 := blk_frozen BK2.out 0
                            have hfz105_1 := blk_frozen BK2.out 1
                            have hfz105_2 := blk_frozen BK2.out 2
                            go_wp2_with (first | (go_at_call 23; (with_reducible refine (policy_has.calls _ _ l1_1 (⟨#[101, 120, 112, 105, 114, 101, 115]⟩ : ByteArray) false _ ?side1 ?side2 A92.out).mono ?_); (case side1 => repeat (first | exact (Kd.C_below HR1_1.out HB.out) | (with_reducible refine Kd.C_alloc ?_ _) | (with_reducible refine Kd.C_drewN ?_ _) | (with_reducible refine Kd.C_drew ?_))); (case side2 => exact HC1_1.out); rintro e w106 ⟨rfl, hb⟩; have n0_ := Aside0.mk (blk_below (g := gb1) (o := .cells #[.string a0_0, .string a0_1, .slice A0_2 l0_2.length c0_2, .slice A0_3 l0_3.length c0_3] 25 (0, 0)) (by (with_reducible repeat (first | refine blk_drewN ?_ _ | refine blk_drew ?_ | refine blk_alloc ?_ _)); exact BK1.out) hb); have n1_ := Aside0.mk (blk_below (g := gb2) (o := .cells #[.int .i64 a1_0, .slice A1_1 l1_1.length c1_1, .slice A1_2 l1_2.length c1_2] 27 (0, 0)) (by (with_reducible repeat (first | refine blk_drewN ?_ _ | refine blk_drew ?_ | refine blk_alloc ?_ _)); exact BK2.out) hb); have n2_ := Aside0.mk (blk_below (g := gb17) (o := .cells #[.bool t3, .bool t4, .bool t5, .bool false, .bool t7, .bool t8, .bool t9, .bool t10, .int .i64 t11, .int .i64 t12, .int .i64 t13, .int .i64 t14, .int .i64 t15] 34 (0, 0)) (by (with_reducible repeat (first | refine blk_drewN ?_ _ | refine blk_drew ?_ | refine blk_alloc ?_ _)); exact BK17.out) hb); have n3_ := Aside0.mk (below_step (by repeat (first | (with_reducible first | exact HB.out | apply below_alloc | apply pw_below_drewN | apply below_drew1 | refine below_set ?_ GE1.out | refine below_set ?_ GE2.out | refine below_set ?_ GE17.out) | exact HB.out)) hb); clear BK1; clear BK2; clear BK17; clear HB; have BK1 := n0_; have BK2 := n1_; have BK17 := n2_; have HB := n3_; clear n0_ n1_ n2_ n3_; (try clear hb); (try clear hb2); (try clear hk); (try clear hi); have hcz107_0 : w106.cell? ⟨gb2, 0, none⟩ = some (.int .i64 a1_0) := (blk_cell BK2.out 0).trans rfl; have hcz107_1 : w106.cell? ⟨gb2, 1, none⟩ = some (.slice A1_1 l1_1.length c1_1) := (blk_cell BK2.out 1).trans rfl; have hcz107_2 : w106.cell? ⟨gb2, 2, none⟩ = some (.slice A1_2 l1_2.length c1_2) := (blk_cell BK2.out 2).trans rfl; have hfz107_0 := blk_frozen BK2.out 0; have hfz107_1 := blk_frozen BK2.out 1; have hfz107_2 := blk_frozen BK2.out 2) | (go_at_call 25; (with_reducible refine (policy_usual.calls kj56 a1_0 t34 _ A100.out).mono ?_); rintro e w108 ⟨rfl, hb⟩; have n0_ := Aside0.mk (blk_below (g := gb1) (o := .cells #[.string a0_0, .string a0_1, .slice A0_2 l0_2.length c0_2, .slice A0_3 l0_3.length c0_3] 25 (0, 0)) (by (with_reducible repeat (first | refine blk_drewN ?_ _ | refine blk_drew ?_ | refine blk_alloc ?_ _)); exact BK1.out) hb); have n1_ := Aside0.mk (blk_below (g := gb2) (o := .cells #[.int .i64 a1_0, .slice A1_1 l1_1.length c1_1, .slice A1_2 l1_2.length c1_2] 27 (0, 0)) (by (with_reducible repeat (first | refine blk_drewN ?_ _ | refine blk_drew ?_ | refine blk_alloc ?_ _)); exact BK2.out) hb); have n2_ := Aside0.mk (blk_below (g := gb17) (o := .cells #[.bool t3, .bool t4, .bool t5, .bool false, .bool t7, .bool t8, .bool t9, .bool t10, .int .i64 t11, .int .i64 t12, .int .i64 t13, .int .i64 t14, .int .i64 t15] 34 (0, 0)) (by (with_reducible repeat (first | refine blk_drewN ?_ _ | refine blk_drew ?_ | refine blk_alloc ?_ _)); exact BK17.out) hb); have n3_ := Aside0.mk (below_step (by repeat (first | (with_reducible first | exact HB.out | apply below_alloc | apply pw_below_drewN | apply below_drew1 | refine below_set ?_ GE1.out | refine below_set ?_ GE2.out | refine below_set ?_ GE17.out) | exact HB.out)) hb); clear BK1; clear BK2; clear BK17; clear HB; have BK1 := n0_; have BK2 := n1_; have BK17 := n2_; have HB := n3_; clear n0_ n1_ n2_ n3_; (try clear hb); (try clear hb2); (try clear hk); (try clear hi)))
                            go_ret
                            exact ⟨by first | rfl | (simp [errW_none, errW_some] <;> rfl) | (simp only [← hji87]; first | rfl | (simp [errW_none, errW_some] <;> rfl)) | (simp [*, errW_none, errW_some] <;> rfl), by repeat (first | (with_reducible first | exact HB.out | apply below_alloc | apply pw_below_drewN | apply below_drew1 | refine below_set ?_ GE1.out | refine below_set ?_ GE2.out | refine below_set ?_ GE17.out) | exact HB.out)⟩
end Go.Proofs.YtebfpnbnoinhbaaGreatDoor.Q
