/- scullerylaw14.PolicyJudges tells true of every age, lifetime and pair of rules. No condition. -/
import Derived.Test.YtebfpnbnoinhbaaGreatDoorProg
import Derived.Below
import Derived.Deep.Draws
import Derived.Deep.AppendLies
import Derived.Maps.AppendAt
import Derived.OwnWalk
import Derived.Laws.BytesArg
import Derived.Laws.MakeOwn
import Derived.Laws.OwnMore
import Derived.Deep.OwnRows
import Derived.Tactics
import Derived.Lib.ConvBytes
import Derived.Laws.Slices
import Derived.WalkKit
import Derived.KernelRfl
import Derived.RowKit3
import Derived.Deep.LoopGhost
import Derived.Deep.QuietTactic
import Derived.BigQuiet
import Derived.WideLaws
import Derived.Deep.DeepCutAuto
import Derived.Deep.CutBlock
import Derived.Deep.RegionHeld3
import Derived.Laws.Rows
import Derived.Lib.AppendStr
import Derived.ArgAppend
import Derived.Laws.IdiomCopy
import Derived.OrdersHeld
import Derived.Laws.BitsLemmas
import Derived.RowKit
import Derived.Laws.StructEq
import Derived.SizedLaws
import Derived.ChangeSlices
import Derived.Test.YtebfpnbnoinhbaaGreatDoorPj1
import Derived.Test.YtebfpnbnoinhbaaGreatDoorPj2
namespace Go.Proofs.YtebfpnbnoinhbaaGreatDoor.Q
open Go.RowKit Go.Proofs.YtebfpnbnoinhbaaGreatDoorW.PrintWords Go.Proofs.YtebfpnbnoinhbaaGreatDoorW.PrintLast Go.Proofs.YtebfpnbnoinhbaaGreatDoorW.PrintMore
attribute [local go_sem] max2_int max_two
set_option linter.unusedVariables false
set_option linter.unusedSimpArgs false
def errW : Option Int → Value
  | none => .nilIface
  | some c => .iface 0 (.int .i64 c)
theorem errW_none : errW none = .nilIface := rfl
theorem errW_some (c : Int) : errW (some c) = .iface 0 (.int .i64 c) := rfl
theorem info9 : (Tryz.prog.info? 9).map (fun i => (i.zero, i.size, i.bytes)) = some (some (.string ⟨#[]⟩), 1, 16) := by kernel_rfl
theorem info130 : (Tryz.prog.info? 130).map (fun i => (i.zero, i.size, i.bytes)) = some (some (.agg #[(.string ⟨#[]⟩), (.string ⟨#[]⟩), (.bool false)]), 3, 40) := by kernel_rfl
structure S51 where
  f0 : ByteArray
  f1 : ByteArray
def z51 : S51 := ⟨(⟨#[]⟩ : ByteArray), (⟨#[]⟩ : ByteArray)⟩
def k51 : Kd S51 := Kd.iso (Kd.pair Kd.string Kd.string) (fun x : S51 => (x.f0, x.f1))
theorem k51_open {w : World} {x : S51} {cs : List Value} (h : k51.K w x cs) : cs = [.string x.f0, .string x.f1] := by
  obtain ⟨_, _, rfl, rfl, rfl⟩ := h
  exact rfl
theorem k51_mkM (w : World) (base : Nat) (ok : Nat → Prop) (x : S51)  : k51.M w base ok x [.string x.f0, .string x.f1] := ⟨[.string x.f0], [.string x.f1], rfl, rfl, rfl⟩
def rd_T51 (xs : List S51) (i : Int) : S51 := xs.getD i.toNat z51
theorem at_T51 {w : World} {A : Option Addr} {n : Nat} {xs : List S51} (h : Kd.C k51 w A n xs) (i : Int) (h0 : 0 ≤ i) (h1 : i < n) : ∃ ad , A = some ad ∧ w.cell? (ad.add (i.toNat * 2)) = some (.string (rd_T51 xs i).f0) ∧ w.cell? ⟨(ad.add (i.toNat * 2)).block, (ad.add (i.toNat * 2)).off + 1, none⟩ = some (.string (rd_T51 xs i).f1) := by
  obtain ⟨ad, c, e, _, hK, hc0⟩ := Kd.C_get h z51 i h0 h1
  have hc : ∀ j u, c[j]? = some u → w.cell? (ad.add (i.toNat * 2 + j)) = some u := hc0
  obtain rfl := k51_open hK
  exact ⟨ad, e, hc 0 _ rfl, by rw [← add_field _ _ 1 (by omega)]; exact hc 1 _ rfl⟩
structure S130 where
  f0 : ByteArray
  f1 : ByteArray
  f2 : Bool
def z130 : S130 := ⟨(⟨#[]⟩ : ByteArray), (⟨#[]⟩ : ByteArray), false⟩
def k130 : Kd S130 := Kd.iso (Kd.pair Kd.string (Kd.pair Kd.string Kd.bool)) (fun x : S130 => (x.f0, x.f1, x.f2))
theorem k130_open {w : World} {x : S130} {cs : List Value} (h : k130.K w x cs) : cs = [.string x.f0, .string x.f1, .bool x.f2] := by
  obtain ⟨_, _, rfl, rfl, ⟨_, _, rfl, rfl, rfl⟩⟩ := h
  exact rfl
theorem k130_mkM (w : World) (base : Nat) (ok : Nat → Prop) (x : S130)  : k130.M w base ok x [.string x.f0, .string x.f1, .bool x.f2] := ⟨[.string x.f0], [.string x.f1, .bool x.f2], rfl, rfl, ⟨[.string x.f1], [.bool x.f2], rfl, rfl, rfl⟩⟩
def rd_T130 (xs : List S130) (i : Int) : S130 := xs.getD i.toNat z130
theorem at_T130 {w : World} {A : Option Addr} {n : Nat} {xs : List S130} (h : Kd.C k130 w A n xs) (i : Int) (h0 : 0 ≤ i) (h1 : i < n) : ∃ ad , A = some ad ∧ w.cell? (ad.add (i.toNat * 3)) = some (.string (rd_T130 xs i).f0) ∧ w.cell? ⟨(ad.add (i.toNat * 3)).block, (ad.add (i.toNat * 3)).off + 1, none⟩ = some (.string (rd_T130 xs i).f1) ∧ w.cell? ⟨(ad.add (i.toNat * 3)).block, (ad.add (i.toNat * 3)).off + 2, none⟩ = some (.bool (rd_T130 xs i).f2) := by
  obtain ⟨ad, c, e, _, hK, hc0⟩ := Kd.C_get h z130 i h0 h1
  have hc : ∀ j u, c[j]? = some u → w.cell? (ad.add (i.toNat * 3 + j)) = some u := hc0
  obtain rfl := k130_open hK
  exact ⟨ad, e, hc 0 _ rfl, by rw [← add_field _ _ 1 (by omega)]; exact hc 1 _ rfl, by rw [← add_field _ _ 2 (by omega)]; exact hc 2 _ rfl⟩
structure S86 where
  f0 : Int
  f1 : Int
  f2 : ByteArray
def z86 : S86 := ⟨(0 : Int), (0 : Int), (⟨#[]⟩ : ByteArray)⟩
structure S34 where
  f0 : Bool
  f1 : Bool
  f2 : Bool
  f3 : Bool
  f4 : Bool
  f5 : Bool
  f6 : Bool
  f7 : Bool
  f8 : Int
  f9 : Int
  f10 : Int
  f11 : Int
  f12 : Int
structure S239 where
  f0 : ByteArray
  f1 : S86
structure S89 where
  f0 : S86
  f1 : (List S239)
def z89 : S89 := ⟨z86, ([] : List S239)⟩
structure S92 where
  f0 : Bool
  f1 : S89
  f2 : (List S89)
  f3 : (List S239)
def z92 : S92 := ⟨false, z89, ([] : List S89), ([] : List S239)⟩
structure S119 where
  f0 : ByteArray
  f1 : S92
def z119 : S119 := ⟨(⟨#[]⟩ : ByteArray), z92⟩
end Go.Proofs.YtebfpnbnoinhbaaGreatDoor.Q
namespace Go.Proofs.YtebfpnbnoinhbaaGreatDoor.Q
open Go.RowKit Go.Proofs.YtebfpnbnoinhbaaGreatDoorW.PrintWords Go.Proofs.YtebfpnbnoinhbaaGreatDoorW.PrintLast Go.Proofs.YtebfpnbnoinhbaaGreatDoorW.PrintMore
attribute [local go_sem] max2_int max_two
set_option linter.unusedVariables false
set_option linter.unusedSimpArgs false
def ascii_digit.f (a0 : Int) : Option (Bool) := if a0 ≥ 48 then (some (decide (a0 ≤ 57))) else (some false)
set_option maxHeartbeats 8000000 in
set_option maxRecDepth 100000 in
theorem ascii_digit.calls (a0 : Int) (r : Bool) (w : World) (h : ascii_digit.f a0 = some r) :
    Calls Tryz.prog 151 #[.int .u8 a0] w fun e w' => e = .returned (.bool r) ∧ Drawn0 w w' := by
  have H : (if a0 ≥ 48 then (some (decide (a0 ≤ 57))) else (some false)) = some r := h
  clear h
  by_cases c2 : a0 ≥ 48
  · rw [if_pos c2] at H
    have c2b0 : decide (48 ≤ a0) = true := decide_eq_true c2
    clear c2
    obtain rfl := Option.some.inj H
    go_enter Tryz.func151, Tryz.ntmps151
    go_wp2
    go_ret
    exact ⟨by first | rfl | (simp; done) | (simp [*]; done), by repeat (first | exact Drawn0.refl _ | apply Drawn0.step)⟩
  · rw [if_neg c2] at H
    have c2b0 : decide (48 ≤ a0) = false := decide_eq_false c2
    clear c2
    obtain rfl := Option.some.inj H
    go_enter Tryz.func151, Tryz.ntmps151
    go_wp2
    go_ret
    exact ⟨by first | rfl | (simp; done) | (simp [*]; done), by repeat (first | exact Drawn0.refl _ | apply Drawn0.step)⟩
end Go.Proofs.YtebfpnbnoinhbaaGreatDoor.Q
namespace Go.Proofs.YtebfpnbnoinhbaaGreatDoor.Q
open Go.RowKit Go.Proofs.YtebfpnbnoinhbaaGreatDoorW.PrintWords Go.Proofs.YtebfpnbnoinhbaaGreatDoorW.PrintLast Go.Proofs.YtebfpnbnoinhbaaGreatDoorW.PrintMore
attribute [local go_sem] max2_int max_two
set_option linter.unusedVariables false
set_option linter.unusedSimpArgs false
def legacy_None.f  : Option (Bool × Bool × Bool × Bool × Bool × Bool × Bool × Bool × Int × Int × Int × Int × Int) := some (false, false, false, false, false, false, false, false, (-1), (-1), (-1), (-1), (-1))
set_option maxHeartbeats 8000000 in
set_option maxRecDepth 100000 in
theorem legacy_None.calls  (r1 : Bool) (r2 : Bool) (r3 : Bool) (r4 : Bool) (r5 : Bool) (r6 : Bool) (r7 : Bool) (r8 : Bool) (r9 : Int) (r10 : Int) (r11 : Int) (r12 : Int) (r13 : Int) (w : World) (h : legacy_None.f  = some (r1, r2, r3, r4, r5, r6, r7, r8, r9, r10, r11, r12, r13)) :
    Calls Tryz.prog 20 #[] w fun e w' => e = .returned (.agg #[.bool r1, .bool r2, .bool r3, .bool r4, .bool r5, .bool r6, .bool r7, .bool r8, .int .i64 r9, .int .i64 r10, .int .i64 r11, .int .i64 r12, .int .i64 r13]) ∧ Below w.heap.size w w' := by
  have hu34 := Tryz.underlying34
  have HB := Aside0.mk (Below.refl w.heap.size w)
  have H : (some (false, false, false, false, false, false, false, false, (-1), (-1), (-1), (-1), (-1))) = some (r1, r2, r3, r4, r5, r6, r7, r8, r9, r10, r11, r12, r13) := h
  clear h
  simp only [Option.some.injEq, Prod.mk.injEq] at H
  obtain ⟨rfl, rfl, rfl, rfl, rfl, rfl, rfl, rfl, rfl, rfl, rfl, rfl, rfl⟩ := H
  go_enter Tryz.func20, Tryz.ntmps20
  go_wp2_with (first | ((with_reducible refine gate_dst (N := 0) rfl ?_); refine box_event ?hg (N := 0) ?hd (cs := #[.bool false, .bool false, .bool false, .bool false, .bool false, .bool false, .bool false, .bool false, .int .i64 0, .int .i64 0, .int .i64 0, .int .i64 0, .int .i64 0]) (t := 34) ?hr ?_; (case hd => rfl); (case hg => rfl); (case hr => first | (go_simp; done) | (go_simp; rfl)); intro gb1 hg w1 hbox hb; have n0_ := Aside0.mk (below_step (by repeat (first | (with_reducible first | exact HB.out | apply below_alloc | apply pw_below_drewN | apply below_drew1) | exact HB.out)) hb); have n1_ := Aside0.mk (hbox); have n2_ := Aside0.mk ((by rw [hg]; exact (below_size (by repeat (first | (with_reducible first | exact HB.out | apply below_alloc | apply pw_below_drewN | apply below_drew1) | exact HB.out))) : w.heap.size ≤ gb1)); have n3_ := Aside0.mk ((by rw [hg]; exact (below_size (by repeat (first | (with_reducible first | exact HB.out | apply below_alloc | apply pw_below_drewN | apply below_drew1) | exact HB.out))) : w.heap.size ≤ gb1)); clear HB; have HB := n0_; have BK1 := n1_; have GW1 := n2_; have GE1 := n3_; clear n0_ n1_ n2_ n3_; clear hb hbox hg; have hcz2_0 : w1.cell? ⟨gb1, 0, none⟩ = some (.bool false) := (blk_cell BK1.out 0).trans rfl; have hcz2_1 : w1.cell? ⟨gb1, 1, none⟩ = some (.bool false) := (blk_cell BK1.out 1).trans rfl; have hcz2_2 : w1.cell? ⟨gb1, 2, none⟩ = some (.bool false) := (blk_cell BK1.out 2).trans rfl; have hcz2_3 : w1.cell? ⟨gb1, 3, none⟩ = some (.bool false) := (blk_cell BK1.out 3).trans rfl; have hcz2_4 : w1.cell? ⟨gb1, 4, none⟩ = some (.bool false) := (blk_cell BK1.out 4).trans rfl; have hcz2_5 : w1.cell? ⟨gb1, 5, none⟩ = some (.bool false) := (blk_cell BK1.out 5).trans rfl; have hcz2_6 : w1.cell? ⟨gb1, 6, none⟩ = some (.bool false) := (blk_cell BK1.out 6).trans rfl; have hcz2_7 : w1.cell? ⟨gb1, 7, none⟩ = some (.bool false) := (blk_cell BK1.out 7).trans rfl; have hcz2_8 : w1.cell? ⟨gb1, 8, none⟩ = some (.int .i64 0) := (blk_cell BK1.out 8).trans rfl; have hcz2_9 : w1.cell? ⟨gb1, 9, none⟩ = some (.int .i64 0) := (blk_cell BK1.out 9).trans rfl; have hcz2_10 : w1.cell? ⟨gb1, 10, none⟩ = some (.int .i64 0) := (blk_cell BK1.out 10).trans rfl; have hcz2_11 : w1.cell? ⟨gb1, 11, none⟩ = some (.int .i64 0) := (blk_cell BK1.out 11).trans rfl; have hcz2_12 : w1.cell? ⟨gb1, 12, none⟩ = some (.int .i64 0) := (blk_cell BK1.out 12).trans rfl; have hfz2_0 := blk_frozen BK1.out 0; have hfz2_1 := blk_frozen BK1.out 1; have hfz2_2 := blk_frozen BK1.out 2; have hfz2_3 := blk_frozen BK1.out 3; have hfz2_4 := blk_frozen BK1.out 4; have hfz2_5 := blk_frozen BK1.out 5; have hfz2_6 := blk_frozen BK1.out 6; have hfz2_7 := blk_frozen BK1.out 7; have hfz2_8 := blk_frozen BK1.out 8; have hfz2_9 := blk_frozen BK1.out 9; have hfz2_10 := blk_frozen BK1.out 10; have hfz2_11 := blk_frozen BK1.out 11; have hfz2_12 := blk_frozen BK1.out 12))
  refine bodyPost_ret (results_cell_row rfl _ _ gb1 34 #[.bool false, .bool false, .bool false, .bool false, .bool false, .bool false, .bool false, .bool false, .int .i64 (-1), .int .i64 (-1), .int .i64 (-1), .int .i64 (-1), .int .i64 (-1)] (0, 0) _ rfl (by (with_reducible repeat (first | refine blk_drewN ?_ _ | refine blk_drew ?_ | refine blk_alloc ?_ _)); refine blk_put (cs := #[.bool false, .bool false, .bool false, .bool false, .bool false, .bool false, .bool false, .bool false, .int .i64 (-1), .int .i64 (-1), .int .i64 (-1), .int .i64 (-1), .int .i64 0]) ?_ 12 _ rfl; (with_reducible repeat (first | refine blk_drewN ?_ _ | refine blk_drew ?_ | refine blk_alloc ?_ _)); refine blk_put (cs := #[.bool false, .bool false, .bool false, .bool false, .bool false, .bool false, .bool false, .bool false, .int .i64 (-1), .int .i64 (-1), .int .i64 (-1), .int .i64 0, .int .i64 0]) ?_ 11 _ rfl; (with_reducible repeat (first | refine blk_drewN ?_ _ | refine blk_drew ?_ | refine blk_alloc ?_ _)); refine blk_put (cs := #[.bool false, .bool false, .bool false, .bool false, .bool false, .bool false, .bool false, .bool false, .int .i64 (-1), .int .i64 (-1), .int .i64 0, .int .i64 0, .int .i64 0]) ?_ 10 _ rfl; (with_reducible repeat (first | refine blk_drewN ?_ _ | refine blk_drew ?_ | refine blk_alloc ?_ _)); refine blk_put (cs := #[.bool false, .bool false, .bool false, .bool false, .bool false, .bool false, .bool false, .bool false, .int .i64 (-1), .int .i64 0, .int .i64 0, .int .i64 0, .int .i64 0]) ?_ 9 _ rfl; (with_reducible repeat (first | refine blk_drewN ?_ _ | refine blk_drew ?_ | refine blk_alloc ?_ _)); refine blk_put (cs := #[.bool false, .bool false, .bool false, .bool false, .bool false, .bool false, .bool false, .bool false, .int .i64 0, .int .i64 0, .int .i64 0, .int .i64 0, .int .i64 0]) ?_ 8 _ rfl; (with_reducible repeat (first | refine blk_drewN ?_ _ | refine blk_drew ?_ | refine blk_alloc ?_ _)); refine blk_put (cs := #[.bool false, .bool false, .bool false, .bool false, .bool false, .bool false, .bool false, .bool false, .int .i64 0, .int .i64 0, .int .i64 0, .int .i64 0, .int .i64 0]) ?_ 7 _ rfl; (with_reducible repeat (first | refine blk_drewN ?_ _ | refine blk_drew ?_ | refine blk_alloc ?_ _)); refine blk_put (cs := #[.bool false, .bool false, .bool false, .bool false, .bool false, .bool false, .bool false, .bool false, .int .i64 0, .int .i64 0, .int .i64 0, .int .i64 0, .int .i64 0]) ?_ 6 _ rfl; (with_reducible repeat (first | refine blk_drewN ?_ _ | refine blk_drew ?_ | refine blk_alloc ?_ _)); refine blk_put (cs := #[.bool false, .bool false, .bool false, .bool false, .bool false, .bool false, .bool false, .bool false, .int .i64 0, .int .i64 0, .int .i64 0, .int .i64 0, .int .i64 0]) ?_ 5 _ rfl; (with_reducible repeat (first | refine blk_drewN ?_ _ | refine blk_drew ?_ | refine blk_alloc ?_ _)); refine blk_put (cs := #[.bool false, .bool false, .bool false, .bool false, .bool false, .bool false, .bool false, .bool false, .int .i64 0, .int .i64 0, .int .i64 0, .int .i64 0, .int .i64 0]) ?_ 4 _ rfl; (with_reducible repeat (first | refine blk_drewN ?_ _ | refine blk_drew ?_ | refine blk_alloc ?_ _)); refine blk_put (cs := #[.bool false, .bool false, .bool false, .bool false, .bool false, .bool false, .bool false, .bool false, .int .i64 0, .int .i64 0, .int .i64 0, .int .i64 0, .int .i64 0]) ?_ 3 _ rfl; (with_reducible repeat (first | refine blk_drewN ?_ _ | refine blk_drew ?_ | refine blk_alloc ?_ _)); refine blk_put (cs := #[.bool false, .bool false, .bool false, .bool false, .bool false, .bool false, .bool false, .bool false, .int .i64 0, .int .i64 0, .int .i64 0, .int .i64 0, .int .i64 0]) ?_ 2 _ rfl; (with_reducible repeat (first | refine blk_drewN ?_ _ | refine blk_drew ?_ | refine blk_alloc ?_ _)); refine blk_put (cs := #[.bool false, .bool false, .bool false, .bool false, .bool false, .bool false, .bool false, .bool false, .int .i64 0, .int .i64 0, .int .i64 0, .int .i64 0, .int .i64 0]) ?_ 1 _ rfl; (with_reducible repeat (first | refine blk_drewN ?_ _ | refine blk_drew ?_ | refine blk_alloc ?_ _)); refine blk_put (cs := #[.bool false, .bool false, .bool false, .bool false, .bool false, .bool false, .bool false, .bool false, .int .i64 0, .int .i64 0, .int .i64 0, .int .i64 0, .int .i64 0]) ?_ 0 _ rfl; (with_reducible repeat (first | refine blk_drewN ?_ _ | refine blk_drew ?_ | refine blk_alloc ?_ _)); exact BK1.out) Tryz.underlying34 rfl (by kernel_rfl)) rfl ?_
  exact ⟨by first | rfl | (simp [errW_none, errW_some] <;> rfl) | (simp [*, errW_none, errW_some] <;> rfl), by repeat (first | (with_reducible first | exact HB.out | apply below_alloc | apply pw_below_drewN | apply below_drew1 | refine below_set ?_ GE1.out) | exact HB.out)⟩
end Go.Proofs.YtebfpnbnoinhbaaGreatDoor.Q
namespace Go.Proofs.YtebfpnbnoinhbaaGreatDoor.Q
open Go.RowKit Go.Proofs.YtebfpnbnoinhbaaGreatDoorW.PrintWords Go.Proofs.YtebfpnbnoinhbaaGreatDoorW.PrintLast Go.Proofs.YtebfpnbnoinhbaaGreatDoorW.PrintMore
attribute [local go_sem] max2_int max_two
set_option linter.unusedVariables false
set_option linter.unusedSimpArgs false
def ascii_end.l0 : Nat → ByteArray → Int → Option (Int)
  | 0, _, _ => none
  | k + 1, x0, x5 => if x5 < (x0.size : Int) then (if 0 ≤ x5 then (if (bt x0 x5) = 92 then (ascii_end.l0 k x0 (wrap64 ((wrap64 (x5 + 1)) + 1))) else (if (bt x0 x5) = 34 then (some x5) else (ascii_end.l0 k x0 (wrap64 (x5 + 1))))) else (none)) else (some (x0.size : Int))
def ascii_end.f (k : Nat) (a0 : ByteArray) (a1 : Int) : Option (Int) := ascii_end.l0 k a0 (wrap64 (a1 + 1))
set_option maxHeartbeats 8000000 in
set_option maxRecDepth 100000 in
theorem ascii_end.calls (k : Nat) (a0 : ByteArray) (a1 : Int) (r : Int) (w : World) (h : ascii_end.f k a0 a1 = some r) :
    Calls Tryz.prog 117 #[.string a0, .int .i64 a1] w fun e w' => e = .returned (.int .i64 r) ∧ Drawn0 w w' := by
  have H : (ascii_end.l0 k a0 (wrap64 (a1 + 1))) = some r := h
  clear h
  have H' := Aside0.mk H
  clear H
  go_enter Tryz.func117, Tryz.ntmps117
  go_wp2
  go_loopg [5] k (fun kq v5 w' => ∃ (x5_1 : Int), v5 = .int .i64 x5_1 ∧ Aside0 (ascii_end.l0 kq a0 x5_1 = some r) ∧ Aside0 (kq ≤ k) ∧ Drawn0 w w')
  case atStart => exact ⟨(wrap64 (a1 + 1)), (by first | rfl | (simp; done) | (simp [*]; done)), H', ⟨Nat.le_refl _⟩, by repeat (first | exact Drawn0.refl _ | apply Drawn0.step)⟩
  case round =>
    clear H'
    try clear c1
    try clear p2
    obtain ⟨x5_1, rfl, HA, HK1, ⟨m1, rfl⟩⟩ := hrel
    cases gk with
    | zero => exact absurd HA.out (by simp [ascii_end.l0])
    | succ k1 =>
      have H := HA.out
      clear HA
      simp only [ascii_end.l0] at H
      by_cases c3 : x5_1 < (a0.size : Int)
      · rw [if_pos c3] at H
        have c3b0 : decide (x5_1 < (a0.size : Int)) = true := decide_eq_true c3
        clear c3
        by_cases c4 : 0 ≤ x5_1
        · rw [if_pos c4] at H
          have c4b0 : decide (0 ≤ x5_1) = true := decide_eq_true c4
          clear c4
          by_cases c6 : (bt a0 x5_1) = 92
          · rw [if_pos c6] at H
            have c6b0 : ((bt a0 x5_1) == 92) = true := beq_iff_eq.mpr c6
            have c6b1 : ((bt a0 x5_1) != 92) = false := bne_eq_false_iff_eq.mpr c6
            clear c6
            have H' := Aside0.mk H
            clear H
            have p5 : 0 ≤ (x5_1 : Int) := of_decide_eq_true (by first | (with_reducible assumption) | assumption)
            have q5 : x5_1 < (a0.size : Int) := of_decide_eq_true (by first | (with_reducible assumption) | assumption)
            have hx5 := bt_at a0 x5_1
            replace p5 := eq_true p5
            replace q5 := eq_true q5
            go_wp2
            go_roundg k1
            case measure => have := HK1.out; omega
            case rel => exact ⟨(wrap64 ((wrap64 (x5_1 + 1)) + 1)), (by first | rfl | (simp; done) | (simp [*]; done)), H', ⟨by have := HK1.out; omega⟩, by repeat (first | exact Drawn0.refl _ | apply Drawn0.step)⟩
          · rw [if_neg c6] at H
            have c6b0 : ((bt a0 x5_1) == 92) = false := beq_eq_false_iff_ne.mpr c6
            have c6b1 : ((bt a0 x5_1) != 92) = true := bne_iff_ne.mpr c6
            by_cases c7 : (bt a0 x5_1) = 34
            · rw [if_pos c7] at H
              have c7b0 : ((bt a0 x5_1) == 34) = true := beq_iff_eq.mpr c7
              have c7b1 : ((bt a0 x5_1) != 34) = false := bne_eq_false_iff_eq.mpr c7
              clear c7
              obtain rfl := Option.some.inj H
              have p5 : 0 ≤ (x5_1 : Int) := of_decide_eq_true (by first | (with_reducible assumption) | assumption)
              have q5 : x5_1 < (a0.size : Int) := of_decide_eq_true (by first | (with_reducible assumption) | assumption)
              have hx5 := bt_at a0 x5_1
              replace p5 := eq_true p5
              replace q5 := eq_true q5
              go_wp2
              go_ret
              exact ⟨by first | rfl | (simp; done) | (simp [*]; done), by repeat (first | exact Drawn0.refl _ | apply Drawn0.step)⟩
            · rw [if_neg c7] at H
              have c7b0 : ((bt a0 x5_1) == 34) = false := beq_eq_false_iff_ne.mpr c7
              have c7b1 : ((bt a0 x5_1) != 34) = true := bne_iff_ne.mpr c7
              have H' := Aside0.mk H
              clear H
              have p5 : 0 ≤ (x5_1 : Int) := of_decide_eq_true (by first | (with_reducible assumption) | assumption)
              have q5 : x5_1 < (a0.size : Int) := of_decide_eq_true (by first | (with_reducible assumption) | assumption)
              have hx5 := bt_at a0 x5_1
              replace p5 := eq_true p5
              replace q5 := eq_true q5
              go_wp2
              go_roundg k1
              case measure => have := HK1.out; omega
              case rel => exact ⟨(wrap64 (x5_1 + 1)), (by first | rfl | (simp; done) | (simp [*]; done)), H', ⟨by have := HK1.out; omega⟩, by repeat (first | exact Drawn0.refl _ | apply Drawn0.step)⟩
        · rw [if_neg c4] at H
          exact absurd H (by simp)
      · rw [if_neg c3] at H
        have c3b0 : decide (x5_1 < (a0.size : Int)) = false := decide_eq_false c3
        clear c3
        obtain rfl := Option.some.inj H
        go_wp2
        go_ret
        exact ⟨by first | rfl | (simp; done) | (simp [*]; done), by repeat (first | exact Drawn0.refl _ | apply Drawn0.step)⟩
end Go.Proofs.YtebfpnbnoinhbaaGreatDoor.Q
namespace Go.Proofs.YtebfpnbnoinhbaaGreatDoor.Q
open Go.RowKit Go.Proofs.YtebfpnbnoinhbaaGreatDoorW.PrintWords Go.Proofs.YtebfpnbnoinhbaaGreatDoorW.PrintLast Go.Proofs.YtebfpnbnoinhbaaGreatDoorW.PrintMore
attribute [local go_sem] max2_int max_two
set_option linter.unusedVariables false
set_option linter.unusedSimpArgs false
def ascii_letter.f (a0 : Int) : Option (Bool) := if (Go.bits .or .u8 a0 32) ≥ 97 then (some (decide ((Go.bits .or .u8 a0 32) ≤ 122))) else (some false)
set_option maxHeartbeats 8000000 in
set_option maxRecDepth 100000 in
theorem ascii_letter.calls (a0 : Int) (r : Bool) (w : World) (h : ascii_letter.f a0 = some r) :
    Calls Tryz.prog 156 #[.int .u8 a0] w fun e w' => e = .returned (.bool r) ∧ Drawn0 w w' := by
  have H : (if (Go.bits .or .u8 a0 32) ≥ 97 then (some (decide ((Go.bits .or .u8 a0 32) ≤ 122))) else (some false)) = some r := h
  clear h
  by_cases c2 : (Go.bits .or .u8 a0 32) ≥ 97
  · rw [if_pos c2] at H
    have c2b0 : decide (97 ≤ (Go.bits .or .u8 a0 32)) = true := decide_eq_true c2
    clear c2
    obtain rfl := Option.some.inj H
    go_enter Tryz.func156, Tryz.ntmps156
    go_wp2
    go_ret
    exact ⟨by first | rfl | (simp; done) | (simp [*]; done), by repeat (first | exact Drawn0.refl _ | apply Drawn0.step)⟩
  · rw [if_neg c2] at H
    have c2b0 : decide (97 ≤ (Go.bits .or .u8 a0 32)) = false := decide_eq_false c2
    clear c2
    obtain rfl := Option.some.inj H
    go_enter Tryz.func156, Tryz.ntmps156
    go_wp2
    go_ret
    exact ⟨by first | rfl | (simp; done) | (simp [*]; done), by repeat (first | exact Drawn0.refl _ | apply Drawn0.step)⟩
end Go.Proofs.YtebfpnbnoinhbaaGreatDoor.Q
namespace Go.Proofs.YtebfpnbnoinhbaaGreatDoor.Q
open Go.RowKit Go.Proofs.YtebfpnbnoinhbaaGreatDoorW.PrintWords Go.Proofs.YtebfpnbnoinhbaaGreatDoorW.PrintLast Go.Proofs.YtebfpnbnoinhbaaGreatDoorW.PrintMore
attribute [local go_sem] max2_int max_two
set_option linter.unusedVariables false
set_option linter.unusedSimpArgs false
def policy_strict.f (a0_0 : Bool) (a0_1 : Bool) (a0_2 : Bool) (a0_3 : Bool) (a0_4 : Bool) (a0_5 : Bool) (a0_6 : Bool) (a0_7 : Bool) (a0_8 : Int) (a0_9 : Int) (a0_10 : Int) (a0_11 : Int) (a0_12 : Int) : Option (Bool) := if a0_4 = true then (some true) else (if a0_5 = true then (some true) else (some (decide (a0_9 ≥ 0))))
set_option maxHeartbeats 8000000 in
set_option maxRecDepth 100000 in
theorem policy_strict.calls (a0_0 : Bool) (a0_1 : Bool) (a0_2 : Bool) (a0_3 : Bool) (a0_4 : Bool) (a0_5 : Bool) (a0_6 : Bool) (a0_7 : Bool) (a0_8 : Int) (a0_9 : Int) (a0_10 : Int) (a0_11 : Int) (a0_12 : Int) (r : Bool) (w : World) (h : policy_strict.f a0_0 a0_1 a0_2 a0_3 a0_4 a0_5 a0_6 a0_7 a0_8 a0_9 a0_10 a0_11 a0_12 = some r) :
    Calls Tryz.prog 24 #[.agg #[.bool a0_0, .bool a0_1, .bool a0_2, .bool a0_3, .bool a0_4, .bool a0_5, .bool a0_6, .bool a0_7, .int .i64 a0_8, .int .i64 a0_9, .int .i64 a0_10, .int .i64 a0_11, .int .i64 a0_12]] w fun e w' => e = .returned (.bool r) ∧ Below w.heap.size w w' := by
  have hu34 := Tryz.underlying34
  have HB := Aside0.mk (Below.refl w.heap.size w)
  have H : (if a0_4 = true then (some true) else (if a0_5 = true then (some true) else (some (decide (a0_9 ≥ 0))))) = some r := h
  clear h
  by_cases c2 : a0_4 = true
  · subst c2
    have H1 : (some true) = some r := by rw [if_pos rfl] at H; exact H
    clear H
    have H := H1
    clear H1
    obtain rfl := Option.some.inj H
    go_enter Tryz.func24, Tryz.ntmps24
    go_wp2_with (first | ((with_reducible refine gate_dst (N := 1) rfl ?_); refine box_event ?hg (N := 1) ?hd (cs := #[.bool a0_0, .bool a0_1, .bool a0_2, .bool a0_3, .bool true, .bool a0_5, .bool a0_6, .bool a0_7, .int .i64 a0_8, .int .i64 a0_9, .int .i64 a0_10, .int .i64 a0_11, .int .i64 a0_12]) (t := 34) ?hr ?_; (case hd => rfl); (case hg => rfl); (case hr => first | (go_simp; done) | (go_simp; rfl)); intro gb1 hg w3 hbox hb; have n0_ := Aside0.mk (below_step (by repeat (first | (with_reducible first | exact HB.out | apply below_alloc | apply pw_below_drewN | apply below_drew1) | exact HB.out)) hb); have n1_ := Aside0.mk (hbox); have n2_ := Aside0.mk ((by rw [hg]; exact (below_size (by repeat (first | (with_reducible first | exact HB.out | apply below_alloc | apply pw_below_drewN | apply below_drew1) | exact HB.out))) : w.heap.size ≤ gb1)); have n3_ := Aside0.mk ((by rw [hg]; exact (below_size (by repeat (first | (with_reducible first | exact HB.out | apply below_alloc | apply pw_below_drewN | apply below_drew1) | exact HB.out))) : w.heap.size ≤ gb1)); clear HB; have HB := n0_; have BK1 := n1_; have GW1 := n2_; have GE1 := n3_; clear n0_ n1_ n2_ n3_; clear hb hbox hg; have hcz4_0 : w3.cell? ⟨gb1, 0, none⟩ = some (.bool a0_0) := (blk_cell BK1.out 0).trans rfl; have hcz4_1 : w3.cell? ⟨gb1, 1, none⟩ = some (.bool a0_1) := (blk_cell BK1.out 1).trans rfl; have hcz4_2 : w3.cell? ⟨gb1, 2, none⟩ = some (.bool a0_2) := (blk_cell BK1.out 2).trans rfl; have hcz4_3 : w3.cell? ⟨gb1, 3, none⟩ = some (.bool a0_3) := (blk_cell BK1.out 3).trans rfl; have hcz4_4 : w3.cell? ⟨gb1, 4, none⟩ = some (.bool true) := (blk_cell BK1.out 4).trans rfl; have hcz4_5 : w3.cell? ⟨gb1, 5, none⟩ = some (.bool a0_5) := (blk_cell BK1.out 5).trans rfl; have hcz4_6 : w3.cell? ⟨gb1, 6, none⟩ = some (.bool a0_6) := (blk_cell BK1.out 6).trans rfl; have hcz4_7 : w3.cell? ⟨gb1, 7, none⟩ = some (.bool a0_7) := (blk_cell BK1.out 7).trans rfl; have hcz4_8 : w3.cell? ⟨gb1, 8, none⟩ = some (.int .i64 a0_8) := (blk_cell BK1.out 8).trans rfl; have hcz4_9 : w3.cell? ⟨gb1, 9, none⟩ = some (.int .i64 a0_9) := (blk_cell BK1.out 9).trans rfl; have hcz4_10 : w3.cell? ⟨gb1, 10, none⟩ = some (.int .i64 a0_10) := (blk_cell BK1.out 10).trans rfl; have hcz4_11 : w3.cell? ⟨gb1, 11, none⟩ = some (.int .i64 a0_11) := (blk_cell BK1.out 11).trans rfl; have hcz4_12 : w3.cell? ⟨gb1, 12, none⟩ = some (.int .i64 a0_12) := (blk_cell BK1.out 12).trans rfl; have hfz4_0 := blk_frozen BK1.out 0; have hfz4_1 := blk_frozen BK1.out 1; have hfz4_2 := blk_frozen BK1.out 2; have hfz4_3 := blk_frozen BK1.out 3; have hfz4_4 := blk_frozen BK1.out 4; have hfz4_5 := blk_frozen BK1.out 5; have hfz4_6 := blk_frozen BK1.out 6; have hfz4_7 := blk_frozen BK1.out 7; have hfz4_8 := blk_frozen BK1.out 8; have hfz4_9 := blk_frozen BK1.out 9; have hfz4_10 := blk_frozen BK1.out 10; have hfz4_11 := blk_frozen BK1.out 11; have hfz4_12 := blk_frozen BK1.out 12))
    go_ret
    exact ⟨by first | rfl | (simp [errW_none, errW_some] <;> rfl) | (simp [*, errW_none, errW_some] <;> rfl), by repeat (first | (with_reducible first | exact HB.out | apply below_alloc | apply pw_below_drewN | apply below_drew1 | refine below_set ?_ GE1.out) | exact HB.out)⟩
  · replace c2 := Bool.eq_false_iff.mpr c2
    subst c2
    have H1 : (if a0_5 = true then (some true) else (some (decide (a0_9 ≥ 0)))) = some r := by rw [if_neg (show ¬ (false = true) by decide)] at H; exact H
    clear H
    have H := H1
    clear H1
    by_cases c5 : a0_5 = true
    · subst c5
      have H1 : (some true) = some r := by rw [if_pos rfl] at H; exact H
      clear H
      have H := H1
      clear H1
      obtain rfl := Option.some.inj H
      go_enter Tryz.func24, Tryz.ntmps24
      go_wp2_with (first | ((with_reducible refine gate_dst (N := 1) rfl ?_); refine box_event ?hg (N := 1) ?hd (cs := #[.bool a0_0, .bool a0_1, .bool a0_2, .bool a0_3, .bool false, .bool true, .bool a0_6, .bool a0_7, .int .i64 a0_8, .int .i64 a0_9, .int .i64 a0_10, .int .i64 a0_11, .int .i64 a0_12]) (t := 34) ?hr ?_; (case hd => rfl); (case hg => rfl); (case hr => first | (go_simp; done) | (go_simp; rfl)); intro gb1 hg w6 hbox hb; have n0_ := Aside0.mk (below_step (by repeat (first | (with_reducible first | exact HB.out | apply below_alloc | apply pw_below_drewN | apply below_drew1) | exact HB.out)) hb); have n1_ := Aside0.mk (hbox); have n2_ := Aside0.mk ((by rw [hg]; exact (below_size (by repeat (first | (with_reducible first | exact HB.out | apply below_alloc | apply pw_below_drewN | apply below_drew1) | exact HB.out))) : w.heap.size ≤ gb1)); have n3_ := Aside0.mk ((by rw [hg]; exact (below_size (by repeat (first | (with_reducible first | exact HB.out | apply below_alloc | apply pw_below_drewN | apply below_drew1) | exact HB.out))) : w.heap.size ≤ gb1)); clear HB; have HB := n0_; have BK1 := n1_; have GW1 := n2_; have GE1 := n3_; clear n0_ n1_ n2_ n3_; clear hb hbox hg; have hcz7_0 : w6.cell? ⟨gb1, 0, none⟩ = some (.bool a0_0) := (blk_cell BK1.out 0).trans rfl; have hcz7_1 : w6.cell? ⟨gb1, 1, none⟩ = some (.bool a0_1) := (blk_cell BK1.out 1).trans rfl; have hcz7_2 : w6.cell? ⟨gb1, 2, none⟩ = some (.bool a0_2) := (blk_cell BK1.out 2).trans rfl; have hcz7_3 : w6.cell? ⟨gb1, 3, none⟩ = some (.bool a0_3) := (blk_cell BK1.out 3).trans rfl; have hcz7_4 : w6.cell? ⟨gb1, 4, none⟩ = some (.bool false) := (blk_cell BK1.out 4).trans rfl; have hcz7_5 : w6.cell? ⟨gb1, 5, none⟩ = some (.bool true) := (blk_cell BK1.out 5).trans rfl; have hcz7_6 : w6.cell? ⟨gb1, 6, none⟩ = some (.bool a0_6) := (blk_cell BK1.out 6).trans rfl; have hcz7_7 : w6.cell? ⟨gb1, 7, none⟩ = some (.bool a0_7) := (blk_cell BK1.out 7).trans rfl; have hcz7_8 : w6.cell? ⟨gb1, 8, none⟩ = some (.int .i64 a0_8) := (blk_cell BK1.out 8).trans rfl; have hcz7_9 : w6.cell? ⟨gb1, 9, none⟩ = some (.int .i64 a0_9) := (blk_cell BK1.out 9).trans rfl; have hcz7_10 : w6.cell? ⟨gb1, 10, none⟩ = some (.int .i64 a0_10) := (blk_cell BK1.out 10).trans rfl; have hcz7_11 : w6.cell? ⟨gb1, 11, none⟩ = some (.int .i64 a0_11) := (blk_cell BK1.out 11).trans rfl; have hcz7_12 : w6.cell? ⟨gb1, 12, none⟩ = some (.int .i64 a0_12) := (blk_cell BK1.out 12).trans rfl; have hfz7_0 := blk_frozen BK1.out 0; have hfz7_1 := blk_frozen BK1.out 1; have hfz7_2 := blk_frozen BK1.out 2; have hfz7_3 := blk_frozen BK1.out 3; have hfz7_4 := blk_frozen BK1.out 4; have hfz7_5 := blk_frozen BK1.out 5; have hfz7_6 := blk_frozen BK1.out 6; have hfz7_7 := blk_frozen BK1.out 7; have hfz7_8 := blk_frozen BK1.out 8; have hfz7_9 := blk_frozen BK1.out 9; have hfz7_10 := blk_frozen BK1.out 10; have hfz7_11 := blk_frozen BK1.out 11; have hfz7_12 := blk_frozen BK1.out 12))
      go_ret
      exact ⟨by first | rfl | (simp [errW_none, errW_some] <;> rfl) | (simp [*, errW_none, errW_some] <;> rfl), by repeat (first | (with_reducible first | exact HB.out | apply below_alloc | apply pw_below_drewN | apply below_drew1 | refine below_set ?_ GE1.out) | exact HB.out)⟩
    · replace c5 := Bool.eq_false_iff.mpr c5
      subst c5
      have H1 : (some (decide (a0_9 ≥ 0))) = some r := by rw [if_neg (show ¬ (false = true) by decide)] at H; exact H
      clear H
      have H := H1
      clear H1
      obtain rfl := Option.some.inj H
      go_enter Tryz.func24, Tryz.ntmps24
      go_wp2_with (first | ((with_reducible refine gate_dst (N := 1) rfl ?_); refine box_event ?hg (N := 1) ?hd (cs := #[.bool a0_0, .bool a0_1, .bool a0_2, .bool a0_3, .bool false, .bool false, .bool a0_6, .bool a0_7, .int .i64 a0_8, .int .i64 a0_9, .int .i64 a0_10, .int .i64 a0_11, .int .i64 a0_12]) (t := 34) ?hr ?_; (case hd => rfl); (case hg => rfl); (case hr => first | (go_simp; done) | (go_simp; rfl)); intro gb1 hg w8 hbox hb; have n0_ := Aside0.mk (below_step (by repeat (first | (with_reducible first | exact HB.out | apply below_alloc | apply pw_below_drewN | apply below_drew1) | exact HB.out)) hb); have n1_ := Aside0.mk (hbox); have n2_ := Aside0.mk ((by rw [hg]; exact (below_size (by repeat (first | (with_reducible first | exact HB.out | apply below_alloc | apply pw_below_drewN | apply below_drew1) | exact HB.out))) : w.heap.size ≤ gb1)); have n3_ := Aside0.mk ((by rw [hg]; exact (below_size (by repeat (first | (with_reducible first | exact HB.out | apply below_alloc | apply pw_below_drewN | apply below_drew1) | exact HB.out))) : w.heap.size ≤ gb1)); clear HB; have HB := n0_; have BK1 := n1_; have GW1 := n2_; have GE1 := n3_; clear n0_ n1_ n2_ n3_; clear hb hbox hg; have hcz9_0 : w8.cell? ⟨gb1, 0, none⟩ = some (.bool a0_0) := (blk_cell BK1.out 0).trans rfl; have hcz9_1 : w8.cell? ⟨gb1, 1, none⟩ = some (.bool a0_1) := (blk_cell BK1.out 1).trans rfl; have hcz9_2 : w8.cell? ⟨gb1, 2, none⟩ = some (.bool a0_2) := (blk_cell BK1.out 2).trans rfl; have hcz9_3 : w8.cell? ⟨gb1, 3, none⟩ = some (.bool a0_3) := (blk_cell BK1.out 3).trans rfl; have hcz9_4 : w8.cell? ⟨gb1, 4, none⟩ = some (.bool false) := (blk_cell BK1.out 4).trans rfl; have hcz9_5 : w8.cell? ⟨gb1, 5, none⟩ = some (.bool false) := (blk_cell BK1.out 5).trans rfl; have hcz9_6 : w8.cell? ⟨gb1, 6, none⟩ = some (.bool a0_6) := (blk_cell BK1.out 6).trans rfl; have hcz9_7 : w8.cell? ⟨gb1, 7, none⟩ = some (.bool a0_7) := (blk_cell BK1.out 7).trans rfl; have hcz9_8 : w8.cell? ⟨gb1, 8, none⟩ = some (.int .i64 a0_8) := (blk_cell BK1.out 8).trans rfl; have hcz9_9 : w8.cell? ⟨gb1, 9, none⟩ = some (.int .i64 a0_9) := (blk_cell BK1.out 9).trans rfl; have hcz9_10 : w8.cell? ⟨gb1, 10, none⟩ = some (.int .i64 a0_10) := (blk_cell BK1.out 10).trans rfl; have hcz9_11 : w8.cell? ⟨gb1, 11, none⟩ = some (.int .i64 a0_11) := (blk_cell BK1.out 11).trans rfl; have hcz9_12 : w8.cell? ⟨gb1, 12, none⟩ = some (.int .i64 a0_12) := (blk_cell BK1.out 12).trans rfl; have hfz9_0 := blk_frozen BK1.out 0; have hfz9_1 := blk_frozen BK1.out 1; have hfz9_2 := blk_frozen BK1.out 2; have hfz9_3 := blk_frozen BK1.out 3; have hfz9_4 := blk_frozen BK1.out 4; have hfz9_5 := blk_frozen BK1.out 5; have hfz9_6 := blk_frozen BK1.out 6; have hfz9_7 := blk_frozen BK1.out 7; have hfz9_8 := blk_frozen BK1.out 8; have hfz9_9 := blk_frozen BK1.out 9; have hfz9_10 := blk_frozen BK1.out 10; have hfz9_11 := blk_frozen BK1.out 11; have hfz9_12 := blk_frozen BK1.out 12))
      go_ret
      exact ⟨by first | rfl | (simp [errW_none, errW_some] <;> rfl) | (simp [*, errW_none, errW_some] <;> rfl), by repeat (first | (with_reducible first | exact HB.out | apply below_alloc | apply pw_below_drewN | apply below_drew1 | refine below_set ?_ GE1.out) | exact HB.out)⟩
end Go.Proofs.YtebfpnbnoinhbaaGreatDoor.Q
namespace Go.Proofs.YtebfpnbnoinhbaaGreatDoor.Q
open Go.RowKit Go.Proofs.YtebfpnbnoinhbaaGreatDoorW.PrintWords Go.Proofs.YtebfpnbnoinhbaaGreatDoorW.PrintLast Go.Proofs.YtebfpnbnoinhbaaGreatDoorW.PrintMore
attribute [local go_sem] max2_int max_two
set_option linter.unusedVariables false
set_option linter.unusedSimpArgs false
def slices_Index_int_int.l0 : Nat → List Int → Int → Int → Int → Option (Int)
  | 0, _, _, _, _ => none
  | k + 1, x0, x1, x7, x8 => if x8 < x7 then (if 0 ≤ x8 then (if x8 < (x0.length : Int) then (if x1 = (rd x0 x8) then (some x8) else (slices_Index_int_int.l0 k x0 x1 x7 (wrap64 (x8 + 1)))) else (none)) else (none)) else (some (-1))
def slices_Index_int_int.f (k : Nat) (l0 : List Int) (a1 : Int) : Option (Int) := slices_Index_int_int.l0 k l0 a1 (l0.length : Int) 0
set_option maxHeartbeats 8000000 in
set_option maxRecDepth 100000 in
theorem slices_Index_int_int.calls (k : Nat) (A0 : Option Addr) (c0 : Nat) (l0 : List Int) (a1 : Int) (r : Int) (w : World) (hr0 : Kd.C (Kd.int .i64) w A0 l0.length l0) (hc0 : l0.length ≤ c0) (h : slices_Index_int_int.f k l0 a1 = some r) :
    Calls Tryz.prog 82 #[.slice A0 l0.length c0, .int .i64 a1] w fun e w' => e = .returned (.int .i64 r) ∧ Drawn0 w w' := by
  have HR0 := Aside0.mk hr0
  have HC0 := Aside0.mk hc0
  clear hr0 hc0
  have H : (slices_Index_int_int.l0 k l0 a1 (l0.length : Int) 0) = some r := h
  clear h
  have H' := Aside0.mk H
  clear H
  go_enter Tryz.func82, Tryz.ntmps82
  go_wp2
  go_loopg [8] k (fun kq v8 w' => ∃ (x8_1 : Int), v8 = .int .i64 x8_1 ∧ Aside0 (slices_Index_int_int.l0 kq l0 a1 (l0.length : Int) x8_1 = some r) ∧ Aside0 (kq ≤ k) ∧ Drawn0 w w')
  case atStart => exact ⟨(0), (by first | rfl | (simp; done) | (simp [*]; done)), H', ⟨Nat.le_refl _⟩, by repeat (first | exact Drawn0.refl _ | apply Drawn0.step)⟩
  case round =>
    clear H'
    try clear p2
    obtain ⟨x8_1, rfl, HA, HK1, ⟨m1, rfl⟩⟩ := hrel
    cases gk with
    | zero => exact absurd HA.out (by simp [slices_Index_int_int.l0])
    | succ k1 =>
      have H := HA.out
      clear HA
      simp only [slices_Index_int_int.l0] at H
      by_cases c3 : x8_1 < (l0.length : Int)
      · rw [if_pos c3] at H
        have c3b0 : decide (x8_1 < (l0.length : Int)) = true := decide_eq_true c3
        clear c3
        by_cases c4 : 0 ≤ x8_1
        · rw [if_pos c4] at H
          have c4b0 : decide (0 ≤ x8_1) = true := decide_eq_true c4
          clear c4
          by_cases c5 : x8_1 < (l0.length : Int)
          · rw [if_pos c5] at H
            have c5b0 : decide (x8_1 < (l0.length : Int)) = true := decide_eq_true c5
            clear c5
            by_cases c6 : a1 = (rd l0 x8_1)
            · rw [if_pos c6] at H
              have c6b0 : (a1 == (rd l0 x8_1)) = true := beq_iff_eq.mpr c6
              have c6b1 : (a1 != (rd l0 x8_1)) = false := bne_eq_false_iff_eq.mpr c6
              clear c6
              obtain rfl := Option.some.inj H
              have p1 : 0 ≤ (x8_1 : Int) := of_decide_eq_true (by first | (with_reducible assumption) | assumption)
              have q1 : x8_1 < (l0.length : Int) := of_decide_eq_true (by first | (with_reducible assumption) | assumption)
              obtain ⟨ad1, e1, hx1_0⟩ := Kd.at_int HR0.out x8_1 p1 q1
              cases e1
              replace p1 := eq_true p1
              replace q1 := eq_true q1
              go_wp2
              go_ret
              exact ⟨by first | rfl | (simp; done) | (simp [*]; done), by repeat (first | exact Drawn0.refl _ | apply Drawn0.step)⟩
            · rw [if_neg c6] at H
              have c6b0 : (a1 == (rd l0 x8_1)) = false := beq_eq_false_iff_ne.mpr c6
              have c6b1 : (a1 != (rd l0 x8_1)) = true := bne_iff_ne.mpr c6
              have H' := Aside0.mk H
              clear H
              have p1 : 0 ≤ (x8_1 : Int) := of_decide_eq_true (by first | (with_reducible assumption) | assumption)
              have q1 : x8_1 < (l0.length : Int) := of_decide_eq_true (by first | (with_reducible assumption) | assumption)
              obtain ⟨ad1, e1, hx1_0⟩ := Kd.at_int HR0.out x8_1 p1 q1
              cases e1
              replace p1 := eq_true p1
              replace q1 := eq_true q1
              go_wp2
              go_roundg k1
              case measure => have := HK1.out; omega
              case rel => exact ⟨(wrap64 (x8_1 + 1)), (by first | rfl | (simp; done) | (simp [*]; done)), H', ⟨by have := HK1.out; omega⟩, by repeat (first | exact Drawn0.refl _ | apply Drawn0.step)⟩
          · rw [if_neg c5] at H
            exact absurd H (by simp)
        · rw [if_neg c4] at H
          exact absurd H (by simp)
      · rw [if_neg c3] at H
        have c3b0 : decide (x8_1 < (l0.length : Int)) = false := decide_eq_false c3
        clear c3
        obtain rfl := Option.some.inj H
        go_wp2
        go_ret
        exact ⟨by first | rfl | (simp; done) | (simp [*]; done), by repeat (first | exact Drawn0.refl _ | apply Drawn0.step)⟩
end Go.Proofs.YtebfpnbnoinhbaaGreatDoor.Q
namespace Go.Proofs.YtebfpnbnoinhbaaGreatDoor.Q
open Go.RowKit Go.Proofs.YtebfpnbnoinhbaaGreatDoorW.PrintWords Go.Proofs.YtebfpnbnoinhbaaGreatDoorW.PrintLast Go.Proofs.YtebfpnbnoinhbaaGreatDoorW.PrintMore
attribute [local go_sem] max2_int max_two
set_option linter.unusedVariables false
set_option linter.unusedSimpArgs false
def slices_Contains_int_int.f (k : Nat) (l0 : List Int) (a1 : Int) : Option (Bool) := (slices_Index_int_int.f k l0 a1).bind fun t1 => (some (decide (t1 ≥ 0)))
set_option maxHeartbeats 8000000 in
set_option maxRecDepth 100000 in
theorem slices_Contains_int_int.calls (k : Nat) (A0 : Option Addr) (c0 : Nat) (l0 : List Int) (a1 : Int) (r : Bool) (w : World) (hr0 : Kd.C (Kd.int .i64) w A0 l0.length l0) (hc0 : l0.length ≤ c0) (h : slices_Contains_int_int.f k l0 a1 = some r) :
    Calls Tryz.prog 50 #[.slice A0 l0.length c0, .int .i64 a1] w fun e w' => e = .returned (.bool r) ∧ Drawn0 w w' := by
  have HR0 := Aside0.mk hr0
  have HC0 := Aside0.mk hc0
  clear hr0 hc0
  have H : ((slices_Index_int_int.f k l0 a1).bind fun t1 => (some (decide (t1 ≥ 0)))) = some r := h
  clear h
  replace H := Option.bind_eq_some_iff.mp H
  obtain ⟨t1, A30, H⟩ := H
  replace H : (some (decide (t1 ≥ 0))) = some r := H
  have A3 := Aside0.mk A30
  clear A30
  obtain rfl := Option.some.inj H
  go_enter Tryz.func50, Tryz.ntmps50
  go_wp2_with (first | ((with_reducible refine gate_callee (f := 82) rfl ?_); refine goesL_ (some 7) rfl rfl Tryz.func82 (by kernel_rfl) rfl #[.slice A0 l0.length c0, .int .i64 a1] rfl (by (try simp only [List.map_toArray, List.map_cons, List.map_nil]); first | done | rfl | (simp only [List.length_drop, List.length_take]; rfl)) ?_; (with_reducible refine (slices_Index_int_int.calls k _ _ l0 a1 t1 _ ?side1 ?side2 A3.out).mono ?_); (case side1 => repeat (first | exact HR0.out | (with_reducible refine Kd.C_alloc ?_ _) | (with_reducible refine Kd.C_drewN ?_ _) | (with_reducible refine Kd.C_drew ?_))); (case side2 => exact HC0.out); rintro e w' ⟨rfl, ⟨nd, rfl⟩⟩; refine ⟨_, rfl, ?_⟩))
  go_ret
  exact ⟨by first | rfl | (simp; done) | (simp [*]; done), by repeat (first | exact Drawn0.refl _ | apply Drawn0.step)⟩
end Go.Proofs.YtebfpnbnoinhbaaGreatDoor.Q
namespace Go.Proofs.YtebfpnbnoinhbaaGreatDoor.Q
open Go.RowKit Go.Proofs.YtebfpnbnoinhbaaGreatDoorW.PrintWords Go.Proofs.YtebfpnbnoinhbaaGreatDoorW.PrintLast Go.Proofs.YtebfpnbnoinhbaaGreatDoorW.PrintMore
attribute [local go_sem] max2_int max_two
set_option linter.unusedVariables false
set_option linter.unusedSimpArgs false
def policy_usual.f (k : Nat) (a0 : Int) : Option (Bool) := (slices_Contains_int_int.f k (([200, 203, 204, 300, 301, 308, 404, 405, 410, 414, 501] : List Int)) a0).bind fun t4 => (some t4)
set_option maxHeartbeats 8000000 in
set_option maxRecDepth 100000 in
theorem policy_usual.calls (k : Nat) (a0 : Int) (r : Bool) (w : World) (h : policy_usual.f k a0 = some r) :
    Calls Tryz.prog 25 #[.int .i64 a0] w fun e w' => e = .returned (.bool r) ∧ Below w.heap.size w w' := by
  have HB := Aside0.mk (Below.refl w.heap.size w)
  have H : ((slices_Contains_int_int.f k (([200, 203, 204, 300, 301, 308, 404, 405, 410, 414, 501] : List Int)) a0).bind fun t4 => (some t4)) = some r := h
  clear h
  obtain ⟨y1, hy1⟩ : ∃ y_ : List Int, y_ = (([200, 203, 204, 300, 301, 308, 404, 405, 410, 414, 501] : List Int)) := ⟨_, rfl⟩
  replace H : ((slices_Contains_int_int.f k y1 a0).bind fun t4 => (some t4)) = some r := by first | (rw [hy1]; with_reducible exact H) | (have H2_ := (Option.bind_some _ _).symm.trans H; rw [hy1]; with_reducible exact H2_) | (have H2_ := (Option.bind_some _ _).symm.trans H; with_reducible exact H2_) | with_reducible exact H | (rw [hy1]; exact H) | exact H
  have Ny1 := Aside0.mk hy1
  clear hy1
  replace H := Option.bind_eq_some_iff.mp H
  obtain ⟨t4, A20, H⟩ := H
  replace H : (some t4) = some r := H
  have A2 := Aside0.mk A20
  clear A20
  obtain rfl := Option.some.inj H
  go_enter Tryz.func25, Tryz.ntmps25
  go_wp2_with (first | ((with_reducible refine gate_dst (N := 3) rfl ?_); refine Kd.R_lit (Kd.int .i64) _ 3 ?hg (N := 3) ?hd (xs := ([200, 203, 204, 300, 301, 308, 404, 405, 410, 414, 501] : List Int)) (inner := [.int .i64 200, .int .i64 203, .int .i64 204, .int .i64 300, .int .i64 301, .int .i64 308, .int .i64 404, .int .i64 405, .int .i64 410, .int .i64 414, .int .i64 501]) (ok := fun _ => True) (okp := fun _ => True) ?hr ?hp (fun _ hk => hk) trivial (Below.refl _ _) (Nat.le_refl _) (by simp) ?_; (case hd => rfl); (case hg => rfl); (case hr => first | (go_simp; done) | (go_simp; rfl)); (case hp => exact (Reps.one (show Kd.M (Kd.int .i64) _ _ _ 200 [.int .i64 200] from rfl) (Reps.one (show Kd.M (Kd.int .i64) _ _ _ 203 [.int .i64 203] from rfl) (Reps.one (show Kd.M (Kd.int .i64) _ _ _ 204 [.int .i64 204] from rfl) (Reps.one (show Kd.M (Kd.int .i64) _ _ _ 300 [.int .i64 300] from rfl) (Reps.one (show Kd.M (Kd.int .i64) _ _ _ 301 [.int .i64 301] from rfl) (Reps.one (show Kd.M (Kd.int .i64) _ _ _ 308 [.int .i64 308] from rfl) (Reps.one (show Kd.M (Kd.int .i64) _ _ _ 404 [.int .i64 404] from rfl) (Reps.one (show Kd.M (Kd.int .i64) _ _ _ 405 [.int .i64 405] from rfl) (Reps.one (show Kd.M (Kd.int .i64) _ _ _ 410 [.int .i64 410] from rfl) (Reps.one (show Kd.M (Kd.int .i64) _ _ _ 414 [.int .i64 414] from rfl) (Reps.one (show Kd.M (Kd.int .i64) _ _ _ 501 [.int .i64 501] from rfl) (Reps.none _ _))))))))))))); intro v2 w3 ho4 hb hg_ hnew_; clear hg_ hnew_; (first | rw [← Ny1.out] at ho4 | (simp only [Int.reduceToNat] at ho4; rw [← Ny1.out] at ho4)); have n0_ := Aside0.mk (Kd.R_lower ho4 (below_size (by repeat (first | (with_reducible first | exact HB.out | apply below_alloc | apply pw_below_drewN | apply below_drew1) | exact HB.out)))); have n1_ := Aside0.mk (below_step (by repeat (first | (with_reducible first | exact HB.out | apply below_alloc | apply pw_below_drewN | apply below_drew1) | exact HB.out)) hb); clear HB; have HO3 := n0_; have HB := n1_; clear n0_ n1_; clear hb ho4; obtain ⟨Ao5, co5, eo5⟩ := Kd.R_slice HO3.out; subst eo5) | ((with_reducible refine gate_callee (f := 50) rfl ?_); refine goesL_ (some 5) rfl rfl Tryz.func50 (by kernel_rfl) rfl #[.slice Ao5 y1.length co5, .int .i64 a0] rfl (by (try simp only [List.map_toArray, List.map_cons, List.map_nil]); first | done | rfl | (simp only [List.length_drop, List.length_take]; rfl)) ?_; (with_reducible refine (slices_Contains_int_int.calls k _ _ y1 a0 t4 _ ?side1 ?side2 A2.out).mono ?_); (case side1 => repeat (first | exact (Kd.R_reads' HO3.out).2.2 | (with_reducible refine Kd.C_alloc ?_ _) | (with_reducible refine Kd.C_drewN ?_ _) | (with_reducible refine Kd.C_drew ?_))); (case side2 => exact (Kd.R_reads' HO3.out).2.1); rintro e w' ⟨rfl, ⟨nd, rfl⟩⟩; refine ⟨_, rfl, ?_⟩))
  go_ret
  exact ⟨by first | rfl | (simp [errW_none, errW_some] <;> rfl) | (simp [*, errW_none, errW_some] <;> rfl), by repeat (first | (with_reducible first | exact HB.out | apply below_alloc | apply pw_below_drewN | apply below_drew1) | exact HB.out)⟩
end Go.Proofs.YtebfpnbnoinhbaaGreatDoor.Q
namespace Go.Proofs.YtebfpnbnoinhbaaGreatDoor.Q
open Go.RowKit Go.Proofs.YtebfpnbnoinhbaaGreatDoorW.PrintWords Go.Proofs.YtebfpnbnoinhbaaGreatDoorW.PrintLast Go.Proofs.YtebfpnbnoinhbaaGreatDoorW.PrintMore
attribute [local go_sem] max2_int max_two
set_option linter.unusedVariables false
set_option linter.unusedSimpArgs false
def policy_OnError.f (a0 : Int) (a1 : Int) (a2_0 : Bool) (a2_1 : Bool) (a2_2 : Bool) (a2_3 : Bool) (a2_4 : Bool) (a2_5 : Bool) (a2_6 : Bool) (a2_7 : Bool) (a2_8 : Int) (a2_9 : Int) (a2_10 : Int) (a2_11 : Int) (a2_12 : Int) : Option (Bool) := if a2_1 = true then (some false) else (if a0 < a1 then (some true) else ((policy_strict.f a2_0 a2_1 a2_2 a2_3 a2_4 a2_5 a2_6 a2_7 a2_8 a2_9 a2_10 a2_11 a2_12).bind fun t2 => (if t2 = true then (if a2_12 ≥ 0 then (if (wrap64 (a0 - a1)) ≤ a2_12 then (some (!a2_4)) else (some false)) else (some false)) else (some true))))
set_option maxHeartbeats 8000000 in
set_option maxRecDepth 100000 in
theorem policy_OnError.calls (a0 : Int) (a1 : Int) (a2_0 : Bool) (a2_1 : Bool) (a2_2 : Bool) (a2_3 : Bool) (a2_4 : Bool) (a2_5 : Bool) (a2_6 : Bool) (a2_7 : Bool) (a2_8 : Int) (a2_9 : Int) (a2_10 : Int) (a2_11 : Int) (a2_12 : Int) (r : Bool) (w : World) (h : policy_OnError.f a0 a1 a2_0 a2_1 a2_2 a2_3 a2_4 a2_5 a2_6 a2_7 a2_8 a2_9 a2_10 a2_11 a2_12 = some r) :
    Calls Tryz.prog 15 #[.int .i64 a0, .int .i64 a1, .agg #[.bool a2_0, .bool a2_1, .bool a2_2, .bool a2_3, .bool a2_4, .bool a2_5, .bool a2_6, .bool a2_7, .int .i64 a2_8, .int .i64 a2_9, .int .i64 a2_10, .int .i64 a2_11, .int .i64 a2_12]] w fun e w' => e = .returned (.bool r) ∧ Below w.heap.size w w' := by
  have hu34 := Tryz.underlying34
  have HB := Aside0.mk (Below.refl w.heap.size w)
  have H : (if a2_1 = true then (some false) else (if a0 < a1 then (some true) else ((policy_strict.f a2_0 a2_1 a2_2 a2_3 a2_4 a2_5 a2_6 a2_7 a2_8 a2_9 a2_10 a2_11 a2_12).bind fun t2 => (if t2 = true then (if a2_12 ≥ 0 then (if (wrap64 (a0 - a1)) ≤ a2_12 then (some (!a2_4)) else (some false)) else (some false)) else (some true))))) = some r := h
  clear h
  by_cases c4 : a2_1 = true
  · subst c4
    have H1 : (some false) = some r := by rw [if_pos rfl] at H; exact H
    clear H
    have H := H1
    clear H1
    obtain rfl := Option.some.inj H
    go_enter Tryz.func15, Tryz.ntmps15
    go_wp2_with (first | ((with_reducible refine gate_dst (N := 5) rfl ?_); refine box_event ?hg (N := 5) ?hd (cs := #[.bool a2_0, .bool true, .bool a2_2, .bool a2_3, .bool a2_4, .bool a2_5, .bool a2_6, .bool a2_7, .int .i64 a2_8, .int .i64 a2_9, .int .i64 a2_10, .int .i64 a2_11, .int .i64 a2_12]) (t := 34) ?hr ?_; (case hd => rfl); (case hg => rfl); (case hr => first | (go_simp; done) | (go_simp; rfl)); intro gb1 hg w5 hbox hb; have n0_ := Aside0.mk (below_step (by repeat (first | (with_reducible first | exact HB.out | apply below_alloc | apply pw_below_drewN | apply below_drew1) | exact HB.out)) hb); have n1_ := Aside0.mk (hbox); have n2_ := Aside0.mk ((by rw [hg]; exact (below_size (by repeat (first | (with_reducible first | exact HB.out | apply below_alloc | apply pw_below_drewN | apply below_drew1) | exact HB.out))) : w.heap.size ≤ gb1)); have n3_ := Aside0.mk ((by rw [hg]; exact (below_size (by repeat (first | (with_reducible first | exact HB.out | apply below_alloc | apply pw_below_drewN | apply below_drew1) | exact HB.out))) : w.heap.size ≤ gb1)); clear HB; have HB := n0_; have BK1 := n1_; have GW1 := n2_; have GE1 := n3_; clear n0_ n1_ n2_ n3_; clear hb hbox hg; have hcz6_0 : w5.cell? ⟨gb1, 0, none⟩ = some (.bool a2_0) := (blk_cell BK1.out 0).trans rfl; have hcz6_1 : w5.cell? ⟨gb1, 1, none⟩ = some (.bool true) := (blk_cell BK1.out 1).trans rfl; have hcz6_2 : w5.cell? ⟨gb1, 2, none⟩ = some (.bool a2_2) := (blk_cell BK1.out 2).trans rfl; have hcz6_3 : w5.cell? ⟨gb1, 3, none⟩ = some (.bool a2_3) := (blk_cell BK1.out 3).trans rfl; have hcz6_4 : w5.cell? ⟨gb1, 4, none⟩ = some (.bool a2_4) := (blk_cell BK1.out 4).trans rfl; have hcz6_5 : w5.cell? ⟨gb1, 5, none⟩ = some (.bool a2_5) := (blk_cell BK1.out 5).trans rfl; have hcz6_6 : w5.cell? ⟨gb1, 6, none⟩ = some (.bool a2_6) := (blk_cell BK1.out 6).trans rfl; have hcz6_7 : w5.cell? ⟨gb1, 7, none⟩ = some (.bool a2_7) := (blk_cell BK1.out 7).trans rfl; have hcz6_8 : w5.cell? ⟨gb1, 8, none⟩ = some (.int .i64 a2_8) := (blk_cell BK1.out 8).trans rfl; have hcz6_9 : w5.cell? ⟨gb1, 9, none⟩ = some (.int .i64 a2_9) := (blk_cell BK1.out 9).trans rfl; have hcz6_10 : w5.cell? ⟨gb1, 10, none⟩ = some (.int .i64 a2_10) := (blk_cell BK1.out 10).trans rfl; have hcz6_11 : w5.cell? ⟨gb1, 11, none⟩ = some (.int .i64 a2_11) := (blk_cell BK1.out 11).trans rfl; have hcz6_12 : w5.cell? ⟨gb1, 12, none⟩ = some (.int .i64 a2_12) := (blk_cell BK1.out 12).trans rfl; have hfz6_0 := blk_frozen BK1.out 0; have hfz6_1 := blk_frozen BK1.out 1; have hfz6_2 := blk_frozen BK1.out 2; have hfz6_3 := blk_frozen BK1.out 3; have hfz6_4 := blk_frozen BK1.out 4; have hfz6_5 := blk_frozen BK1.out 5; have hfz6_6 := blk_frozen BK1.out 6; have hfz6_7 := blk_frozen BK1.out 7; have hfz6_8 := blk_frozen BK1.out 8; have hfz6_9 := blk_frozen BK1.out 9; have hfz6_10 := blk_frozen BK1.out 10; have hfz6_11 := blk_frozen BK1.out 11; have hfz6_12 := blk_frozen BK1.out 12))
    go_ret
    exact ⟨by first | rfl | (simp [errW_none, errW_some] <;> rfl) | (simp [*, errW_none, errW_some] <;> rfl), by repeat (first | (with_reducible first | exact HB.out | apply below_alloc | apply pw_below_drewN | apply below_drew1 | refine below_set ?_ GE1.out) | exact HB.out)⟩
  · replace c4 := Bool.eq_false_iff.mpr c4
    subst c4
    have H1 : (if a0 < a1 then (some true) else ((policy_strict.f a2_0 false a2_2 a2_3 a2_4 a2_5 a2_6 a2_7 a2_8 a2_9 a2_10 a2_11 a2_12).bind fun t2 => (if t2 = true then (if a2_12 ≥ 0 then (if (wrap64 (a0 - a1)) ≤ a2_12 then (some (!a2_4)) else (some false)) else (some false)) else (some true)))) = some r := by rw [if_neg (show ¬ (false = true) by decide)] at H; exact H
    clear H
    have H := H1
    clear H1
    by_cases c7 : a0 < a1
    · rw [if_pos c7] at H
      have c7b0 : decide (a0 < a1) = true := decide_eq_true c7
      clear c7
      obtain rfl := Option.some.inj H
      go_enter Tryz.func15, Tryz.ntmps15
      go_wp2_with (first | ((with_reducible refine gate_dst (N := 5) rfl ?_); refine box_event ?hg (N := 5) ?hd (cs := #[.bool a2_0, .bool false, .bool a2_2, .bool a2_3, .bool a2_4, .bool a2_5, .bool a2_6, .bool a2_7, .int .i64 a2_8, .int .i64 a2_9, .int .i64 a2_10, .int .i64 a2_11, .int .i64 a2_12]) (t := 34) ?hr ?_; (case hd => rfl); (case hg => rfl); (case hr => first | (go_simp; done) | (go_simp; rfl)); intro gb1 hg w8 hbox hb; have n0_ := Aside0.mk (below_step (by repeat (first | (with_reducible first | exact HB.out | apply below_alloc | apply pw_below_drewN | apply below_drew1) | exact HB.out)) hb); have n1_ := Aside0.mk (hbox); have n2_ := Aside0.mk ((by rw [hg]; exact (below_size (by repeat (first | (with_reducible first | exact HB.out | apply below_alloc | apply pw_below_drewN | apply below_drew1) | exact HB.out))) : w.heap.size ≤ gb1)); have n3_ := Aside0.mk ((by rw [hg]; exact (below_size (by repeat (first | (with_reducible first | exact HB.out | apply below_alloc | apply pw_below_drewN | apply below_drew1) | exact HB.out))) : w.heap.size ≤ gb1)); clear HB; have HB := n0_; have BK1 := n1_; have GW1 := n2_; have GE1 := n3_; clear n0_ n1_ n2_ n3_; clear hb hbox hg; have hcz9_0 : w8.cell? ⟨gb1, 0, none⟩ = some (.bool a2_0) := (blk_cell BK1.out 0).trans rfl; have hcz9_1 : w8.cell? ⟨gb1, 1, none⟩ = some (.bool false) := (blk_cell BK1.out 1).trans rfl; have hcz9_2 : w8.cell? ⟨gb1, 2, none⟩ = some (.bool a2_2) := (blk_cell BK1.out 2).trans rfl; have hcz9_3 : w8.cell? ⟨gb1, 3, none⟩ = some (.bool a2_3) := (blk_cell BK1.out 3).trans rfl; have hcz9_4 : w8.cell? ⟨gb1, 4, none⟩ = some (.bool a2_4) := (blk_cell BK1.out 4).trans rfl; have hcz9_5 : w8.cell? ⟨gb1, 5, none⟩ = some (.bool a2_5) := (blk_cell BK1.out 5).trans rfl; have hcz9_6 : w8.cell? ⟨gb1, 6, none⟩ = some (.bool a2_6) := (blk_cell BK1.out 6).trans rfl; have hcz9_7 : w8.cell? ⟨gb1, 7, none⟩ = some (.bool a2_7) := (blk_cell BK1.out 7).trans rfl; have hcz9_8 : w8.cell? ⟨gb1, 8, none⟩ = some (.int .i64 a2_8) := (blk_cell BK1.out 8).trans rfl; have hcz9_9 : w8.cell? ⟨gb1, 9, none⟩ = some (.int .i64 a2_9) := (blk_cell BK1.out 9).trans rfl; have hcz9_10 : w8.cell? ⟨gb1, 10, none⟩ = some (.int .i64 a2_10) := (blk_cell BK1.out 10).trans rfl; have hcz9_11 : w8.cell? ⟨gb1, 11, none⟩ = some (.int .i64 a2_11) := (blk_cell BK1.out 11).trans rfl; have hcz9_12 : w8.cell? ⟨gb1, 12, none⟩ = some (.int .i64 a2_12) := (blk_cell BK1.out 12).trans rfl; have hfz9_0 := blk_frozen BK1.out 0; have hfz9_1 := blk_frozen BK1.out 1; have hfz9_2 := blk_frozen BK1.out 2; have hfz9_3 := blk_frozen BK1.out 3; have hfz9_4 := blk_frozen BK1.out 4; have hfz9_5 := blk_frozen BK1.out 5; have hfz9_6 := blk_frozen BK1.out 6; have hfz9_7 := blk_frozen BK1.out 7; have hfz9_8 := blk_frozen BK1.out 8; have hfz9_9 := blk_frozen BK1.out 9; have hfz9_10 := blk_frozen BK1.out 10; have hfz9_11 := blk_frozen BK1.out 11; have hfz9_12 := blk_frozen BK1.out 12))
      go_ret
      exact ⟨by first | rfl | (simp [errW_none, errW_some] <;> rfl) | (simp [*, errW_none, errW_some] <;> rfl), by repeat (first | (with_reducible first | exact HB.out | apply below_alloc | apply pw_below_drewN | apply below_drew1 | refine below_set ?_ GE1.out) | exact HB.out)⟩
    · rw [if_neg c7] at H
      have c7b0 : decide (a0 < a1) = false := decide_eq_false c7
      clear c7
      replace H := Option.bind_eq_some_iff.mp H
      obtain ⟨t2, A100, H⟩ := H
      replace H : (if t2 = true then (if a2_12 ≥ 0 then (if (wrap64 (a0 - a1)) ≤ a2_12 then (some (!a2_4)) else (some false)) else (some false)) else (some true)) = some r := H
      have A10 := Aside0.mk A100
      clear A100
      by_cases c11 : t2 = true
      · subst c11
        have H1 : (if a2_12 ≥ 0 then (if (wrap64 (a0 - a1)) ≤ a2_12 then (some (!a2_4)) else (some false)) else (some false)) = some r := by rw [if_pos rfl] at H; exact H
        clear H
        have H := H1
        clear H1
        by_cases c12 : a2_12 ≥ 0
        · rw [if_pos c12] at H
          have c12b0 : decide (0 ≤ a2_12) = true := decide_eq_true c12
          clear c12
          by_cases c13 : (wrap64 (a0 - a1)) ≤ a2_12
          · rw [if_pos c13] at H
            have c13b0 : decide ((wrap64 (a0 - a1)) ≤ a2_12) = true := decide_eq_true c13
            clear c13
            obtain rfl := Option.some.inj H
            go_enter Tryz.func15, Tryz.ntmps15
            go_wp2_with (first | ((with_reducible refine gate_dst (N := 5) rfl ?_); refine box_event ?hg (N := 5) ?hd (cs := #[.bool a2_0, .bool false, .bool a2_2, .bool a2_3, .bool a2_4, .bool a2_5, .bool a2_6, .bool a2_7, .int .i64 a2_8, .int .i64 a2_9, .int .i64 a2_10, .int .i64 a2_11, .int .i64 a2_12]) (t := 34) ?hr ?_; (case hd => rfl); (case hg => rfl); (case hr => first | (go_simp; done) | (go_simp; rfl)); intro gb1 hg w14 hbox hb; have n0_ := Aside0.mk (below_step (by repeat (first | (with_reducible first | exact HB.out | apply below_alloc | apply pw_below_drewN | apply below_drew1) | exact HB.out)) hb); have n1_ := Aside0.mk (hbox); have n2_ := Aside0.mk ((by rw [hg]; exact (below_size (by repeat (first | (with_reducible first | exact HB.out | apply below_alloc | apply pw_below_drewN | apply below_drew1) | exact HB.out))) : w.heap.size ≤ gb1)); have n3_ := Aside0.mk ((by rw [hg]; exact (below_size (by repeat (first | (with_reducible first | exact HB.out | apply below_alloc | apply pw_below_drewN | apply below_drew1) | exact HB.out))) : w.heap.size ≤ gb1)); clear HB; have HB := n0_; have BK1 := n1_; have GW1 := n2_; have GE1 := n3_; clear n0_ n1_ n2_ n3_; clear hb hbox hg; have hcz15_0 : w14.cell? ⟨gb1, 0, none⟩ = some (.bool a2_0) := (blk_cell BK1.out 0).trans rfl; have hcz15_1 : w14.cell? ⟨gb1, 1, none⟩ = some (.bool false) := (blk_cell BK1.out 1).trans rfl; have hcz15_2 : w14.cell? ⟨gb1, 2, none⟩ = some (.bool a2_2) := (blk_cell BK1.out 2).trans rfl; have hcz15_3 : w14.cell? ⟨gb1, 3, none⟩ = some (.bool a2_3) := (blk_cell BK1.out 3).trans rfl; have hcz15_4 : w14.cell? ⟨gb1, 4, none⟩ = some (.bool a2_4) := (blk_cell BK1.out 4).trans rfl; have hcz15_5 : w14.cell? ⟨gb1, 5, none⟩ = some (.bool a2_5) := (blk_cell BK1.out 5).trans rfl; have hcz15_6 : w14.cell? ⟨gb1, 6, none⟩ = some (.bool a2_6) := (blk_cell BK1.out 6).trans rfl; have hcz15_7 : w14.cell? ⟨gb1, 7, none⟩ = some (.bool a2_7) := (blk_cell BK1.out 7).trans rfl; have hcz15_8 : w14.cell? ⟨gb1, 8, none⟩ = some (.int .i64 a2_8) := (blk_cell BK1.out 8).trans rfl; have hcz15_9 : w14.cell? ⟨gb1, 9, none⟩ = some (.int .i64 a2_9) := (blk_cell BK1.out 9).trans rfl; have hcz15_10 : w14.cell? ⟨gb1, 10, none⟩ = some (.int .i64 a2_10) := (blk_cell BK1.out 10).trans rfl; have hcz15_11 : w14.cell? ⟨gb1, 11, none⟩ = some (.int .i64 a2_11) := (blk_cell BK1.out 11).trans rfl; have hcz15_12 : w14.cell? ⟨gb1, 12, none⟩ = some (.int .i64 a2_12) := (blk_cell BK1.out 12).trans rfl; have hfz15_0 := blk_frozen BK1.out 0; have hfz15_1 := blk_frozen BK1.out 1; have hfz15_2 := blk_frozen BK1.out 2; have hfz15_3 := blk_frozen BK1.out 3; have hfz15_4 := blk_frozen BK1.out 4; have hfz15_5 := blk_frozen BK1.out 5; have hfz15_6 := blk_frozen BK1.out 6; have hfz15_7 := blk_frozen BK1.out 7; have hfz15_8 := blk_frozen BK1.out 8; have hfz15_9 := blk_frozen BK1.out 9; have hfz15_10 := blk_frozen BK1.out 10; have hfz15_11 := blk_frozen BK1.out 11; have hfz15_12 := blk_frozen BK1.out 12) | (go_at_call 24; (with_reducible refine (policy_strict.calls a2_0 false a2_2 a2_3 a2_4 a2_5 a2_6 a2_7 a2_8 a2_9 a2_10 a2_11 a2_12 true _ A10.out).mono ?_); rintro e w16 ⟨rfl, hb⟩; have n0_ := Aside0.mk (blk_below (g := gb1) (o := .cells #[.bool a2_0, .bool false, .bool a2_2, .bool a2_3, .bool a2_4, .bool a2_5, .bool a2_6, .bool a2_7, .int .i64 a2_8, .int .i64 a2_9, .int .i64 a2_10, .int .i64 a2_11, .int .i64 a2_12] 34 (0, 0)) (by (with_reducible repeat (first | refine blk_drewN ?_ _ | refine blk_drew ?_ | refine blk_alloc ?_ _)); exact BK1.out) hb); have n1_ := Aside0.mk (below_step (by repeat (first | (with_reducible first | exact HB.out | apply below_alloc | apply pw_below_drewN | apply below_drew1 | refine below_set ?_ GE1.out) | exact HB.out)) hb); clear BK1; clear HB; have BK1 := n0_; have HB := n1_; clear n0_ n1_; (try clear hb); (try clear hb2); (try clear hk); (try clear hi); have hcz17_0 : w16.cell? ⟨gb1, 0, none⟩ = some (.bool a2_0) := (blk_cell BK1.out 0).trans rfl; have hcz17_1 : w16.cell? ⟨gb1, 1, none⟩ = some (.bool false) := (blk_cell BK1.out 1).trans rfl; have hcz17_2 : w16.cell? ⟨gb1, 2, none⟩ = some (.bool a2_2) := (blk_cell BK1.out 2).trans rfl; have hcz17_3 : w16.cell? ⟨gb1, 3, none⟩ = some (.bool a2_3) := (blk_cell BK1.out 3).trans rfl; have hcz17_4 : w16.cell? ⟨gb1, 4, none⟩ = some (.bool a2_4) := (blk_cell BK1.out 4).trans rfl; have hcz17_5 : w16.cell? ⟨gb1, 5, none⟩ = some (.bool a2_5) := (blk_cell BK1.out 5).trans rfl; have hcz17_6 : w16.cell? ⟨gb1, 6, none⟩ = some (.bool a2_6) := (blk_cell BK1.out 6).trans rfl; have hcz17_7 : w16.cell? ⟨gb1, 7, none⟩ = some (.bool a2_7) := (blk_cell BK1.out 7).trans rfl; have hcz17_8 : w16.cell? ⟨gb1, 8, none⟩ = some (.int .i64 a2_8) := (blk_cell BK1.out 8).trans rfl; have hcz17_9 : w16.cell? ⟨gb1, 9, none⟩ = some (.int .i64 a2_9) := (blk_cell BK1.out 9).trans rfl; have hcz17_10 : w16.cell? ⟨gb1, 10, none⟩ = some (.int .i64 a2_10) := (blk_cell BK1.out 10).trans rfl; have hcz17_11 : w16.cell? ⟨gb1, 11, none⟩ = some (.int .i64 a2_11) := (blk_cell BK1.out 11).trans rfl; have hcz17_12 : w16.cell? ⟨gb1, 12, none⟩ = some (.int .i64 a2_12) := (blk_cell BK1.out 12).trans rfl; have hfz17_0 := blk_frozen BK1.out 0; have hfz17_1 := blk_frozen BK1.out 1; have hfz17_2 := blk_frozen BK1.out 2; have hfz17_3 := blk_frozen BK1.out 3; have hfz17_4 := blk_frozen BK1.out 4; have hfz17_5 := blk_frozen BK1.out 5; have hfz17_6 := blk_frozen BK1.out 6; have hfz17_7 := blk_frozen BK1.out 7; have hfz17_8 := blk_frozen BK1.out 8; have hfz17_9 := blk_frozen BK1.out 9; have hfz17_10 := blk_frozen BK1.out 10; have hfz17_11 := blk_frozen BK1.out 11; have hfz17_12 := blk_frozen BK1.out 12))
            go_ret
            exact ⟨by first | rfl | (simp [errW_none, errW_some] <;> rfl) | (simp [*, errW_none, errW_some] <;> rfl), by repeat (first | (with_reducible first | exact HB.out | apply below_alloc | apply pw_below_drewN | apply below_drew1 | refine below_set ?_ GE1.out) | exact HB.out)⟩
          · rw [if_neg c13] at H
            have c13b0 : decide ((wrap64 (a0 - a1)) ≤ a2_12) = false := decide_eq_false c13
            clear c13
            obtain rfl := Option.some.inj H
            go_enter Tryz.func15, Tryz.ntmps15
            go_wp2_with (first | ((with_reducible refine gate_dst (N := 5) rfl ?_); refine box_event ?hg (N := 5) ?hd (cs := #[.bool a2_0, .bool false, .bool a2_2, .bool a2_3, .bool a2_4, .bool a2_5, .bool a2_6, .bool a2_7, .int .i64 a2_8, .int .i64 a2_9, .int .i64 a2_10, .int .i64 a2_11, .int .i64 a2_12]) (t := 34) ?hr ?_; (case hd => rfl); (case hg => rfl); (case hr => first | (go_simp; done) | (go_simp; rfl)); intro gb1 hg w18 hbox hb; have n0_ := Aside0.mk (below_step (by repeat (first | (with_reducible first | exact HB.out | apply below_alloc | apply pw_below_drewN | apply below_drew1) | exact HB.out)) hb); have n1_ := Aside0.mk (hbox); have n2_ := Aside0.mk ((by rw [hg]; exact (below_size (by repeat (first | (with_reducible first | exact HB.out | apply below_alloc | apply pw_below_drewN | apply below_drew1) | exact HB.out))) : w.heap.size ≤ gb1)); have n3_ := Aside0.mk ((by rw [hg]; exact (below_size (by repeat (first | (with_reducible first | exact HB.out | apply below_alloc | apply pw_below_drewN | apply below_drew1) | exact HB.out))) : w.heap.size ≤ gb1)); clear HB; have HB := n0_; have BK1 := n1_; have GW1 := n2_; have GE1 := n3_; clear n0_ n1_ n2_ n3_; clear hb hbox hg; have hcz19_0 : w18.cell? ⟨gb1, 0, none⟩ = some (.bool a2_0) := (blk_cell BK1.out 0).trans rfl; have hcz19_1 : w18.cell? ⟨gb1, 1, none⟩ = some (.bool false) := (blk_cell BK1.out 1).trans rfl; have hcz19_2 : w18.cell? ⟨gb1, 2, none⟩ = some (.bool a2_2) := (blk_cell BK1.out 2).trans rfl; have hcz19_3 : w18.cell? ⟨gb1, 3, none⟩ = some (.bool a2_3) := (blk_cell BK1.out 3).trans rfl; have hcz19_4 : w18.cell? ⟨gb1, 4, none⟩ = some (.bool a2_4) := (blk_cell BK1.out 4).trans rfl; have hcz19_5 : w18.cell? ⟨gb1, 5, none⟩ = some (.bool a2_5) := (blk_cell BK1.out 5).trans rfl; have hcz19_6 : w18.cell? ⟨gb1, 6, none⟩ = some (.bool a2_6) := (blk_cell BK1.out 6).trans rfl; have hcz19_7 : w18.cell? ⟨gb1, 7, none⟩ = some (.bool a2_7) := (blk_cell BK1.out 7).trans rfl; have hcz19_8 : w18.cell? ⟨gb1, 8, none⟩ = some (.int .i64 a2_8) := (blk_cell BK1.out 8).trans rfl; have hcz19_9 : w18.cell? ⟨gb1, 9, none⟩ = some (.int .i64 a2_9) := (blk_cell BK1.out 9).trans rfl; have hcz19_10 : w18.cell? ⟨gb1, 10, none⟩ = some (.int .i64 a2_10) := (blk_cell BK1.out 10).trans rfl; have hcz19_11 : w18.cell? ⟨gb1, 11, none⟩ = some (.int .i64 a2_11) := (blk_cell BK1.out 11).trans rfl; have hcz19_12 : w18.cell? ⟨gb1, 12, none⟩ = some (.int .i64 a2_12) := (blk_cell BK1.out 12).trans rfl; have hfz19_0 := blk_frozen BK1.out 0; have hfz19_1 := blk_frozen BK1.out 1; have hfz19_2 := blk_frozen BK1.out 2; have hfz19_3 := blk_frozen BK1.out 3; have hfz19_4 := blk_frozen BK1.out 4; have hfz19_5 := blk_frozen BK1.out 5; have hfz19_6 := blk_frozen BK1.out 6; have hfz19_7 := blk_frozen BK1.out 7; have hfz19_8 := blk_frozen BK1.out 8; have hfz19_9 := blk_frozen BK1.out 9; have hfz19_10 := blk_frozen BK1.out 10; have hfz19_11 := blk_frozen BK1.out 11; have hfz19_12 := blk_frozen BK1.out 12) | (go_at_call 24; (with_reducible refine (policy_strict.calls a2_0 false a2_2 a2_3 a2_4 a2_5 a2_6 a2_7 a2_8 a2_9 a2_10 a2_11 a2_12 true _ A10.out).mono ?_); rintro e w20 ⟨rfl, hb⟩; have n0_ := Aside0.mk (blk_below (g := gb1) (o := .cells #[.bool a2_0, .bool false, .bool a2_2, .bool a2_3, .bool a2_4, .bool a2_5, .bool a2_6, .bool a2_7, .int .i64 a2_8, .int .i64 a2_9, .int .i64 a2_10, .int .i64 a2_11, .int .i64 a2_12] 34 (0, 0)) (by (with_reducible repeat (first | refine blk_drewN ?_ _ | refine blk_drew ?_ | refine blk_alloc ?_ _)); exact BK1.out) hb); have n1_ := Aside0.mk (below_step (by repeat (first | (with_reducible first | exact HB.out | apply below_alloc | apply pw_below_drewN | apply below_drew1 | refine below_set ?_ GE1.out) | exact HB.out)) hb); clear BK1; clear HB; have BK1 := n0_; have HB := n1_; clear n0_ n1_; (try clear hb); (try clear hb2); (try clear hk); (try clear hi); have hcz21_0 : w20.cell? ⟨gb1, 0, none⟩ = some (.bool a2_0) := (blk_cell BK1.out 0).trans rfl; have hcz21_1 : w20.cell? ⟨gb1, 1, none⟩ = some (.bool false) := (blk_cell BK1.out 1).trans rfl; have hcz21_2 : w20.cell? ⟨gb1, 2, none⟩ = some (.bool a2_2) := (blk_cell BK1.out 2).trans rfl; have hcz21_3 : w20.cell? ⟨gb1, 3, none⟩ = some (.bool a2_3) := (blk_cell BK1.out 3).trans rfl; have hcz21_4 : w20.cell? ⟨gb1, 4, none⟩ = some (.bool a2_4) := (blk_cell BK1.out 4).trans rfl; have hcz21_5 : w20.cell? ⟨gb1, 5, none⟩ = some (.bool a2_5) := (blk_cell BK1.out 5).trans rfl; have hcz21_6 : w20.cell? ⟨gb1, 6, none⟩ = some (.bool a2_6) := (blk_cell BK1.out 6).trans rfl; have hcz21_7 : w20.cell? ⟨gb1, 7, none⟩ = some (.bool a2_7) := (blk_cell BK1.out 7).trans rfl; have hcz21_8 : w20.cell? ⟨gb1, 8, none⟩ = some (.int .i64 a2_8) := (blk_cell BK1.out 8).trans rfl; have hcz21_9 : w20.cell? ⟨gb1, 9, none⟩ = some (.int .i64 a2_9) := (blk_cell BK1.out 9).trans rfl; have hcz21_10 : w20.cell? ⟨gb1, 10, none⟩ = some (.int .i64 a2_10) := (blk_cell BK1.out 10).trans rfl; have hcz21_11 : w20.cell? ⟨gb1, 11, none⟩ = some (.int .i64 a2_11) := (blk_cell BK1.out 11).trans rfl; have hcz21_12 : w20.cell? ⟨gb1, 12, none⟩ = some (.int .i64 a2_12) := (blk_cell BK1.out 12).trans rfl; have hfz21_0 := blk_frozen BK1.out 0; have hfz21_1 := blk_frozen BK1.out 1; have hfz21_2 := blk_frozen BK1.out 2; have hfz21_3 := blk_frozen BK1.out 3; have hfz21_4 := blk_frozen BK1.out 4; have hfz21_5 := blk_frozen BK1.out 5; have hfz21_6 := blk_frozen BK1.out 6; have hfz21_7 := blk_frozen BK1.out 7; have hfz21_8 := blk_frozen BK1.out 8; have hfz21_9 := blk_frozen BK1.out 9; have hfz21_10 := blk_frozen BK1.out 10; have hfz21_11 := blk_frozen BK1.out 11; have hfz21_12 := blk_frozen BK1.out 12))
            go_ret
            exact ⟨by first | rfl | (simp [errW_none, errW_some] <;> rfl) | (simp [*, errW_none, errW_some] <;> rfl), by repeat (first | (with_reducible first | exact HB.out | apply below_alloc | apply pw_below_drewN | apply below_drew1 | refine below_set ?_ GE1.out) | exact HB.out)⟩
        · rw [if_neg c12] at H
          have c12b0 : decide (0 ≤ a2_12) = false := decide_eq_false c12
          clear c12
          obtain rfl := Option.some.inj H
          go_enter Tryz.func15, Tryz.ntmps15
          go_wp2_with (first | ((with_reducible refine gate_dst (N := 5) rfl ?_); refine box_event ?hg (N := 5) ?hd (cs := #[.bool a2_0, .bool false, .bool a2_2, .bool a2_3, .bool a2_4, .bool a2_5, .bool a2_6, .bool a2_7, .int .i64 a2_8, .int .i64 a2_9, .int .i64 a2_10, .int .i64 a2_11, .int .i64 a2_12]) (t := 34) ?hr ?_; (case hd => rfl); (case hg => rfl); (case hr => first | (go_simp; done) | (go_simp; rfl)); intro gb1 hg w22 hbox hb; have n0_ := Aside0.mk (below_step (by repeat (first | (with_reducible first | exact HB.out | apply below_alloc | apply pw_below_drewN | apply below_drew1) | exact HB.out)) hb); have n1_ := Aside0.mk (hbox); have n2_ := Aside0.mk ((by rw [hg]; exact (below_size (by repeat (first | (with_reducible first | exact HB.out | apply below_alloc | apply pw_below_drewN | apply below_drew1) | exact HB.out))) : w.heap.size ≤ gb1)); have n3_ := Aside0.mk ((by rw [hg]; exact (below_size (by repeat (first | (with_reducible first | exact HB.out | apply below_alloc | apply pw_below_drewN | apply below_drew1) | exact HB.out))) : w.heap.size ≤ gb1)); clear HB; have HB := n0_; have BK1 := n1_; have GW1 := n2_; have GE1 := n3_; clear n0_ n1_ n2_ n3_; clear hb hbox hg; have hcz23_0 : w22.cell? ⟨gb1, 0, none⟩ = some (.bool a2_0) := (blk_cell BK1.out 0).trans rfl; have hcz23_1 : w22.cell? ⟨gb1, 1, none⟩ = some (.bool false) := (blk_cell BK1.out 1).trans rfl; have hcz23_2 : w22.cell? ⟨gb1, 2, none⟩ = some (.bool a2_2) := (blk_cell BK1.out 2).trans rfl; have hcz23_3 : w22.cell? ⟨gb1, 3, none⟩ = some (.bool a2_3) := (blk_cell BK1.out 3).trans rfl; have hcz23_4 : w22.cell? ⟨gb1, 4, none⟩ = some (.bool a2_4) := (blk_cell BK1.out 4).trans rfl; have hcz23_5 : w22.cell? ⟨gb1, 5, none⟩ = some (.bool a2_5) := (blk_cell BK1.out 5).trans rfl; have hcz23_6 : w22.cell? ⟨gb1, 6, none⟩ = some (.bool a2_6) := (blk_cell BK1.out 6).trans rfl; have hcz23_7 : w22.cell? ⟨gb1, 7, none⟩ = some (.bool a2_7) := (blk_cell BK1.out 7).trans rfl; have hcz23_8 : w22.cell? ⟨gb1, 8, none⟩ = some (.int .i64 a2_8) := (blk_cell BK1.out 8).trans rfl; have hcz23_9 : w22.cell? ⟨gb1, 9, none⟩ = some (.int .i64 a2_9) := (blk_cell BK1.out 9).trans rfl; have hcz23_10 : w22.cell? ⟨gb1, 10, none⟩ = some (.int .i64 a2_10) := (blk_cell BK1.out 10).trans rfl; have hcz23_11 : w22.cell? ⟨gb1, 11, none⟩ = some (.int .i64 a2_11) := (blk_cell BK1.out 11).trans rfl; have hcz23_12 : w22.cell? ⟨gb1, 12, none⟩ = some (.int .i64 a2_12) := (blk_cell BK1.out 12).trans rfl; have hfz23_0 := blk_frozen BK1.out 0; have hfz23_1 := blk_frozen BK1.out 1; have hfz23_2 := blk_frozen BK1.out 2; have hfz23_3 := blk_frozen BK1.out 3; have hfz23_4 := blk_frozen BK1.out 4; have hfz23_5 := blk_frozen BK1.out 5; have hfz23_6 := blk_frozen BK1.out 6; have hfz23_7 := blk_frozen BK1.out 7; have hfz23_8 := blk_frozen BK1.out 8; have hfz23_9 := blk_frozen BK1.out 9; have hfz23_10 := blk_frozen BK1.out 10; have hfz23_11 := blk_frozen BK1.out 11; have hfz23_12 := blk_frozen BK1.out 12) | (go_at_call 24; (with_reducible refine (policy_strict.calls a2_0 false a2_2 a2_3 a2_4 a2_5 a2_6 a2_7 a2_8 a2_9 a2_10 a2_11 a2_12 true _ A10.out).mono ?_); rintro e w24 ⟨rfl, hb⟩; have n0_ := Aside0.mk (blk_below (g := gb1) (o := .cells #[.bool a2_0, .bool false, .bool a2_2, .bool a2_3, .bool a2_4, .bool a2_5, .bool a2_6, .bool a2_7, .int .i64 a2_8, .int .i64 a2_9, .int .i64 a2_10, .int .i64 a2_11, .int .i64 a2_12] 34 (0, 0)) (by (with_reducible repeat (first | refine blk_drewN ?_ _ | refine blk_drew ?_ | refine blk_alloc ?_ _)); exact BK1.out) hb); have n1_ := Aside0.mk (below_step (by repeat (first | (with_reducible first | exact HB.out | apply below_alloc | apply pw_below_drewN | apply below_drew1 | refine below_set ?_ GE1.out) | exact HB.out)) hb); clear BK1; clear HB; have BK1 := n0_; have HB := n1_; clear n0_ n1_; (try clear hb); (try clear hb2); (try clear hk); (try clear hi); have hcz25_0 : w24.cell? ⟨gb1, 0, none⟩ = some (.bool a2_0) := (blk_cell BK1.out 0).trans rfl; have hcz25_1 : w24.cell? ⟨gb1, 1, none⟩ = some (.bool false) := (blk_cell BK1.out 1).trans rfl; have hcz25_2 : w24.cell? ⟨gb1, 2, none⟩ = some (.bool a2_2) := (blk_cell BK1.out 2).trans rfl; have hcz25_3 : w24.cell? ⟨gb1, 3, none⟩ = some (.bool a2_3) := (blk_cell BK1.out 3).trans rfl; have hcz25_4 : w24.cell? ⟨gb1, 4, none⟩ = some (.bool a2_4) := (blk_cell BK1.out 4).trans rfl; have hcz25_5 : w24.cell? ⟨gb1, 5, none⟩ = some (.bool a2_5) := (blk_cell BK1.out 5).trans rfl; have hcz25_6 : w24.cell? ⟨gb1, 6, none⟩ = some (.bool a2_6) := (blk_cell BK1.out 6).trans rfl; have hcz25_7 : w24.cell? ⟨gb1, 7, none⟩ = some (.bool a2_7) := (blk_cell BK1.out 7).trans rfl; have hcz25_8 : w24.cell? ⟨gb1, 8, none⟩ = some (.int .i64 a2_8) := (blk_cell BK1.out 8).trans rfl; have hcz25_9 : w24.cell? ⟨gb1, 9, none⟩ = some (.int .i64 a2_9) := (blk_cell BK1.out 9).trans rfl; have hcz25_10 : w24.cell? ⟨gb1, 10, none⟩ = some (.int .i64 a2_10) := (blk_cell BK1.out 10).trans rfl; have hcz25_11 : w24.cell? ⟨gb1, 11, none⟩ = some (.int .i64 a2_11) := (blk_cell BK1.out 11).trans rfl; have hcz25_12 : w24.cell? ⟨gb1, 12, none⟩ = some (.int .i64 a2_12) := (blk_cell BK1.out 12).trans rfl; have hfz25_0 := blk_frozen BK1.out 0; have hfz25_1 := blk_frozen BK1.out 1; have hfz25_2 := blk_frozen BK1.out 2; have hfz25_3 := blk_frozen BK1.out 3; have hfz25_4 := blk_frozen BK1.out 4; have hfz25_5 := blk_frozen BK1.out 5; have hfz25_6 := blk_frozen BK1.out 6; have hfz25_7 := blk_frozen BK1.out 7; have hfz25_8 := blk_frozen BK1.out 8; have hfz25_9 := blk_frozen BK1.out 9; have hfz25_10 := blk_frozen BK1.out 10; have hfz25_11 := blk_frozen BK1.out 11; have hfz25_12 := blk_frozen BK1.out 12))
          go_ret
          exact ⟨by first | rfl | (simp [errW_none, errW_some] <;> rfl) | (simp [*, errW_none, errW_some] <;> rfl), by repeat (first | (with_reducible first | exact HB.out | apply below_alloc | apply pw_below_drewN | apply below_drew1 | refine below_set ?_ GE1.out) | exact HB.out)⟩
      · replace c11 := Bool.eq_false_iff.mpr c11
        subst c11
        have H1 : (some true) = some r := by rw [if_neg (show ¬ (false = true) by decide)] at H; exact H
        clear H
        have H := H1
        clear H1
        obtain rfl := Option.some.inj H
        go_enter Tryz.func15, Tryz.ntmps15
        go_wp2_with (first | ((with_reducible refine gate_dst (N := 5) rfl ?_); refine box_event ?hg (N := 5) ?hd (cs := #[.bool a2_0, .bool false, .bool a2_2, .bool a2_3, .bool a2_4, .bool a2_5, .bool a2_6, .bool a2_7, .int .i64 a2_8, .int .i64 a2_9, .int .i64 a2_10, .int .i64 a2_11, .int .i64 a2_12]) (t := 34) ?hr ?_; (case hd => rfl); (case hg => rfl); (case hr => first | (go_simp; done) | (go_simp; rfl)); intro gb1 hg w26 hbox hb; have n0_ := Aside0.mk (below_step (by repeat (first | (with_reducible first | exact HB.out | apply below_alloc | apply pw_below_drewN | apply below_drew1) | exact HB.out)) hb); have n1_ := Aside0.mk (hbox); have n2_ := Aside0.mk ((by rw [hg]; exact (below_size (by repeat (first | (with_reducible first | exact HB.out | apply below_alloc | apply pw_below_drewN | apply below_drew1) | exact HB.out))) : w.heap.size ≤ gb1)); have n3_ := Aside0.mk ((by rw [hg]; exact (below_size (by repeat (first | (with_reducible first | exact HB.out | apply below_alloc | apply pw_below_drewN | apply below_drew1) | exact HB.out))) : w.heap.size ≤ gb1)); clear HB; have HB := n0_; have BK1 := n1_; have GW1 := n2_; have GE1 := n3_; clear n0_ n1_ n2_ n3_; clear hb hbox hg; have hcz27_0 : w26.cell? ⟨gb1, 0, none⟩ = some (.bool a2_0) := (blk_cell BK1.out 0).trans rfl; have hcz27_1 : w26.cell? ⟨gb1, 1, none⟩ = some (.bool false) := (blk_cell BK1.out 1).trans rfl; have hcz27_2 : w26.cell? ⟨gb1, 2, none⟩ = some (.bool a2_2) := (blk_cell BK1.out 2).trans rfl; have hcz27_3 : w26.cell? ⟨gb1, 3, none⟩ = some (.bool a2_3) := (blk_cell BK1.out 3).trans rfl; have hcz27_4 : w26.cell? ⟨gb1, 4, none⟩ = some (.bool a2_4) := (blk_cell BK1.out 4).trans rfl; have hcz27_5 : w26.cell? ⟨gb1, 5, none⟩ = some (.bool a2_5) := (blk_cell BK1.out 5).trans rfl; have hcz27_6 : w26.cell? ⟨gb1, 6, none⟩ = some (.bool a2_6) := (blk_cell BK1.out 6).trans rfl; have hcz27_7 : w26.cell? ⟨gb1, 7, none⟩ = some (.bool a2_7) := (blk_cell BK1.out 7).trans rfl; have hcz27_8 : w26.cell? ⟨gb1, 8, none⟩ = some (.int .i64 a2_8) := (blk_cell BK1.out 8).trans rfl; have hcz27_9 : w26.cell? ⟨gb1, 9, none⟩ = some (.int .i64 a2_9) := (blk_cell BK1.out 9).trans rfl; have hcz27_10 : w26.cell? ⟨gb1, 10, none⟩ = some (.int .i64 a2_10) := (blk_cell BK1.out 10).trans rfl; have hcz27_11 : w26.cell? ⟨gb1, 11, none⟩ = some (.int .i64 a2_11) := (blk_cell BK1.out 11).trans rfl; have hcz27_12 : w26.cell? ⟨gb1, 12, none⟩ = some (.int .i64 a2_12) := (blk_cell BK1.out 12).trans rfl; have hfz27_0 := blk_frozen BK1.out 0; have hfz27_1 := blk_frozen BK1.out 1; have hfz27_2 := blk_frozen BK1.out 2; have hfz27_3 := blk_frozen BK1.out 3; have hfz27_4 := blk_frozen BK1.out 4; have hfz27_5 := blk_frozen BK1.out 5; have hfz27_6 := blk_frozen BK1.out 6; have hfz27_7 := blk_frozen BK1.out 7; have hfz27_8 := blk_frozen BK1.out 8; have hfz27_9 := blk_frozen BK1.out 9; have hfz27_10 := blk_frozen BK1.out 10; have hfz27_11 := blk_frozen BK1.out 11; have hfz27_12 := blk_frozen BK1.out 12) | (go_at_call 24; (with_reducible refine (policy_strict.calls a2_0 false a2_2 a2_3 a2_4 a2_5 a2_6 a2_7 a2_8 a2_9 a2_10 a2_11 a2_12 false _ A10.out).mono ?_); rintro e w28 ⟨rfl, hb⟩; have n0_ := Aside0.mk (blk_below (g := gb1) (o := .cells #[.bool a2_0, .bool false, .bool a2_2, .bool a2_3, .bool a2_4, .bool a2_5, .bool a2_6, .bool a2_7, .int .i64 a2_8, .int .i64 a2_9, .int .i64 a2_10, .int .i64 a2_11, .int .i64 a2_12] 34 (0, 0)) (by (with_reducible repeat (first | refine blk_drewN ?_ _ | refine blk_drew ?_ | refine blk_alloc ?_ _)); exact BK1.out) hb); have n1_ := Aside0.mk (below_step (by repeat (first | (with_reducible first | exact HB.out | apply below_alloc | apply pw_below_drewN | apply below_drew1 | refine below_set ?_ GE1.out) | exact HB.out)) hb); clear BK1; clear HB; have BK1 := n0_; have HB := n1_; clear n0_ n1_; (try clear hb); (try clear hb2); (try clear hk); (try clear hi)))
        go_ret
        exact ⟨by first | rfl | (simp [errW_none, errW_some] <;> rfl) | (simp [*, errW_none, errW_some] <;> rfl), by repeat (first | (with_reducible first | exact HB.out | apply below_alloc | apply pw_below_drewN | apply below_drew1 | refine below_set ?_ GE1.out) | exact HB.out)⟩
end Go.Proofs.YtebfpnbnoinhbaaGreatDoor.Q
namespace Go.Proofs.YtebfpnbnoinhbaaGreatDoor.Q
open Go.RowKit Go.Proofs.YtebfpnbnoinhbaaGreatDoorW.PrintWords Go.Proofs.YtebfpnbnoinhbaaGreatDoorW.PrintLast Go.Proofs.YtebfpnbnoinhbaaGreatDoorW.PrintMore
attribute [local go_sem] max2_int max_two
set_option linter.unusedVariables false
set_option linter.unusedSimpArgs false
def policy_rulings_1.f (a0 : Int) (a1 : Int) (a2_0 : Bool) (a2_1 : Bool) (a2_2 : Bool) (a2_3 : Bool) (a2_4 : Bool) (a2_5 : Bool) (a2_6 : Bool) (a2_7 : Bool) (a2_8 : Int) (a2_9 : Int) (a2_10 : Int) (a2_11 : Int) (a2_12 : Int) (a3_0 : Bool) (a3_1 : Bool) (a3_2 : Bool) (a3_3 : Bool) (a3_4 : Bool) (a3_5 : Bool) (a3_6 : Bool) (a3_7 : Bool) (a3_8 : Int) (a3_9 : Int) (a3_10 : Int) (a3_11 : Int) (a3_12 : Int) : Option (Bool) := some (decide (a0 < a1))
set_option maxHeartbeats 8000000 in
set_option maxRecDepth 100000 in
theorem policy_rulings_1.calls (a0 : Int) (a1 : Int) (a2_0 : Bool) (a2_1 : Bool) (a2_2 : Bool) (a2_3 : Bool) (a2_4 : Bool) (a2_5 : Bool) (a2_6 : Bool) (a2_7 : Bool) (a2_8 : Int) (a2_9 : Int) (a2_10 : Int) (a2_11 : Int) (a2_12 : Int) (a3_0 : Bool) (a3_1 : Bool) (a3_2 : Bool) (a3_3 : Bool) (a3_4 : Bool) (a3_5 : Bool) (a3_6 : Bool) (a3_7 : Bool) (a3_8 : Int) (a3_9 : Int) (a3_10 : Int) (a3_11 : Int) (a3_12 : Int) (r : Bool) (w : World) (h : policy_rulings_1.f a0 a1 a2_0 a2_1 a2_2 a2_3 a2_4 a2_5 a2_6 a2_7 a2_8 a2_9 a2_10 a2_11 a2_12 a3_0 a3_1 a3_2 a3_3 a3_4 a3_5 a3_6 a3_7 a3_8 a3_9 a3_10 a3_11 a3_12 = some r) :
    Calls Tryz.prog 63 #[.int .i64 a0, .int .i64 a1, .agg #[.bool a2_0, .bool a2_1, .bool a2_2, .bool a2_3, .bool a2_4, .bool a2_5, .bool a2_6, .bool a2_7, .int .i64 a2_8, .int .i64 a2_9, .int .i64 a2_10, .int .i64 a2_11, .int .i64 a2_12], .agg #[.bool a3_0, .bool a3_1, .bool a3_2, .bool a3_3, .bool a3_4, .bool a3_5, .bool a3_6, .bool a3_7, .int .i64 a3_8, .int .i64 a3_9, .int .i64 a3_10, .int .i64 a3_11, .int .i64 a3_12]] w fun e w' => e = .returned (.bool r) ∧ Below w.heap.size w w' := by
  have hu34 := Tryz.underlying34
  have HB := Aside0.mk (Below.refl w.heap.size w)
  have H : (some (decide (a0 < a1))) = some r := h
  clear h
  obtain rfl := Option.some.inj H
  go_enter Tryz.func63, Tryz.ntmps63
  go_wp2_with (first | ((with_reducible refine gate_dst (N := 6) rfl ?_); refine box_event ?hg (N := 6) ?hd (cs := #[.bool a2_0, .bool a2_1, .bool a2_2, .bool a2_3, .bool a2_4, .bool a2_5, .bool a2_6, .bool a2_7, .int .i64 a2_8, .int .i64 a2_9, .int .i64 a2_10, .int .i64 a2_11, .int .i64 a2_12]) (t := 34) ?hr ?_; (case hd => rfl); (case hg => rfl); (case hr => first | (go_simp; done) | (go_simp; rfl)); intro gb1 hg w5 hbox hb; have n0_ := Aside0.mk (below_step (by repeat (first | (with_reducible first | exact HB.out | apply below_alloc | apply pw_below_drewN | apply below_drew1) | exact HB.out)) hb); have n1_ := Aside0.mk (hbox); have n2_ := Aside0.mk ((by rw [hg]; exact (below_size (by repeat (first | (with_reducible first | exact HB.out | apply below_alloc | apply pw_below_drewN | apply below_drew1) | exact HB.out))) : w.heap.size ≤ gb1)); have n3_ := Aside0.mk ((by rw [hg]; exact (below_size (by repeat (first | (with_reducible first | exact HB.out | apply below_alloc | apply pw_below_drewN | apply below_drew1) | exact HB.out))) : w.heap.size ≤ gb1)); clear HB; have HB := n0_; have BK1 := n1_; have GW1 := n2_; have GE1 := n3_; clear n0_ n1_ n2_ n3_; clear hb hbox hg) | ((with_reducible refine gate_dst (N := 7) rfl ?_); refine box_event ?hg (N := 7) ?hd (cs := #[.bool a3_0, .bool a3_1, .bool a3_2, .bool a3_3, .bool a3_4, .bool a3_5, .bool a3_6, .bool a3_7, .int .i64 a3_8, .int .i64 a3_9, .int .i64 a3_10, .int .i64 a3_11, .int .i64 a3_12]) (t := 34) ?hr ?_; (case hd => rfl); (case hg => rfl); (case hr => first | (go_simp; done) | (go_simp; rfl)); intro gb2 hg w6 hbox hb; have n0_ := Aside0.mk (blk_below (g := gb1) (o := .cells #[.bool a2_0, .bool a2_1, .bool a2_2, .bool a2_3, .bool a2_4, .bool a2_5, .bool a2_6, .bool a2_7, .int .i64 a2_8, .int .i64 a2_9, .int .i64 a2_10, .int .i64 a2_11, .int .i64 a2_12] 34 (0, 0)) (by (with_reducible repeat (first | refine blk_drewN ?_ _ | refine blk_drew ?_ | refine blk_alloc ?_ _)); exact BK1.out) hb); have n1_ := Aside0.mk (below_step (by repeat (first | (with_reducible first | exact HB.out | apply below_alloc | apply pw_below_drewN | apply below_drew1 | refine below_set ?_ GE1.out) | exact HB.out)) hb); have n2_ := Aside0.mk (hbox); have n3_ := Aside0.mk ((by rw [hg]; exact (below_size (by repeat (first | (with_reducible first | exact HB.out | apply below_alloc | apply pw_below_drewN | apply below_drew1 | refine below_set ?_ GE1.out) | exact HB.out))) : w.heap.size ≤ gb2)); have n4_ := Aside0.mk ((by rw [hg]; exact (below_size (by repeat (first | (with_reducible first | exact HB.out | apply below_alloc | apply pw_below_drewN | apply below_drew1 | refine below_set ?_ GE1.out) | exact HB.out))) : w.heap.size ≤ gb2)); have n5_ := Aside0.mk ((by rw [hg]; exact Nat.ne_of_lt (blk_lt (g := gb1) (o := .cells #[.bool a2_0, .bool a2_1, .bool a2_2, .bool a2_3, .bool a2_4, .bool a2_5, .bool a2_6, .bool a2_7, .int .i64 a2_8, .int .i64 a2_9, .int .i64 a2_10, .int .i64 a2_11, .int .i64 a2_12] 34 (0, 0)) (by (with_reducible repeat (first | refine blk_drewN ?_ _ | refine blk_drew ?_ | refine blk_alloc ?_ _)); exact BK1.out)) : gb1 ≠ gb2)); have n6_ := Aside0.mk ((by rw [hg]; exact Nat.ne_of_gt (blk_lt (g := gb1) (o := .cells #[.bool a2_0, .bool a2_1, .bool a2_2, .bool a2_3, .bool a2_4, .bool a2_5, .bool a2_6, .bool a2_7, .int .i64 a2_8, .int .i64 a2_9, .int .i64 a2_10, .int .i64 a2_11, .int .i64 a2_12] 34 (0, 0)) (by (with_reducible repeat (first | refine blk_drewN ?_ _ | refine blk_drew ?_ | refine blk_alloc ?_ _)); exact BK1.out)) : gb2 ≠ gb1)); clear BK1; clear HB; have BK1 := n0_; have HB := n1_; have BK2 := n2_; have GW2 := n3_; have GE2 := n4_; have NB1_2 := n5_; have NB2_1 := n6_; clear n0_ n1_ n2_ n3_ n4_ n5_ n6_; clear hb hbox hg))
  go_ret
  exact ⟨by first | rfl | (simp [errW_none, errW_some] <;> rfl) | (simp [*, errW_none, errW_some] <;> rfl), by repeat (first | (with_reducible first | exact HB.out | apply below_alloc | apply pw_below_drewN | apply below_drew1 | refine below_set ?_ GE1.out | refine below_set ?_ GE2.out) | exact HB.out)⟩
end Go.Proofs.YtebfpnbnoinhbaaGreatDoor.Q
namespace Go.Proofs.YtebfpnbnoinhbaaGreatDoor.Q
open Go.RowKit Go.Proofs.YtebfpnbnoinhbaaGreatDoorW.PrintWords Go.Proofs.YtebfpnbnoinhbaaGreatDoorW.PrintLast Go.Proofs.YtebfpnbnoinhbaaGreatDoorW.PrintMore
attribute [local go_sem] max2_int max_two
set_option linter.unusedVariables false
set_option linter.unusedSimpArgs false
def policy_rulings_2.f (a0 : Int) (a1 : Int) (a2_0 : Bool) (a2_1 : Bool) (a2_2 : Bool) (a2_3 : Bool) (a2_4 : Bool) (a2_5 : Bool) (a2_6 : Bool) (a2_7 : Bool) (a2_8 : Int) (a2_9 : Int) (a2_10 : Int) (a2_11 : Int) (a2_12 : Int) (a3_0 : Bool) (a3_1 : Bool) (a3_2 : Bool) (a3_3 : Bool) (a3_4 : Bool) (a3_5 : Bool) (a3_6 : Bool) (a3_7 : Bool) (a3_8 : Int) (a3_9 : Int) (a3_10 : Int) (a3_11 : Int) (a3_12 : Int) : Option (Bool) := some a2_1
set_option maxHeartbeats 8000000 in
set_option maxRecDepth 100000 in
theorem policy_rulings_2.calls (a0 : Int) (a1 : Int) (a2_0 : Bool) (a2_1 : Bool) (a2_2 : Bool) (a2_3 : Bool) (a2_4 : Bool) (a2_5 : Bool) (a2_6 : Bool) (a2_7 : Bool) (a2_8 : Int) (a2_9 : Int) (a2_10 : Int) (a2_11 : Int) (a2_12 : Int) (a3_0 : Bool) (a3_1 : Bool) (a3_2 : Bool) (a3_3 : Bool) (a3_4 : Bool) (a3_5 : Bool) (a3_6 : Bool) (a3_7 : Bool) (a3_8 : Int) (a3_9 : Int) (a3_10 : Int) (a3_11 : Int) (a3_12 : Int) (r : Bool) (w : World) (h : policy_rulings_2.f a0 a1 a2_0 a2_1 a2_2 a2_3 a2_4 a2_5 a2_6 a2_7 a2_8 a2_9 a2_10 a2_11 a2_12 a3_0 a3_1 a3_2 a3_3 a3_4 a3_5 a3_6 a3_7 a3_8 a3_9 a3_10 a3_11 a3_12 = some r) :
    Calls Tryz.prog 64 #[.int .i64 a0, .int .i64 a1, .agg #[.bool a2_0, .bool a2_1, .bool a2_2, .bool a2_3, .bool a2_4, .bool a2_5, .bool a2_6, .bool a2_7, .int .i64 a2_8, .int .i64 a2_9, .int .i64 a2_10, .int .i64 a2_11, .int .i64 a2_12], .agg #[.bool a3_0, .bool a3_1, .bool a3_2, .bool a3_3, .bool a3_4, .bool a3_5, .bool a3_6, .bool a3_7, .int .i64 a3_8, .int .i64 a3_9, .int .i64 a3_10, .int .i64 a3_11, .int .i64 a3_12]] w fun e w' => e = .returned (.bool r) ∧ Below w.heap.size w w' := by
  have hu34 := Tryz.underlying34
  have HB := Aside0.mk (Below.refl w.heap.size w)
  have H : (some a2_1) = some r := h
  clear h
  obtain rfl := Option.some.inj H
  go_enter Tryz.func64, Tryz.ntmps64
  go_wp2_with (first | ((with_reducible refine gate_dst (N := 6) rfl ?_); refine box_event ?hg (N := 6) ?hd (cs := #[.bool a2_0, .bool a2_1, .bool a2_2, .bool a2_3, .bool a2_4, .bool a2_5, .bool a2_6, .bool a2_7, .int .i64 a2_8, .int .i64 a2_9, .int .i64 a2_10, .int .i64 a2_11, .int .i64 a2_12]) (t := 34) ?hr ?_; (case hd => rfl); (case hg => rfl); (case hr => first | (go_simp; done) | (go_simp; rfl)); intro gb1 hg w5 hbox hb; have n0_ := Aside0.mk (below_step (by repeat (first | (with_reducible first | exact HB.out | apply below_alloc | apply pw_below_drewN | apply below_drew1) | exact HB.out)) hb); have n1_ := Aside0.mk (hbox); have n2_ := Aside0.mk ((by rw [hg]; exact (below_size (by repeat (first | (with_reducible first | exact HB.out | apply below_alloc | apply pw_below_drewN | apply below_drew1) | exact HB.out))) : w.heap.size ≤ gb1)); have n3_ := Aside0.mk ((by rw [hg]; exact (below_size (by repeat (first | (with_reducible first | exact HB.out | apply below_alloc | apply pw_below_drewN | apply below_drew1) | exact HB.out))) : w.heap.size ≤ gb1)); clear HB; have HB := n0_; have BK1 := n1_; have GW1 := n2_; have GE1 := n3_; clear n0_ n1_ n2_ n3_; clear hb hbox hg) | ((with_reducible refine gate_dst (N := 7) rfl ?_); refine box_event ?hg (N := 7) ?hd (cs := #[.bool a3_0, .bool a3_1, .bool a3_2, .bool a3_3, .bool a3_4, .bool a3_5, .bool a3_6, .bool a3_7, .int .i64 a3_8, .int .i64 a3_9, .int .i64 a3_10, .int .i64 a3_11, .int .i64 a3_12]) (t := 34) ?hr ?_; (case hd => rfl); (case hg => rfl); (case hr => first | (go_simp; done) | (go_simp; rfl)); intro gb2 hg w6 hbox hb; have n0_ := Aside0.mk (blk_below (g := gb1) (o := .cells #[.bool a2_0, .bool a2_1, .bool a2_2, .bool a2_3, .bool a2_4, .bool a2_5, .bool a2_6, .bool a2_7, .int .i64 a2_8, .int .i64 a2_9, .int .i64 a2_10, .int .i64 a2_11, .int .i64 a2_12] 34 (0, 0)) (by (with_reducible repeat (first | refine blk_drewN ?_ _ | refine blk_drew ?_ | refine blk_alloc ?_ _)); exact BK1.out) hb); have n1_ := Aside0.mk (below_step (by repeat (first | (with_reducible first | exact HB.out | apply below_alloc | apply pw_below_drewN | apply below_drew1 | refine below_set ?_ GE1.out) | exact HB.out)) hb); have n2_ := Aside0.mk (hbox); have n3_ := Aside0.mk ((by rw [hg]; exact (below_size (by repeat (first | (with_reducible first | exact HB.out | apply below_alloc | apply pw_below_drewN | apply below_drew1 | refine below_set ?_ GE1.out) | exact HB.out))) : w.heap.size ≤ gb2)); have n4_ := Aside0.mk ((by rw [hg]; exact (below_size (by repeat (first | (with_reducible first | exact HB.out | apply below_alloc | apply pw_below_drewN | apply below_drew1 | refine below_set ?_ GE1.out) | exact HB.out))) : w.heap.size ≤ gb2)); have n5_ := Aside0.mk ((by rw [hg]; exact Nat.ne_of_lt (blk_lt (g := gb1) (o := .cells #[.bool a2_0, .bool a2_1, .bool a2_2, .bool a2_3, .bool a2_4, .bool a2_5, .bool a2_6, .bool a2_7, .int .i64 a2_8, .int .i64 a2_9, .int .i64 a2_10, .int .i64 a2_11, .int .i64 a2_12] 34 (0, 0)) (by (with_reducible repeat (first | refine blk_drewN ?_ _ | refine blk_drew ?_ | refine blk_alloc ?_ _)); exact BK1.out)) : gb1 ≠ gb2)); have n6_ := Aside0.mk ((by rw [hg]; exact Nat.ne_of_gt (blk_lt (g := gb1) (o := .cells #[.bool a2_0, .bool a2_1, .bool a2_2, .bool a2_3, .bool a2_4, .bool a2_5, .bool a2_6, .bool a2_7, .int .i64 a2_8, .int .i64 a2_9, .int .i64 a2_10, .int .i64 a2_11, .int .i64 a2_12] 34 (0, 0)) (by (with_reducible repeat (first | refine blk_drewN ?_ _ | refine blk_drew ?_ | refine blk_alloc ?_ _)); exact BK1.out)) : gb2 ≠ gb1)); clear BK1; clear HB; have BK1 := n0_; have HB := n1_; have BK2 := n2_; have GW2 := n3_; have GE2 := n4_; have NB1_2 := n5_; have NB2_1 := n6_; clear n0_ n1_ n2_ n3_ n4_ n5_ n6_; clear hb hbox hg; have hnb7 := NB1_2.out; have hnc7 := NB2_1.out; have hcz8_0 : w6.cell? ⟨gb1, 0, none⟩ = some (.bool a2_0) := (blk_cell BK1.out 0).trans rfl; have hcz8_1 : w6.cell? ⟨gb1, 1, none⟩ = some (.bool a2_1) := (blk_cell BK1.out 1).trans rfl; have hcz8_2 : w6.cell? ⟨gb1, 2, none⟩ = some (.bool a2_2) := (blk_cell BK1.out 2).trans rfl; have hcz8_3 : w6.cell? ⟨gb1, 3, none⟩ = some (.bool a2_3) := (blk_cell BK1.out 3).trans rfl; have hcz8_4 : w6.cell? ⟨gb1, 4, none⟩ = some (.bool a2_4) := (blk_cell BK1.out 4).trans rfl; have hcz8_5 : w6.cell? ⟨gb1, 5, none⟩ = some (.bool a2_5) := (blk_cell BK1.out 5).trans rfl; have hcz8_6 : w6.cell? ⟨gb1, 6, none⟩ = some (.bool a2_6) := (blk_cell BK1.out 6).trans rfl; have hcz8_7 : w6.cell? ⟨gb1, 7, none⟩ = some (.bool a2_7) := (blk_cell BK1.out 7).trans rfl; have hcz8_8 : w6.cell? ⟨gb1, 8, none⟩ = some (.int .i64 a2_8) := (blk_cell BK1.out 8).trans rfl; have hcz8_9 : w6.cell? ⟨gb1, 9, none⟩ = some (.int .i64 a2_9) := (blk_cell BK1.out 9).trans rfl; have hcz8_10 : w6.cell? ⟨gb1, 10, none⟩ = some (.int .i64 a2_10) := (blk_cell BK1.out 10).trans rfl; have hcz8_11 : w6.cell? ⟨gb1, 11, none⟩ = some (.int .i64 a2_11) := (blk_cell BK1.out 11).trans rfl; have hcz8_12 : w6.cell? ⟨gb1, 12, none⟩ = some (.int .i64 a2_12) := (blk_cell BK1.out 12).trans rfl; have hfz8_0 := blk_frozen BK1.out 0; have hfz8_1 := blk_frozen BK1.out 1; have hfz8_2 := blk_frozen BK1.out 2; have hfz8_3 := blk_frozen BK1.out 3; have hfz8_4 := blk_frozen BK1.out 4; have hfz8_5 := blk_frozen BK1.out 5; have hfz8_6 := blk_frozen BK1.out 6; have hfz8_7 := blk_frozen BK1.out 7; have hfz8_8 := blk_frozen BK1.out 8; have hfz8_9 := blk_frozen BK1.out 9; have hfz8_10 := blk_frozen BK1.out 10; have hfz8_11 := blk_frozen BK1.out 11; have hfz8_12 := blk_frozen BK1.out 12))
  go_ret
  exact ⟨by first | rfl | (simp [errW_none, errW_some] <;> rfl) | (simp [*, errW_none, errW_some] <;> rfl), by repeat (first | (with_reducible first | exact HB.out | apply below_alloc | apply pw_below_drewN | apply below_drew1 | refine below_set ?_ GE1.out | refine below_set ?_ GE2.out) | exact HB.out)⟩
end Go.Proofs.YtebfpnbnoinhbaaGreatDoor.Q
namespace Go.Proofs.YtebfpnbnoinhbaaGreatDoor.Q
open Go.RowKit Go.Proofs.YtebfpnbnoinhbaaGreatDoorW.PrintWords Go.Proofs.YtebfpnbnoinhbaaGreatDoorW.PrintLast Go.Proofs.YtebfpnbnoinhbaaGreatDoorW.PrintMore
attribute [local go_sem] max2_int max_two
set_option linter.unusedVariables false
set_option linter.unusedSimpArgs false
def policy_rulings_3.f (a0 : Int) (a1 : Int) (a2_0 : Bool) (a2_1 : Bool) (a2_2 : Bool) (a2_3 : Bool) (a2_4 : Bool) (a2_5 : Bool) (a2_6 : Bool) (a2_7 : Bool) (a2_8 : Int) (a2_9 : Int) (a2_10 : Int) (a2_11 : Int) (a2_12 : Int) (a3_0 : Bool) (a3_1 : Bool) (a3_2 : Bool) (a3_3 : Bool) (a3_4 : Bool) (a3_5 : Bool) (a3_6 : Bool) (a3_7 : Bool) (a3_8 : Int) (a3_9 : Int) (a3_10 : Int) (a3_11 : Int) (a3_12 : Int) : Option (Bool) := if a0 < a1 then (some a2_6) else (some false)
set_option maxHeartbeats 8000000 in
set_option maxRecDepth 100000 in
theorem policy_rulings_3.calls (a0 : Int) (a1 : Int) (a2_0 : Bool) (a2_1 : Bool) (a2_2 : Bool) (a2_3 : Bool) (a2_4 : Bool) (a2_5 : Bool) (a2_6 : Bool) (a2_7 : Bool) (a2_8 : Int) (a2_9 : Int) (a2_10 : Int) (a2_11 : Int) (a2_12 : Int) (a3_0 : Bool) (a3_1 : Bool) (a3_2 : Bool) (a3_3 : Bool) (a3_4 : Bool) (a3_5 : Bool) (a3_6 : Bool) (a3_7 : Bool) (a3_8 : Int) (a3_9 : Int) (a3_10 : Int) (a3_11 : Int) (a3_12 : Int) (r : Bool) (w : World) (h : policy_rulings_3.f a0 a1 a2_0 a2_1 a2_2 a2_3 a2_4 a2_5 a2_6 a2_7 a2_8 a2_9 a2_10 a2_11 a2_12 a3_0 a3_1 a3_2 a3_3 a3_4 a3_5 a3_6 a3_7 a3_8 a3_9 a3_10 a3_11 a3_12 = some r) :
    Calls Tryz.prog 65 #[.int .i64 a0, .int .i64 a1, .agg #[.bool a2_0, .bool a2_1, .bool a2_2, .bool a2_3, .bool a2_4, .bool a2_5, .bool a2_6, .bool a2_7, .int .i64 a2_8, .int .i64 a2_9, .int .i64 a2_10, .int .i64 a2_11, .int .i64 a2_12], .agg #[.bool a3_0, .bool a3_1, .bool a3_2, .bool a3_3, .bool a3_4, .bool a3_5, .bool a3_6, .bool a3_7, .int .i64 a3_8, .int .i64 a3_9, .int .i64 a3_10, .int .i64 a3_11, .int .i64 a3_12]] w fun e w' => e = .returned (.bool r) ∧ Below w.heap.size w w' := by
  have hu34 := Tryz.underlying34
  have HB := Aside0.mk (Below.refl w.heap.size w)
  have H : (if a0 < a1 then (some a2_6) else (some false)) = some r := h
  clear h
  by_cases c5 : a0 < a1
  · rw [if_pos c5] at H
    have c5b0 : decide (a0 < a1) = true := decide_eq_true c5
    clear c5
    obtain rfl := Option.some.inj H
    go_enter Tryz.func65, Tryz.ntmps65
    go_wp2_with (first | ((with_reducible refine gate_dst (N := 6) rfl ?_); refine box_event ?hg (N := 6) ?hd (cs := #[.bool a2_0, .bool a2_1, .bool a2_2, .bool a2_3, .bool a2_4, .bool a2_5, .bool a2_6, .bool a2_7, .int .i64 a2_8, .int .i64 a2_9, .int .i64 a2_10, .int .i64 a2_11, .int .i64 a2_12]) (t := 34) ?hr ?_; (case hd => rfl); (case hg => rfl); (case hr => first | (go_simp; done) | (go_simp; rfl)); intro gb1 hg w6 hbox hb; have n0_ := Aside0.mk (below_step (by repeat (first | (with_reducible first | exact HB.out | apply below_alloc | apply pw_below_drewN | apply below_drew1) | exact HB.out)) hb); have n1_ := Aside0.mk (hbox); have n2_ := Aside0.mk ((by rw [hg]; exact (below_size (by repeat (first | (with_reducible first | exact HB.out | apply below_alloc | apply pw_below_drewN | apply below_drew1) | exact HB.out))) : w.heap.size ≤ gb1)); have n3_ := Aside0.mk ((by rw [hg]; exact (below_size (by repeat (first | (with_reducible first | exact HB.out | apply below_alloc | apply pw_below_drewN | apply below_drew1) | exact HB.out))) : w.heap.size ≤ gb1)); clear HB; have HB := n0_; have BK1 := n1_; have GW1 := n2_; have GE1 := n3_; clear n0_ n1_ n2_ n3_; clear hb hbox hg) | ((with_reducible refine gate_dst (N := 7) rfl ?_); refine box_event ?hg (N := 7) ?hd (cs := #[.bool a3_0, .bool a3_1, .bool a3_2, .bool a3_3, .bool a3_4, .bool a3_5, .bool a3_6, .bool a3_7, .int .i64 a3_8, .int .i64 a3_9, .int .i64 a3_10, .int .i64 a3_11, .int .i64 a3_12]) (t := 34) ?hr ?_; (case hd => rfl); (case hg => rfl); (case hr => first | (go_simp; done) | (go_simp; rfl)); intro gb2 hg w7 hbox hb; have n0_ := Aside0.mk (blk_below (g := gb1) (o := .cells #[.bool a2_0, .bool a2_1, .bool a2_2, .bool a2_3, .bool a2_4, .bool a2_5, .bool a2_6, .bool a2_7, .int .i64 a2_8, .int .i64 a2_9, .int .i64 a2_10, .int .i64 a2_11, .int .i64 a2_12] 34 (0, 0)) (by (with_reducible repeat (first | refine blk_drewN ?_ _ | refine blk_drew ?_ | refine blk_alloc ?_ _)); exact BK1.out) hb); have n1_ := Aside0.mk (below_step (by repeat (first | (with_reducible first | exact HB.out | apply below_alloc | apply pw_below_drewN | apply below_drew1 | refine below_set ?_ GE1.out) | exact HB.out)) hb); have n2_ := Aside0.mk (hbox); have n3_ := Aside0.mk ((by rw [hg]; exact (below_size (by repeat (first | (with_reducible first | exact HB.out | apply below_alloc | apply pw_below_drewN | apply below_drew1 | refine below_set ?_ GE1.out) | exact HB.out))) : w.heap.size ≤ gb2)); have n4_ := Aside0.mk ((by rw [hg]; exact (below_size (by repeat (first | (with_reducible first | exact HB.out | apply below_alloc | apply pw_below_drewN | apply below_drew1 | refine below_set ?_ GE1.out) | exact HB.out))) : w.heap.size ≤ gb2)); have n5_ := Aside0.mk ((by rw [hg]; exact Nat.ne_of_lt (blk_lt (g := gb1) (o := .cells #[.bool a2_0, .bool a2_1, .bool a2_2, .bool a2_3, .bool a2_4, .bool a2_5, .bool a2_6, .bool a2_7, .int .i64 a2_8, .int .i64 a2_9, .int .i64 a2_10, .int .i64 a2_11, .int .i64 a2_12] 34 (0, 0)) (by (with_reducible repeat (first | refine blk_drewN ?_ _ | refine blk_drew ?_ | refine blk_alloc ?_ _)); exact BK1.out)) : gb1 ≠ gb2)); have n6_ := Aside0.mk ((by rw [hg]; exact Nat.ne_of_gt (blk_lt (g := gb1) (o := .cells #[.bool a2_0, .bool a2_1, .bool a2_2, .bool a2_3, .bool a2_4, .bool a2_5, .bool a2_6, .bool a2_7, .int .i64 a2_8, .int .i64 a2_9, .int .i64 a2_10, .int .i64 a2_11, .int .i64 a2_12] 34 (0, 0)) (by (with_reducible repeat (first | refine blk_drewN ?_ _ | refine blk_drew ?_ | refine blk_alloc ?_ _)); exact BK1.out)) : gb2 ≠ gb1)); clear BK1; clear HB; have BK1 := n0_; have HB := n1_; have BK2 := n2_; have GW2 := n3_; have GE2 := n4_; have NB1_2 := n5_; have NB2_1 := n6_; clear n0_ n1_ n2_ n3_ n4_ n5_ n6_; clear hb hbox hg; have hnb8 := NB1_2.out; have hnc8 := NB2_1.out; have hcz9_0 : w7.cell? ⟨gb1, 0, none⟩ = some (.bool a2_0) := (blk_cell BK1.out 0).trans rfl; have hcz9_1 : w7.cell? ⟨gb1, 1, none⟩ = some (.bool a2_1) := (blk_cell BK1.out 1).trans rfl; have hcz9_2 : w7.cell? ⟨gb1, 2, none⟩ = some (.bool a2_2) := (blk_cell BK1.out 2).trans rfl; have hcz9_3 : w7.cell? ⟨gb1, 3, none⟩ = some (.bool a2_3) := (blk_cell BK1.out 3).trans rfl; have hcz9_4 : w7.cell? ⟨gb1, 4, none⟩ = some (.bool a2_4) := (blk_cell BK1.out 4).trans rfl; have hcz9_5 : w7.cell? ⟨gb1, 5, none⟩ = some (.bool a2_5) := (blk_cell BK1.out 5).trans rfl; have hcz9_6 : w7.cell? ⟨gb1, 6, none⟩ = some (.bool a2_6) := (blk_cell BK1.out 6).trans rfl; have hcz9_7 : w7.cell? ⟨gb1, 7, none⟩ = some (.bool a2_7) := (blk_cell BK1.out 7).trans rfl; have hcz9_8 : w7.cell? ⟨gb1, 8, none⟩ = some (.int .i64 a2_8) := (blk_cell BK1.out 8).trans rfl; have hcz9_9 : w7.cell? ⟨gb1, 9, none⟩ = some (.int .i64 a2_9) := (blk_cell BK1.out 9).trans rfl; have hcz9_10 : w7.cell? ⟨gb1, 10, none⟩ = some (.int .i64 a2_10) := (blk_cell BK1.out 10).trans rfl; have hcz9_11 : w7.cell? ⟨gb1, 11, none⟩ = some (.int .i64 a2_11) := (blk_cell BK1.out 11).trans rfl; have hcz9_12 : w7.cell? ⟨gb1, 12, none⟩ = some (.int .i64 a2_12) := (blk_cell BK1.out 12).trans rfl; have hfz9_0 := blk_frozen BK1.out 0; have hfz9_1 := blk_frozen BK1.out 1; have hfz9_2 := blk_frozen BK1.out 2; have hfz9_3 := blk_frozen BK1.out 3; have hfz9_4 := blk_frozen BK1.out 4; have hfz9_5 := blk_frozen BK1.out 5; have hfz9_6 := blk_frozen BK1.out 6; have hfz9_7 := blk_frozen BK1.out 7; have hfz9_8 := blk_frozen BK1.out 8; have hfz9_9 := blk_frozen BK1.out 9; have hfz9_10 := blk_frozen BK1.out 10; have hfz9_11 := blk_frozen BK1.out 11; have hfz9_12 := blk_frozen BK1.out 12))
    go_ret
    exact ⟨by first | rfl | (simp [errW_none, errW_some] <;> rfl) | (simp [*, errW_none, errW_some] <;> rfl), by repeat (first | (with_reducible first | exact HB.out | apply below_alloc | apply pw_below_drewN | apply below_drew1 | refine below_set ?_ GE1.out | refine below_set ?_ GE2.out) | exact HB.out)⟩
  · rw [if_neg c5] at H
    have c5b0 : decide (a0 < a1) = false := decide_eq_false c5
    clear c5
    obtain rfl := Option.some.inj H
    go_enter Tryz.func65, Tryz.ntmps65
    go_wp2_with (first | ((with_reducible refine gate_dst (N := 6) rfl ?_); refine box_event ?hg (N := 6) ?hd (cs := #[.bool a2_0, .bool a2_1, .bool a2_2, .bool a2_3, .bool a2_4, .bool a2_5, .bool a2_6, .bool a2_7, .int .i64 a2_8, .int .i64 a2_9, .int .i64 a2_10, .int .i64 a2_11, .int .i64 a2_12]) (t := 34) ?hr ?_; (case hd => rfl); (case hg => rfl); (case hr => first | (go_simp; done) | (go_simp; rfl)); intro gb1 hg w10 hbox hb; have n0_ := Aside0.mk (below_step (by repeat (first | (with_reducible first | exact HB.out | apply below_alloc | apply pw_below_drewN | apply below_drew1) | exact HB.out)) hb); have n1_ := Aside0.mk (hbox); have n2_ := Aside0.mk ((by rw [hg]; exact (below_size (by repeat (first | (with_reducible first | exact HB.out | apply below_alloc | apply pw_below_drewN | apply below_drew1) | exact HB.out))) : w.heap.size ≤ gb1)); have n3_ := Aside0.mk ((by rw [hg]; exact (below_size (by repeat (first | (with_reducible first | exact HB.out | apply below_alloc | apply pw_below_drewN | apply below_drew1) | exact HB.out))) : w.heap.size ≤ gb1)); clear HB; have HB := n0_; have BK1 := n1_; have GW1 := n2_; have GE1 := n3_; clear n0_ n1_ n2_ n3_; clear hb hbox hg) | ((with_reducible refine gate_dst (N := 7) rfl ?_); refine box_event ?hg (N := 7) ?hd (cs := #[.bool a3_0, .bool a3_1, .bool a3_2, .bool a3_3, .bool a3_4, .bool a3_5, .bool a3_6, .bool a3_7, .int .i64 a3_8, .int .i64 a3_9, .int .i64 a3_10, .int .i64 a3_11, .int .i64 a3_12]) (t := 34) ?hr ?_; (case hd => rfl); (case hg => rfl); (case hr => first | (go_simp; done) | (go_simp; rfl)); intro gb2 hg w11 hbox hb; have n0_ := Aside0.mk (blk_below (g := gb1) (o := .cells #[.bool a2_0, .bool a2_1, .bool a2_2, .bool a2_3, .bool a2_4, .bool a2_5, .bool a2_6, .bool a2_7, .int .i64 a2_8, .int .i64 a2_9, .int .i64 a2_10, .int .i64 a2_11, .int .i64 a2_12] 34 (0, 0)) (by (with_reducible repeat (first | refine blk_drewN ?_ _ | refine blk_drew ?_ | refine blk_alloc ?_ _)); exact BK1.out) hb); have n1_ := Aside0.mk (below_step (by repeat (first | (with_reducible first | exact HB.out | apply below_alloc | apply pw_below_drewN | apply below_drew1 | refine below_set ?_ GE1.out) | exact HB.out)) hb); have n2_ := Aside0.mk (hbox); have n3_ := Aside0.mk ((by rw [hg]; exact (below_size (by repeat (first | (with_reducible first | exact HB.out | apply below_alloc | apply pw_below_drewN | apply below_drew1 | refine below_set ?_ GE1.out) | exact HB.out))) : w.heap.size ≤ gb2)); have n4_ := Aside0.mk ((by rw [hg]; exact (below_size (by repeat (first | (with_reducible first | exact HB.out | apply below_alloc | apply pw_below_drewN | apply below_drew1 | refine below_set ?_ GE1.out) | exact HB.out))) : w.heap.size ≤ gb2)); have n5_ := Aside0.mk ((by rw [hg]; exact Nat.ne_of_lt (blk_lt (g := gb1) (o := .cells #[.bool a2_0, .bool a2_1, .bool a2_2, .bool a2_3, .bool a2_4, .bool a2_5, .bool a2_6, .bool a2_7, .int .i64 a2_8, .int .i64 a2_9, .int .i64 a2_10, .int .i64 a2_11, .int .i64 a2_12] 34 (0, 0)) (by (with_reducible repeat (first | refine blk_drewN ?_ _ | refine blk_drew ?_ | refine blk_alloc ?_ _)); exact BK1.out)) : gb1 ≠ gb2)); have n6_ := Aside0.mk ((by rw [hg]; exact Nat.ne_of_gt (blk_lt (g := gb1) (o := .cells #[.bool a2_0, .bool a2_1, .bool a2_2, .bool a2_3, .bool a2_4, .bool a2_5, .bool a2_6, .bool a2_7, .int .i64 a2_8, .int .i64 a2_9, .int .i64 a2_10, .int .i64 a2_11, .int .i64 a2_12] 34 (0, 0)) (by (with_reducible repeat (first | refine blk_drewN ?_ _ | refine blk_drew ?_ | refine blk_alloc ?_ _)); exact BK1.out)) : gb2 ≠ gb1)); clear BK1; clear HB; have BK1 := n0_; have HB := n1_; have BK2 := n2_; have GW2 := n3_; have GE2 := n4_; have NB1_2 := n5_; have NB2_1 := n6_; clear n0_ n1_ n2_ n3_ n4_ n5_ n6_; clear hb hbox hg))
    go_ret
    exact ⟨by first | rfl | (simp [errW_none, errW_some] <;> rfl) | (simp [*, errW_none, errW_some] <;> rfl), by repeat (first | (with_reducible first | exact HB.out | apply below_alloc | apply pw_below_drewN | apply below_drew1 | refine below_set ?_ GE1.out | refine below_set ?_ GE2.out) | exact HB.out)⟩
end Go.Proofs.YtebfpnbnoinhbaaGreatDoor.Q
namespace Go.Proofs.YtebfpnbnoinhbaaGreatDoor.Q
open Go.RowKit Go.Proofs.YtebfpnbnoinhbaaGreatDoorW.PrintWords Go.Proofs.YtebfpnbnoinhbaaGreatDoorW.PrintLast Go.Proofs.YtebfpnbnoinhbaaGreatDoorW.PrintMore
attribute [local go_sem] max2_int max_two
set_option linter.unusedVariables false
set_option linter.unusedSimpArgs false
def policy_rulings_4.f (a0 : Int) (a1 : Int) (a2_0 : Bool) (a2_1 : Bool) (a2_2 : Bool) (a2_3 : Bool) (a2_4 : Bool) (a2_5 : Bool) (a2_6 : Bool) (a2_7 : Bool) (a2_8 : Int) (a2_9 : Int) (a2_10 : Int) (a2_11 : Int) (a2_12 : Int) (a3_0 : Bool) (a3_1 : Bool) (a3_2 : Bool) (a3_3 : Bool) (a3_4 : Bool) (a3_5 : Bool) (a3_6 : Bool) (a3_7 : Bool) (a3_8 : Int) (a3_9 : Int) (a3_10 : Int) (a3_11 : Int) (a3_12 : Int) : Option (Bool) := some a3_1
set_option maxHeartbeats 8000000 in
set_option maxRecDepth 100000 in
theorem policy_rulings_4.calls (a0 : Int) (a1 : Int) (a2_0 : Bool) (a2_1 : Bool) (a2_2 : Bool) (a2_3 : Bool) (a2_4 : Bool) (a2_5 : Bool) (a2_6 : Bool) (a2_7 : Bool) (a2_8 : Int) (a2_9 : Int) (a2_10 : Int) (a2_11 : Int) (a2_12 : Int) (a3_0 : Bool) (a3_1 : Bool) (a3_2 : Bool) (a3_3 : Bool) (a3_4 : Bool) (a3_5 : Bool) (a3_6 : Bool) (a3_7 : Bool) (a3_8 : Int) (a3_9 : Int) (a3_10 : Int) (a3_11 : Int) (a3_12 : Int) (r : Bool) (w : World) (h : policy_rulings_4.f a0 a1 a2_0 a2_1 a2_2 a2_3 a2_4 a2_5 a2_6 a2_7 a2_8 a2_9 a2_10 a2_11 a2_12 a3_0 a3_1 a3_2 a3_3 a3_4 a3_5 a3_6 a3_7 a3_8 a3_9 a3_10 a3_11 a3_12 = some r) :
    Calls Tryz.prog 66 #[.int .i64 a0, .int .i64 a1, .agg #[.bool a2_0, .bool a2_1, .bool a2_2, .bool a2_3, .bool a2_4, .bool a2_5, .bool a2_6, .bool a2_7, .int .i64 a2_8, .int .i64 a2_9, .int .i64 a2_10, .int .i64 a2_11, .int .i64 a2_12], .agg #[.bool a3_0, .bool a3_1, .bool a3_2, .bool a3_3, .bool a3_4, .bool a3_5, .bool a3_6, .bool a3_7, .int .i64 a3_8, .int .i64 a3_9, .int .i64 a3_10, .int .i64 a3_11, .int .i64 a3_12]] w fun e w' => e = .returned (.bool r) ∧ Below w.heap.size w w' := by
  have hu34 := Tryz.underlying34
  have HB := Aside0.mk (Below.refl w.heap.size w)
  have H : (some a3_1) = some r := h
  clear h
  obtain rfl := Option.some.inj H
  go_enter Tryz.func66, Tryz.ntmps66
  go_wp2_with (first | ((with_reducible refine gate_dst (N := 6) rfl ?_); refine box_event ?hg (N := 6) ?hd (cs := #[.bool a2_0, .bool a2_1, .bool a2_2, .bool a2_3, .bool a2_4, .bool a2_5, .bool a2_6, .bool a2_7, .int .i64 a2_8, .int .i64 a2_9, .int .i64 a2_10, .int .i64 a2_11, .int .i64 a2_12]) (t := 34) ?hr ?_; (case hd => rfl); (case hg => rfl); (case hr => first | (go_simp; done) | (go_simp; rfl)); intro gb1 hg w5 hbox hb; have n0_ := Aside0.mk (below_step (by repeat (first | (with_reducible first | exact HB.out | apply below_alloc | apply pw_below_drewN | apply below_drew1) | exact HB.out)) hb); have n1_ := Aside0.mk (hbox); have n2_ := Aside0.mk ((by rw [hg]; exact (below_size (by repeat (first | (with_reducible first | exact HB.out | apply below_alloc | apply pw_below_drewN | apply below_drew1) | exact HB.out))) : w.heap.size ≤ gb1)); have n3_ := Aside0.mk ((by rw [hg]; exact (below_size (by repeat (first | (with_reducible first | exact HB.out | apply below_alloc | apply pw_below_drewN | apply below_drew1) | exact HB.out))) : w.heap.size ≤ gb1)); clear HB; have HB := n0_; have BK1 := n1_; have GW1 := n2_; have GE1 := n3_; clear n0_ n1_ n2_ n3_; clear hb hbox hg) | ((with_reducible refine gate_dst (N := 7) rfl ?_); refine box_event ?hg (N := 7) ?hd (cs := #[.bool a3_0, .bool a3_1, .bool a3_2, .bool a3_3, .bool a3_4, .bool a3_5, .bool a3_6, .bool a3_7, .int .i64 a3_8, .int .i64 a3_9, .int .i64 a3_10, .int .i64 a3_11, .int .i64 a3_12]) (t := 34) ?hr ?_; (case hd => rfl); (case hg => rfl); (case hr => first | (go_simp; done) | (go_simp; rfl)); intro gb2 hg w6 hbox hb; have n0_ := Aside0.mk (blk_below (g := gb1) (o := .cells #[.bool a2_0, .bool a2_1, .bool a2_2, .bool a2_3, .bool a2_4, .bool a2_5, .bool a2_6, .bool a2_7, .int .i64 a2_8, .int .i64 a2_9, .int .i64 a2_10, .int .i64 a2_11, .int .i64 a2_12] 34 (0, 0)) (by (with_reducible repeat (first | refine blk_drewN ?_ _ | refine blk_drew ?_ | refine blk_alloc ?_ _)); exact BK1.out) hb); have n1_ := Aside0.mk (below_step (by repeat (first | (with_reducible first | exact HB.out | apply below_alloc | apply pw_below_drewN | apply below_drew1 | refine below_set ?_ GE1.out) | exact HB.out)) hb); have n2_ := Aside0.mk (hbox); have n3_ := Aside0.mk ((by rw [hg]; exact (below_size (by repeat (first | (with_reducible first | exact HB.out | apply below_alloc | apply pw_below_drewN | apply below_drew1 | refine below_set ?_ GE1.out) | exact HB.out))) : w.heap.size ≤ gb2)); have n4_ := Aside0.mk ((by rw [hg]; exact (below_size (by repeat (first | (with_reducible first | exact HB.out | apply below_alloc | apply pw_below_drewN | apply below_drew1 | refine below_set ?_ GE1.out) | exact HB.out))) : w.heap.size ≤ gb2)); have n5_ := Aside0.mk ((by rw [hg]; exact Nat.ne_of_lt (blk_lt (g := gb1) (o := .cells #[.bool a2_0, .bool a2_1, .bool a2_2, .bool a2_3, .bool a2_4, .bool a2_5, .bool a2_6, .bool a2_7, .int .i64 a2_8, .int .i64 a2_9, .int .i64 a2_10, .int .i64 a2_11, .int .i64 a2_12] 34 (0, 0)) (by (with_reducible repeat (first | refine blk_drewN ?_ _ | refine blk_drew ?_ | refine blk_alloc ?_ _)); exact BK1.out)) : gb1 ≠ gb2)); have n6_ := Aside0.mk ((by rw [hg]; exact Nat.ne_of_gt (blk_lt (g := gb1) (o := .cells #[.bool a2_0, .bool a2_1, .bool a2_2, .bool a2_3, .bool a2_4, .bool a2_5, .bool a2_6, .bool a2_7, .int .i64 a2_8, .int .i64 a2_9, .int .i64 a2_10, .int .i64 a2_11, .int .i64 a2_12] 34 (0, 0)) (by (with_reducible repeat (first | refine blk_drewN ?_ _ | refine blk_drew ?_ | refine blk_alloc ?_ _)); exact BK1.out)) : gb2 ≠ gb1)); clear BK1; clear HB; have BK1 := n0_; have HB := n1_; have BK2 := n2_; have GW2 := n3_; have GE2 := n4_; have NB1_2 := n5_; have NB2_1 := n6_; clear n0_ n1_ n2_ n3_ n4_ n5_ n6_; clear hb hbox hg; have hnb7 := NB2_1.out; have hnc7 := NB1_2.out; have hcz8_0 : w6.cell? ⟨gb2, 0, none⟩ = some (.bool a3_0) := (blk_cell BK2.out 0).trans rfl; have hcz8_1 : w6.cell? ⟨gb2, 1, none⟩ = some (.bool a3_1) := (blk_cell BK2.out 1).trans rfl; have hcz8_2 : w6.cell? ⟨gb2, 2, none⟩ = some (.bool a3_2) := (blk_cell BK2.out 2).trans rfl; have hcz8_3 : w6.cell? ⟨gb2, 3, none⟩ = some (.bool a3_3) := (blk_cell BK2.out 3).trans rfl; have hcz8_4 : w6.cell? ⟨gb2, 4, none⟩ = some (.bool a3_4) := (blk_cell BK2.out 4).trans rfl; have hcz8_5 : w6.cell? ⟨gb2, 5, none⟩ = some (.bool a3_5) := (blk_cell BK2.out 5).trans rfl; have hcz8_6 : w6.cell? ⟨gb2, 6, none⟩ = some (.bool a3_6) := (blk_cell BK2.out 6).trans rfl; have hcz8_7 : w6.cell? ⟨gb2, 7, none⟩ = some (.bool a3_7) := (blk_cell BK2.out 7).trans rfl; have hcz8_8 : w6.cell? ⟨gb2, 8, none⟩ = some (.int .i64 a3_8) := (blk_cell BK2.out 8).trans rfl; have hcz8_9 : w6.cell? ⟨gb2, 9, none⟩ = some (.int .i64 a3_9) := (blk_cell BK2.out 9).trans rfl; have hcz8_10 : w6.cell? ⟨gb2, 10, none⟩ = some (.int .i64 a3_10) := (blk_cell BK2.out 10).trans rfl; have hcz8_11 : w6.cell? ⟨gb2, 11, none⟩ = some (.int .i64 a3_11) := (blk_cell BK2.out 11).trans rfl; have hcz8_12 : w6.cell? ⟨gb2, 12, none⟩ = some (.int .i64 a3_12) := (blk_cell BK2.out 12).trans rfl; have hfz8_0 := blk_frozen BK2.out 0; have hfz8_1 := blk_frozen BK2.out 1; have hfz8_2 := blk_frozen BK2.out 2; have hfz8_3 := blk_frozen BK2.out 3; have hfz8_4 := blk_frozen BK2.out 4; have hfz8_5 := blk_frozen BK2.out 5; have hfz8_6 := blk_frozen BK2.out 6; have hfz8_7 := blk_frozen BK2.out 7; have hfz8_8 := blk_frozen BK2.out 8; have hfz8_9 := blk_frozen BK2.out 9; have hfz8_10 := blk_frozen BK2.out 10; have hfz8_11 := blk_frozen BK2.out 11; have hfz8_12 := blk_frozen BK2.out 12))
  go_ret
  exact ⟨by first | rfl | (simp [errW_none, errW_some] <;> rfl) | (simp [*, errW_none, errW_some] <;> rfl), by repeat (first | (with_reducible first | exact HB.out | apply below_alloc | apply pw_below_drewN | apply below_drew1 | refine below_set ?_ GE1.out | refine below_set ?_ GE2.out) | exact HB.out)⟩
end Go.Proofs.YtebfpnbnoinhbaaGreatDoor.Q
namespace Go.Proofs.YtebfpnbnoinhbaaGreatDoor.Q
open Go.RowKit Go.Proofs.YtebfpnbnoinhbaaGreatDoorW.PrintWords Go.Proofs.YtebfpnbnoinhbaaGreatDoorW.PrintLast Go.Proofs.YtebfpnbnoinhbaaGreatDoorW.PrintMore
attribute [local go_sem] max2_int max_two
set_option linter.unusedVariables false
set_option linter.unusedSimpArgs false
def policy_rulings_5.f (a0 : Int) (a1 : Int) (a2_0 : Bool) (a2_1 : Bool) (a2_2 : Bool) (a2_3 : Bool) (a2_4 : Bool) (a2_5 : Bool) (a2_6 : Bool) (a2_7 : Bool) (a2_8 : Int) (a2_9 : Int) (a2_10 : Int) (a2_11 : Int) (a2_12 : Int) (a3_0 : Bool) (a3_1 : Bool) (a3_2 : Bool) (a3_3 : Bool) (a3_4 : Bool) (a3_5 : Bool) (a3_6 : Bool) (a3_7 : Bool) (a3_8 : Int) (a3_9 : Int) (a3_10 : Int) (a3_11 : Int) (a3_12 : Int) : Option (Bool) := if a3_8 ≥ 0 then (some (decide (a0 > a3_8))) else (some false)
set_option maxHeartbeats 8000000 in
set_option maxRecDepth 100000 in
theorem policy_rulings_5.calls (a0 : Int) (a1 : Int) (a2_0 : Bool) (a2_1 : Bool) (a2_2 : Bool) (a2_3 : Bool) (a2_4 : Bool) (a2_5 : Bool) (a2_6 : Bool) (a2_7 : Bool) (a2_8 : Int) (a2_9 : Int) (a2_10 : Int) (a2_11 : Int) (a2_12 : Int) (a3_0 : Bool) (a3_1 : Bool) (a3_2 : Bool) (a3_3 : Bool) (a3_4 : Bool) (a3_5 : Bool) (a3_6 : Bool) (a3_7 : Bool) (a3_8 : Int) (a3_9 : Int) (a3_10 : Int) (a3_11 : Int) (a3_12 : Int) (r : Bool) (w : World) (h : policy_rulings_5.f a0 a1 a2_0 a2_1 a2_2 a2_3 a2_4 a2_5 a2_6 a2_7 a2_8 a2_9 a2_10 a2_11 a2_12 a3_0 a3_1 a3_2 a3_3 a3_4 a3_5 a3_6 a3_7 a3_8 a3_9 a3_10 a3_11 a3_12 = some r) :
    Calls Tryz.prog 67 #[.int .i64 a0, .int .i64 a1, .agg #[.bool a2_0, .bool a2_1, .bool a2_2, .bool a2_3, .bool a2_4, .bool a2_5, .bool a2_6, .bool a2_7, .int .i64 a2_8, .int .i64 a2_9, .int .i64 a2_10, .int .i64 a2_11, .int .i64 a2_12], .agg #[.bool a3_0, .bool a3_1, .bool a3_2, .bool a3_3, .bool a3_4, .bool a3_5, .bool a3_6, .bool a3_7, .int .i64 a3_8, .int .i64 a3_9, .int .i64 a3_10, .int .i64 a3_11, .int .i64 a3_12]] w fun e w' => e = .returned (.bool r) ∧ Below w.heap.size w w' := by
  have hu34 := Tryz.underlying34
  have HB := Aside0.mk (Below.refl w.heap.size w)
  have H : (if a3_8 ≥ 0 then (some (decide (a0 > a3_8))) else (some false)) = some r := h
  clear h
  by_cases c5 : a3_8 ≥ 0
  · rw [if_pos c5] at H
    have c5b0 : decide (0 ≤ a3_8) = true := decide_eq_true c5
    clear c5
    obtain rfl := Option.some.inj H
    go_enter Tryz.func67, Tryz.ntmps67
    go_wp2_with (first | ((with_reducible refine gate_dst (N := 6) rfl ?_); refine box_event ?hg (N := 6) ?hd (cs := #[.bool a2_0, .bool a2_1, .bool a2_2, .bool a2_3, .bool a2_4, .bool a2_5, .bool a2_6, .bool a2_7, .int .i64 a2_8, .int .i64 a2_9, .int .i64 a2_10, .int .i64 a2_11, .int .i64 a2_12]) (t := 34) ?hr ?_; (case hd => rfl); (case hg => rfl); (case hr => first | (go_simp; done) | (go_simp; rfl)); intro gb1 hg w6 hbox hb; have n0_ := Aside0.mk (below_step (by repeat (first | (with_reducible first | exact HB.out | apply below_alloc | apply pw_below_drewN | apply below_drew1) | exact HB.out)) hb); have n1_ := Aside0.mk (hbox); have n2_ := Aside0.mk ((by rw [hg]; exact (below_size (by repeat (first | (with_reducible first | exact HB.out | apply below_alloc | apply pw_below_drewN | apply below_drew1) | exact HB.out))) : w.heap.size ≤ gb1)); have n3_ := Aside0.mk ((by rw [hg]; exact (below_size (by repeat (first | (with_reducible first | exact HB.out | apply below_alloc | apply pw_below_drewN | apply below_drew1) | exact HB.out))) : w.heap.size ≤ gb1)); clear HB; have HB := n0_; have BK1 := n1_; have GW1 := n2_; have GE1 := n3_; clear n0_ n1_ n2_ n3_; clear hb hbox hg) | ((with_reducible refine gate_dst (N := 7) rfl ?_); refine box_event ?hg (N := 7) ?hd (cs := #[.bool a3_0, .bool a3_1, .bool a3_2, .bool a3_3, .bool a3_4, .bool a3_5, .bool a3_6, .bool a3_7, .int .i64 a3_8, .int .i64 a3_9, .int .i64 a3_10, .int .i64 a3_11, .int .i64 a3_12]) (t := 34) ?hr ?_; (case hd => rfl); (case hg => rfl); (case hr => first | (go_simp; done) | (go_simp; rfl)); intro gb2 hg w7 hbox hb; have n0_ := Aside0.mk (blk_below (g := gb1) (o := .cells #[.bool a2_0, .bool a2_1, .bool a2_2, .bool a2_3, .bool a2_4, .bool a2_5, .bool a2_6, .bool a2_7, .int .i64 a2_8, .int .i64 a2_9, .int .i64 a2_10, .int .i64 a2_11, .int .i64 a2_12] 34 (0, 0)) (by (with_reducible repeat (first | refine blk_drewN ?_ _ | refine blk_drew ?_ | refine blk_alloc ?_ _)); exact BK1.out) hb); have n1_ := Aside0.mk (below_step (by repeat (first | (with_reducible first | exact HB.out | apply below_alloc | apply pw_below_drewN | apply below_drew1 | refine below_set ?_ GE1.out) | exact HB.out)) hb); have n2_ := Aside0.mk (hbox); have n3_ := Aside0.mk ((by rw [hg]; exact (below_size (by repeat (first | (with_reducible first | exact HB.out | apply below_alloc | apply pw_below_drewN | apply below_drew1 | refine below_set ?_ GE1.out) | exact HB.out))) : w.heap.size ≤ gb2)); have n4_ := Aside0.mk ((by rw [hg]; exact (below_size (by repeat (first | (with_reducible first | exact HB.out | apply below_alloc | apply pw_below_drewN | apply below_drew1 | refine below_set ?_ GE1.out) | exact HB.out))) : w.heap.size ≤ gb2)); have n5_ := Aside0.mk ((by rw [hg]; exact Nat.ne_of_lt (blk_lt (g := gb1) (o := .cells #[.bool a2_0, .bool a2_1, .bool a2_2, .bool a2_3, .bool a2_4, .bool a2_5, .bool a2_6, .bool a2_7, .int .i64 a2_8, .int .i64 a2_9, .int .i64 a2_10, .int .i64 a2_11, .int .i64 a2_12] 34 (0, 0)) (by (with_reducible repeat (first | refine blk_drewN ?_ _ | refine blk_drew ?_ | refine blk_alloc ?_ _)); exact BK1.out)) : gb1 ≠ gb2)); have n6_ := Aside0.mk ((by rw [hg]; exact Nat.ne_of_gt (blk_lt (g := gb1) (o := .cells #[.bool a2_0, .bool a2_1, .bool a2_2, .bool a2_3, .bool a2_4, .bool a2_5, .bool a2_6, .bool a2_7, .int .i64 a2_8, .int .i64 a2_9, .int .i64 a2_10, .int .i64 a2_11, .int .i64 a2_12] 34 (0, 0)) (by (with_reducible repeat (first | refine blk_drewN ?_ _ | refine blk_drew ?_ | refine blk_alloc ?_ _)); exact BK1.out)) : gb2 ≠ gb1)); clear BK1; clear HB; have BK1 := n0_; have HB := n1_; have BK2 := n2_; have GW2 := n3_; have GE2 := n4_; have NB1_2 := n5_; have NB2_1 := n6_; clear n0_ n1_ n2_ n3_ n4_ n5_ n6_; clear hb hbox hg; have hnb8 := NB2_1.out; have hnc8 := NB1_2.out; have hcz9_0 : w7.cell? ⟨gb2, 0, none⟩ = some (.bool a3_0) := (blk_cell BK2.out 0).trans rfl; have hcz9_1 : w7.cell? ⟨gb2, 1, none⟩ = some (.bool a3_1) := (blk_cell BK2.out 1).trans rfl; have hcz9_2 : w7.cell? ⟨gb2, 2, none⟩ = some (.bool a3_2) := (blk_cell BK2.out 2).trans rfl; have hcz9_3 : w7.cell? ⟨gb2, 3, none⟩ = some (.bool a3_3) := (blk_cell BK2.out 3).trans rfl; have hcz9_4 : w7.cell? ⟨gb2, 4, none⟩ = some (.bool a3_4) := (blk_cell BK2.out 4).trans rfl; have hcz9_5 : w7.cell? ⟨gb2, 5, none⟩ = some (.bool a3_5) := (blk_cell BK2.out 5).trans rfl; have hcz9_6 : w7.cell? ⟨gb2, 6, none⟩ = some (.bool a3_6) := (blk_cell BK2.out 6).trans rfl; have hcz9_7 : w7.cell? ⟨gb2, 7, none⟩ = some (.bool a3_7) := (blk_cell BK2.out 7).trans rfl; have hcz9_8 : w7.cell? ⟨gb2, 8, none⟩ = some (.int .i64 a3_8) := (blk_cell BK2.out 8).trans rfl; have hcz9_9 : w7.cell? ⟨gb2, 9, none⟩ = some (.int .i64 a3_9) := (blk_cell BK2.out 9).trans rfl; have hcz9_10 : w7.cell? ⟨gb2, 10, none⟩ = some (.int .i64 a3_10) := (blk_cell BK2.out 10).trans rfl; have hcz9_11 : w7.cell? ⟨gb2, 11, none⟩ = some (.int .i64 a3_11) := (blk_cell BK2.out 11).trans rfl; have hcz9_12 : w7.cell? ⟨gb2, 12, none⟩ = some (.int .i64 a3_12) := (blk_cell BK2.out 12).trans rfl; have hfz9_0 := blk_frozen BK2.out 0; have hfz9_1 := blk_frozen BK2.out 1; have hfz9_2 := blk_frozen BK2.out 2; have hfz9_3 := blk_frozen BK2.out 3; have hfz9_4 := blk_frozen BK2.out 4; have hfz9_5 := blk_frozen BK2.out 5; have hfz9_6 := blk_frozen BK2.out 6; have hfz9_7 := blk_frozen BK2.out 7; have hfz9_8 := blk_frozen BK2.out 8; have hfz9_9 := blk_frozen BK2.out 9; have hfz9_10 := blk_frozen BK2.out 10; have hfz9_11 := blk_frozen BK2.out 11; have hfz9_12 := blk_frozen BK2.out 12))
    go_ret
    exact ⟨by first | rfl | (simp [errW_none, errW_some] <;> rfl) | (simp [*, errW_none, errW_some] <;> rfl), by repeat (first | (with_reducible first | exact HB.out | apply below_alloc | apply pw_below_drewN | apply below_drew1 | refine below_set ?_ GE1.out | refine below_set ?_ GE2.out) | exact HB.out)⟩
  · rw [if_neg c5] at H
    have c5b0 : decide (0 ≤ a3_8) = false := decide_eq_false c5
    clear c5
    obtain rfl := Option.some.inj H
    go_enter Tryz.func67, Tryz.ntmps67
    go_wp2_with (first | ((with_reducible refine gate_dst (N := 6) rfl ?_); refine box_event ?hg (N := 6) ?hd (cs := #[.bool a2_0, .bool a2_1, .bool a2_2, .bool a2_3, .bool a2_4, .bool a2_5, .bool a2_6, .bool a2_7, .int .i64 a2_8, .int .i64 a2_9, .int .i64 a2_10, .int .i64 a2_11, .int .i64 a2_12]) (t := 34) ?hr ?_; (case hd => rfl); (case hg => rfl); (case hr => first | (go_simp; done) | (go_simp; rfl)); intro gb1 hg w10 hbox hb; have n0_ := Aside0.mk (below_step (by repeat (first | (with_reducible first | exact HB.out | apply below_alloc | apply pw_below_drewN | apply below_drew1) | exact HB.out)) hb); have n1_ := Aside0.mk (hbox); have n2_ := Aside0.mk ((by rw [hg]; exact (below_size (by repeat (first | (with_reducible first | exact HB.out | apply below_alloc | apply pw_below_drewN | apply below_drew1) | exact HB.out))) : w.heap.size ≤ gb1)); have n3_ := Aside0.mk ((by rw [hg]; exact (below_size (by repeat (first | (with_reducible first | exact HB.out | apply below_alloc | apply pw_below_drewN | apply below_drew1) | exact HB.out))) : w.heap.size ≤ gb1)); clear HB; have HB := n0_; have BK1 := n1_; have GW1 := n2_; have GE1 := n3_; clear n0_ n1_ n2_ n3_; clear hb hbox hg) | ((with_reducible refine gate_dst (N := 7) rfl ?_); refine box_event ?hg (N := 7) ?hd (cs := #[.bool a3_0, .bool a3_1, .bool a3_2, .bool a3_3, .bool a3_4, .bool a3_5, .bool a3_6, .bool a3_7, .int .i64 a3_8, .int .i64 a3_9, .int .i64 a3_10, .int .i64 a3_11, .int .i64 a3_12]) (t := 34) ?hr ?_; (case hd => rfl); (case hg => rfl); (case hr => first | (go_simp; done) | (go_simp; rfl)); intro gb2 hg w11 hbox hb; have n0_ := Aside0.mk (blk_below (g := gb1) (o := .cells #[.bool a2_0, .bool a2_1, .bool a2_2, .bool a2_3, .bool a2_4, .bool a2_5, .bool a2_6, .bool a2_7, .int .i64 a2_8, .int .i64 a2_9, .int .i64 a2_10, .int .i64 a2_11, .int .i64 a2_12] 34 (0, 0)) (by (with_reducible repeat (first | refine blk_drewN ?_ _ | refine blk_drew ?_ | refine blk_alloc ?_ _)); exact BK1.out) hb); have n1_ := Aside0.mk (below_step (by repeat (first | (with_reducible first | exact HB.out | apply below_alloc | apply pw_below_drewN | apply below_drew1 | refine below_set ?_ GE1.out) | exact HB.out)) hb); have n2_ := Aside0.mk (hbox); have n3_ := Aside0.mk ((by rw [hg]; exact (below_size (by repeat (first | (with_reducible first | exact HB.out | apply below_alloc | apply pw_below_drewN | apply below_drew1 | refine below_set ?_ GE1.out) | exact HB.out))) : w.heap.size ≤ gb2)); have n4_ := Aside0.mk ((by rw [hg]; exact (below_size (by repeat (first | (with_reducible first | exact HB.out | apply below_alloc | apply pw_below_drewN | apply below_drew1 | refine below_set ?_ GE1.out) | exact HB.out))) : w.heap.size ≤ gb2)); have n5_ := Aside0.mk ((by rw [hg]; exact Nat.ne_of_lt (blk_lt (g := gb1) (o := .cells #[.bool a2_0, .bool a2_1, .bool a2_2, .bool a2_3, .bool a2_4, .bool a2_5, .bool a2_6, .bool a2_7, .int .i64 a2_8, .int .i64 a2_9, .int .i64 a2_10, .int .i64 a2_11, .int .i64 a2_12] 34 (0, 0)) (by (with_reducible repeat (first | refine blk_drewN ?_ _ | refine blk_drew ?_ | refine blk_alloc ?_ _)); exact BK1.out)) : gb1 ≠ gb2)); have n6_ := Aside0.mk ((by rw [hg]; exact Nat.ne_of_gt (blk_lt (g := gb1) (o := .cells #[.bool a2_0, .bool a2_1, .bool a2_2, .bool a2_3, .bool a2_4, .bool a2_5, .bool a2_6, .bool a2_7, .int .i64 a2_8, .int .i64 a2_9, .int .i64 a2_10, .int .i64 a2_11, .int .i64 a2_12] 34 (0, 0)) (by (with_reducible repeat (first | refine blk_drewN ?_ _ | refine blk_drew ?_ | refine blk_alloc ?_ _)); exact BK1.out)) : gb2 ≠ gb1)); clear BK1; clear HB; have BK1 := n0_; have HB := n1_; have BK2 := n2_; have GW2 := n3_; have GE2 := n4_; have NB1_2 := n5_; have NB2_1 := n6_; clear n0_ n1_ n2_ n3_ n4_ n5_ n6_; clear hb hbox hg; have hnb12 := NB2_1.out; have hnc12 := NB1_2.out; have hcz13_0 : w11.cell? ⟨gb2, 0, none⟩ = some (.bool a3_0) := (blk_cell BK2.out 0).trans rfl; have hcz13_1 : w11.cell? ⟨gb2, 1, none⟩ = some (.bool a3_1) := (blk_cell BK2.out 1).trans rfl; have hcz13_2 : w11.cell? ⟨gb2, 2, none⟩ = some (.bool a3_2) := (blk_cell BK2.out 2).trans rfl; have hcz13_3 : w11.cell? ⟨gb2, 3, none⟩ = some (.bool a3_3) := (blk_cell BK2.out 3).trans rfl; have hcz13_4 : w11.cell? ⟨gb2, 4, none⟩ = some (.bool a3_4) := (blk_cell BK2.out 4).trans rfl; have hcz13_5 : w11.cell? ⟨gb2, 5, none⟩ = some (.bool a3_5) := (blk_cell BK2.out 5).trans rfl; have hcz13_6 : w11.cell? ⟨gb2, 6, none⟩ = some (.bool a3_6) := (blk_cell BK2.out 6).trans rfl; have hcz13_7 : w11.cell? ⟨gb2, 7, none⟩ = some (.bool a3_7) := (blk_cell BK2.out 7).trans rfl; have hcz13_8 : w11.cell? ⟨gb2, 8, none⟩ = some (.int .i64 a3_8) := (blk_cell BK2.out 8).trans rfl; have hcz13_9 : w11.cell? ⟨gb2, 9, none⟩ = some (.int .i64 a3_9) := (blk_cell BK2.out 9).trans rfl; have hcz13_10 : w11.cell? ⟨gb2, 10, none⟩ = some (.int .i64 a3_10) := (blk_cell BK2.out 10).trans rfl; have hcz13_11 : w11.cell? ⟨gb2, 11, none⟩ = some (.int .i64 a3_11) := (blk_cell BK2.out 11).trans rfl; have hcz13_12 : w11.cell? ⟨gb2, 12, none⟩ = some (.int .i64 a3_12) := (blk_cell BK2.out 12).trans rfl; have hfz13_0 := blk_frozen BK2.out 0; have hfz13_1 := blk_frozen BK2.out 1; have hfz13_2 := blk_frozen BK2.out 2; have hfz13_3 := blk_frozen BK2.out 3; have hfz13_4 := blk_frozen BK2.out 4; have hfz13_5 := blk_frozen BK2.out 5; have hfz13_6 := blk_frozen BK2.out 6; have hfz13_7 := blk_frozen BK2.out 7; have hfz13_8 := blk_frozen BK2.out 8; have hfz13_9 := blk_frozen BK2.out 9; have hfz13_10 := blk_frozen BK2.out 10; have hfz13_11 := blk_frozen BK2.out 11; have hfz13_12 := blk_frozen BK2.out 12))
    go_ret
    exact ⟨by first | rfl | (simp [errW_none, errW_some] <;> rfl) | (simp [*, errW_none, errW_some] <;> rfl), by repeat (first | (with_reducible first | exact HB.out | apply below_alloc | apply pw_below_drewN | apply below_drew1 | refine below_set ?_ GE1.out | refine below_set ?_ GE2.out) | exact HB.out)⟩
end Go.Proofs.YtebfpnbnoinhbaaGreatDoor.Q
namespace Go.Proofs.YtebfpnbnoinhbaaGreatDoor.Q
open Go.RowKit Go.Proofs.YtebfpnbnoinhbaaGreatDoorW.PrintWords Go.Proofs.YtebfpnbnoinhbaaGreatDoorW.PrintLast Go.Proofs.YtebfpnbnoinhbaaGreatDoorW.PrintMore
attribute [local go_sem] max2_int max_two
set_option linter.unusedVariables false
set_option linter.unusedSimpArgs false
def policy_rulings_6.f (a0 : Int) (a1 : Int) (a2_0 : Bool) (a2_1 : Bool) (a2_2 : Bool) (a2_3 : Bool) (a2_4 : Bool) (a2_5 : Bool) (a2_6 : Bool) (a2_7 : Bool) (a2_8 : Int) (a2_9 : Int) (a2_10 : Int) (a2_11 : Int) (a2_12 : Int) (a3_0 : Bool) (a3_1 : Bool) (a3_2 : Bool) (a3_3 : Bool) (a3_4 : Bool) (a3_5 : Bool) (a3_6 : Bool) (a3_7 : Bool) (a3_8 : Int) (a3_9 : Int) (a3_10 : Int) (a3_11 : Int) (a3_12 : Int) : Option (Bool) := if a3_11 ≥ 0 then (some (decide ((wrap64 (a1 - a0)) < a3_11))) else (some false)
set_option maxHeartbeats 8000000 in
set_option maxRecDepth 100000 in
theorem policy_rulings_6.calls (a0 : Int) (a1 : Int) (a2_0 : Bool) (a2_1 : Bool) (a2_2 : Bool) (a2_3 : Bool) (a2_4 : Bool) (a2_5 : Bool) (a2_6 : Bool) (a2_7 : Bool) (a2_8 : Int) (a2_9 : Int) (a2_10 : Int) (a2_11 : Int) (a2_12 : Int) (a3_0 : Bool) (a3_1 : Bool) (a3_2 : Bool) (a3_3 : Bool) (a3_4 : Bool) (a3_5 : Bool) (a3_6 : Bool) (a3_7 : Bool) (a3_8 : Int) (a3_9 : Int) (a3_10 : Int) (a3_11 : Int) (a3_12 : Int) (r : Bool) (w : World) (h : policy_rulings_6.f a0 a1 a2_0 a2_1 a2_2 a2_3 a2_4 a2_5 a2_6 a2_7 a2_8 a2_9 a2_10 a2_11 a2_12 a3_0 a3_1 a3_2 a3_3 a3_4 a3_5 a3_6 a3_7 a3_8 a3_9 a3_10 a3_11 a3_12 = some r) :
    Calls Tryz.prog 68 #[.int .i64 a0, .int .i64 a1, .agg #[.bool a2_0, .bool a2_1, .bool a2_2, .bool a2_3, .bool a2_4, .bool a2_5, .bool a2_6, .bool a2_7, .int .i64 a2_8, .int .i64 a2_9, .int .i64 a2_10, .int .i64 a2_11, .int .i64 a2_12], .agg #[.bool a3_0, .bool a3_1, .bool a3_2, .bool a3_3, .bool a3_4, .bool a3_5, .bool a3_6, .bool a3_7, .int .i64 a3_8, .int .i64 a3_9, .int .i64 a3_10, .int .i64 a3_11, .int .i64 a3_12]] w fun e w' => e = .returned (.bool r) ∧ Below w.heap.size w w' := by
  have hu34 := Tryz.underlying34
  have HB := Aside0.mk (Below.refl w.heap.size w)
  have H : (if a3_11 ≥ 0 then (some (decide ((wrap64 (a1 - a0)) < a3_11))) else (some false)) = some r := h
  clear h
  by_cases c5 : a3_11 ≥ 0
  · rw [if_pos c5] at H
    have c5b0 : decide (0 ≤ a3_11) = true := decide_eq_true c5
    clear c5
    obtain rfl := Option.some.inj H
    go_enter Tryz.func68, Tryz.ntmps68
    go_wp2_with (first | ((with_reducible refine gate_dst (N := 6) rfl ?_); refine box_event ?hg (N := 6) ?hd (cs := #[.bool a2_0, .bool a2_1, .bool a2_2, .bool a2_3, .bool a2_4, .bool a2_5, .bool a2_6, .bool a2_7, .int .i64 a2_8, .int .i64 a2_9, .int .i64 a2_10, .int .i64 a2_11, .int .i64 a2_12]) (t := 34) ?hr ?_; (case hd => rfl); (case hg => rfl); (case hr => first | (go_simp; done) | (go_simp; rfl)); intro gb1 hg w6 hbox hb; have n0_ := Aside0.mk (below_step (by repeat (first | (with_reducible first | exact HB.out | apply below_alloc | apply pw_below_drewN | apply below_drew1) | exact HB.out)) hb); have n1_ := Aside0.mk (hbox); have n2_ := Aside0.mk ((by rw [hg]; exact (below_size (by repeat (first | (with_reducible first | exact HB.out | apply below_alloc | apply pw_below_drewN | apply below_drew1) | exact HB.out))) : w.heap.size ≤ gb1)); have n3_ := Aside0.mk ((by rw [hg]; exact (below_size (by repeat (first | (with_reducible first | exact HB.out | apply below_alloc | apply pw_below_drewN | apply below_drew1) | exact HB.out))) : w.heap.size ≤ gb1)); clear HB; have HB := n0_; have BK1 := n1_; have GW1 := n2_; have GE1 := n3_; clear n0_ n1_ n2_ n3_; clear hb hbox hg) | ((with_reducible refine gate_dst (N := 7) rfl ?_); refine box_event ?hg (N := 7) ?hd (cs := #[.bool a3_0, .bool a3_1, .bool a3_2, .bool a3_3, .bool a3_4, .bool a3_5, .bool a3_6, .bool a3_7, .int .i64 a3_8, .int .i64 a3_9, .int .i64 a3_10, .int .i64 a3_11, .int .i64 a3_12]) (t := 34) ?hr ?_; (case hd => rfl); (case hg => rfl); (case hr => first | (go_simp; done) | (go_simp; rfl)); intro gb2 hg w7 hbox hb; have n0_ := Aside0.mk (blk_below (g := gb1) (o := .cells #[.bool a2_0, .bool a2_1, .bool a2_2, .bool a2_3, .bool a2_4, .bool a2_5, .bool a2_6, .bool a2_7, .int .i64 a2_8, .int .i64 a2_9, .int .i64 a2_10, .int .i64 a2_11, .int .i64 a2_12] 34 (0, 0)) (by (with_reducible repeat (first | refine blk_drewN ?_ _ | refine blk_drew ?_ | refine blk_alloc ?_ _)); exact BK1.out) hb); have n1_ := Aside0.mk (below_step (by repeat (first | (with_reducible first | exact HB.out | apply below_alloc | apply pw_below_drewN | apply below_drew1 | refine below_set ?_ GE1.out) | exact HB.out)) hb); have n2_ := Aside0.mk (hbox); have n3_ := Aside0.mk ((by rw [hg]; exact (below_size (by repeat (first | (with_reducible first | exact HB.out | apply below_alloc | apply pw_below_drewN | apply below_drew1 | refine below_set ?_ GE1.out) | exact HB.out))) : w.heap.size ≤ gb2)); have n4_ := Aside0.mk ((by rw [hg]; exact (below_size (by repeat (first | (with_reducible first | exact HB.out | apply below_alloc | apply pw_below_drewN | apply below_drew1 | refine below_set ?_ GE1.out) | exact HB.out))) : w.heap.size ≤ gb2)); have n5_ := Aside0.mk ((by rw [hg]; exact Nat.ne_of_lt (blk_lt (g := gb1) (o := .cells #[.bool a2_0, .bool a2_1, .bool a2_2, .bool a2_3, .bool a2_4, .bool a2_5, .bool a2_6, .bool a2_7, .int .i64 a2_8, .int .i64 a2_9, .int .i64 a2_10, .int .i64 a2_11, .int .i64 a2_12] 34 (0, 0)) (by (with_reducible repeat (first | refine blk_drewN ?_ _ | refine blk_drew ?_ | refine blk_alloc ?_ _)); exact BK1.out)) : gb1 ≠ gb2)); have n6_ := Aside0.mk ((by rw [hg]; exact Nat.ne_of_gt (blk_lt (g := gb1) (o := .cells #[.bool a2_0, .bool a2_1, .bool a2_2, .bool a2_3, .bool a2_4, .bool a2_5, .bool a2_6, .bool a2_7, .int .i64 a2_8, .int .i64 a2_9, .int .i64 a2_10, .int .i64 a2_11, .int .i64 a2_12] 34 (0, 0)) (by (with_reducible repeat (first | refine blk_drewN ?_ _ | refine blk_drew ?_ | refine blk_alloc ?_ _)); exact BK1.out)) : gb2 ≠ gb1)); clear BK1; clear HB; have BK1 := n0_; have HB := n1_; have BK2 := n2_; have GW2 := n3_; have GE2 := n4_; have NB1_2 := n5_; have NB2_1 := n6_; clear n0_ n1_ n2_ n3_ n4_ n5_ n6_; clear hb hbox hg; have hnb8 := NB2_1.out; have hnc8 := NB1_2.out; have hcz9_0 : w7.cell? ⟨gb2, 0, none⟩ = some (.bool a3_0) := (blk_cell BK2.out 0).trans rfl; have hcz9_1 : w7.cell? ⟨gb2, 1, none⟩ = some (.bool a3_1) := (blk_cell BK2.out 1).trans rfl; have hcz9_2 : w7.cell? ⟨gb2, 2, none⟩ = some (.bool a3_2) := (blk_cell BK2.out 2).trans rfl; have hcz9_3 : w7.cell? ⟨gb2, 3, none⟩ = some (.bool a3_3) := (blk_cell BK2.out 3).trans rfl; have hcz9_4 : w7.cell? ⟨gb2, 4, none⟩ = some (.bool a3_4) := (blk_cell BK2.out 4).trans rfl; have hcz9_5 : w7.cell? ⟨gb2, 5, none⟩ = some (.bool a3_5) := (blk_cell BK2.out 5).trans rfl; have hcz9_6 : w7.cell? ⟨gb2, 6, none⟩ = some (.bool a3_6) := (blk_cell BK2.out 6).trans rfl; have hcz9_7 : w7.cell? ⟨gb2, 7, none⟩ = some (.bool a3_7) := (blk_cell BK2.out 7).trans rfl; have hcz9_8 : w7.cell? ⟨gb2, 8, none⟩ = some (.int .i64 a3_8) := (blk_cell BK2.out 8).trans rfl; have hcz9_9 : w7.cell? ⟨gb2, 9, none⟩ = some (.int .i64 a3_9) := (blk_cell BK2.out 9).trans rfl; have hcz9_10 : w7.cell? ⟨gb2, 10, none⟩ = some (.int .i64 a3_10) := (blk_cell BK2.out 10).trans rfl; have hcz9_11 : w7.cell? ⟨gb2, 11, none⟩ = some (.int .i64 a3_11) := (blk_cell BK2.out 11).trans rfl; have hcz9_12 : w7.cell? ⟨gb2, 12, none⟩ = some (.int .i64 a3_12) := (blk_cell BK2.out 12).trans rfl; have hfz9_0 := blk_frozen BK2.out 0; have hfz9_1 := blk_frozen BK2.out 1; have hfz9_2 := blk_frozen BK2.out 2; have hfz9_3 := blk_frozen BK2.out 3; have hfz9_4 := blk_frozen BK2.out 4; have hfz9_5 := blk_frozen BK2.out 5; have hfz9_6 := blk_frozen BK2.out 6; have hfz9_7 := blk_frozen BK2.out 7; have hfz9_8 := blk_frozen BK2.out 8; have hfz9_9 := blk_frozen BK2.out 9; have hfz9_10 := blk_frozen BK2.out 10; have hfz9_11 := blk_frozen BK2.out 11; have hfz9_12 := blk_frozen BK2.out 12))
    go_ret
    exact ⟨by first | rfl | (simp [errW_none, errW_some] <;> rfl) | (simp [*, errW_none, errW_some] <;> rfl), by repeat (first | (with_reducible first | exact HB.out | apply below_alloc | apply pw_below_drewN | apply below_drew1 | refine below_set ?_ GE1.out | refine below_set ?_ GE2.out) | exact HB.out)⟩
  · rw [if_neg c5] at H
    have c5b0 : decide (0 ≤ a3_11) = false := decide_eq_false c5
    clear c5
    obtain rfl := Option.some.inj H
    go_enter Tryz.func68, Tryz.ntmps68
    go_wp2_with (first | ((with_reducible refine gate_dst (N := 6) rfl ?_); refine box_event ?hg (N := 6) ?hd (cs := #[.bool a2_0, .bool a2_1, .bool a2_2, .bool a2_3, .bool a2_4, .bool a2_5, .bool a2_6, .bool a2_7, .int .i64 a2_8, .int .i64 a2_9, .int .i64 a2_10, .int .i64 a2_11, .int .i64 a2_12]) (t := 34) ?hr ?_; (case hd => rfl); (case hg => rfl); (case hr => first | (go_simp; done) | (go_simp; rfl)); intro gb1 hg w10 hbox hb; have n0_ := Aside0.mk (below_step (by repeat (first | (with_reducible first | exact HB.out | apply below_alloc | apply pw_below_drewN | apply below_drew1) | exact HB.out)) hb); have n1_ := Aside0.mk (hbox); have n2_ := Aside0.mk ((by rw [hg]; exact (below_size (by repeat (first | (with_reducible first | exact HB.out | apply below_alloc | apply pw_below_drewN | apply below_drew1) | exact HB.out))) : w.heap.size ≤ gb1)); have n3_ := Aside0.mk ((by rw [hg]; exact (below_size (by repeat (first | (with_reducible first | exact HB.out | apply below_alloc | apply pw_below_drewN | apply below_drew1) | exact HB.out))) : w.heap.size ≤ gb1)); clear HB; have HB := n0_; have BK1 := n1_; have GW1 := n2_; have GE1 := n3_; clear n0_ n1_ n2_ n3_; clear hb hbox hg) | ((with_reducible refine gate_dst (N := 7) rfl ?_); refine box_event ?hg (N := 7) ?hd (cs := #[.bool a3_0, .bool a3_1, .bool a3_2, .bool a3_3, .bool a3_4, .bool a3_5, .bool a3_6, .bool a3_7, .int .i64 a3_8, .int .i64 a3_9, .int .i64 a3_10, .int .i64 a3_11, .int .i64 a3_12]) (t := 34) ?hr ?_; (case hd => rfl); (case hg => rfl); (case hr => first | (go_simp; done) | (go_simp; rfl)); intro gb2 hg w11 hbox hb; have n0_ := Aside0.mk (blk_below (g := gb1) (o := .cells #[.bool a2_0, .bool a2_1, .bool a2_2, .bool a2_3, .bool a2_4, .bool a2_5, .bool a2_6, .bool a2_7, .int .i64 a2_8, .int .i64 a2_9, .int .i64 a2_10, .int .i64 a2_11, .int .i64 a2_12] 34 (0, 0)) (by (with_reducible repeat (first | refine blk_drewN ?_ _ | refine blk_drew ?_ | refine blk_alloc ?_ _)); exact BK1.out) hb); have n1_ := Aside0.mk (below_step (by repeat (first | (with_reducible first | exact HB.out | apply below_alloc | apply pw_below_drewN | apply below_drew1 | refine below_set ?_ GE1.out) | exact HB.out)) hb); have n2_ := Aside0.mk (hbox); have n3_ := Aside0.mk ((by rw [hg]; exact (below_size (by repeat (first | (with_reducible first | exact HB.out | apply below_alloc | apply pw_below_drewN | apply below_drew1 | refine below_set ?_ GE1.out) | exact HB.out))) : w.heap.size ≤ gb2)); have n4_ := Aside0.mk ((by rw [hg]; exact (below_size (by repeat (first | (with_reducible first | exact HB.out | apply below_alloc | apply pw_below_drewN | apply below_drew1 | refine below_set ?_ GE1.out) | exact HB.out))) : w.heap.size ≤ gb2)); have n5_ := Aside0.mk ((by rw [hg]; exact Nat.ne_of_lt (blk_lt (g := gb1) (o := .cells #[.bool a2_0, .bool a2_1, .bool a2_2, .bool a2_3, .bool a2_4, .bool a2_5, .bool a2_6, .bool a2_7, .int .i64 a2_8, .int .i64 a2_9, .int .i64 a2_10, .int .i64 a2_11, .int .i64 a2_12] 34 (0, 0)) (by (with_reducible repeat (first | refine blk_drewN ?_ _ | refine blk_drew ?_ | refine blk_alloc ?_ _)); exact BK1.out)) : gb1 ≠ gb2)); have n6_ := Aside0.mk ((by rw [hg]; exact Nat.ne_of_gt (blk_lt (g := gb1) (o := .cells #[.bool a2_0, .bool a2_1, .bool a2_2, .bool a2_3, .bool a2_4, .bool a2_5, .bool a2_6, .bool a2_7, .int .i64 a2_8, .int .i64 a2_9, .int .i64 a2_10, .int .i64 a2_11, .int .i64 a2_12] 34 (0, 0)) (by (with_reducible repeat (first | refine blk_drewN ?_ _ | refine blk_drew ?_ | refine blk_alloc ?_ _)); exact BK1.out)) : gb2 ≠ gb1)); clear BK1; clear HB; have BK1 := n0_; have HB := n1_; have BK2 := n2_; have GW2 := n3_; have GE2 := n4_; have NB1_2 := n5_; have NB2_1 := n6_; clear n0_ n1_ n2_ n3_ n4_ n5_ n6_; clear hb hbox hg; have hnb12 := NB2_1.out; have hnc12 := NB1_2.out; have hcz13_0 : w11.cell? ⟨gb2, 0, none⟩ = some (.bool a3_0) := (blk_cell BK2.out 0).trans rfl; have hcz13_1 : w11.cell? ⟨gb2, 1, none⟩ = some (.bool a3_1) := (blk_cell BK2.out 1).trans rfl; have hcz13_2 : w11.cell? ⟨gb2, 2, none⟩ = some (.bool a3_2) := (blk_cell BK2.out 2).trans rfl; have hcz13_3 : w11.cell? ⟨gb2, 3, none⟩ = some (.bool a3_3) := (blk_cell BK2.out 3).trans rfl; have hcz13_4 : w11.cell? ⟨gb2, 4, none⟩ = some (.bool a3_4) := (blk_cell BK2.out 4).trans rfl; have hcz13_5 : w11.cell? ⟨gb2, 5, none⟩ = some (.bool a3_5) := (blk_cell BK2.out 5).trans rfl; have hcz13_6 : w11.cell? ⟨gb2, 6, none⟩ = some (.bool a3_6) := (blk_cell BK2.out 6).trans rfl; have hcz13_7 : w11.cell? ⟨gb2, 7, none⟩ = some (.bool a3_7) := (blk_cell BK2.out 7).trans rfl; have hcz13_8 : w11.cell? ⟨gb2, 8, none⟩ = some (.int .i64 a3_8) := (blk_cell BK2.out 8).trans rfl; have hcz13_9 : w11.cell? ⟨gb2, 9, none⟩ = some (.int .i64 a3_9) := (blk_cell BK2.out 9).trans rfl; have hcz13_10 : w11.cell? ⟨gb2, 10, none⟩ = some (.int .i64 a3_10) := (blk_cell BK2.out 10).trans rfl; have hcz13_11 : w11.cell? ⟨gb2, 11, none⟩ = some (.int .i64 a3_11) := (blk_cell BK2.out 11).trans rfl; have hcz13_12 : w11.cell? ⟨gb2, 12, none⟩ = some (.int .i64 a3_12) := (blk_cell BK2.out 12).trans rfl; have hfz13_0 := blk_frozen BK2.out 0; have hfz13_1 := blk_frozen BK2.out 1; have hfz13_2 := blk_frozen BK2.out 2; have hfz13_3 := blk_frozen BK2.out 3; have hfz13_4 := blk_frozen BK2.out 4; have hfz13_5 := blk_frozen BK2.out 5; have hfz13_6 := blk_frozen BK2.out 6; have hfz13_7 := blk_frozen BK2.out 7; have hfz13_8 := blk_frozen BK2.out 8; have hfz13_9 := blk_frozen BK2.out 9; have hfz13_10 := blk_frozen BK2.out 10; have hfz13_11 := blk_frozen BK2.out 11; have hfz13_12 := blk_frozen BK2.out 12))
    go_ret
    exact ⟨by first | rfl | (simp [errW_none, errW_some] <;> rfl) | (simp [*, errW_none, errW_some] <;> rfl), by repeat (first | (with_reducible first | exact HB.out | apply below_alloc | apply pw_below_drewN | apply below_drew1 | refine below_set ?_ GE1.out | refine below_set ?_ GE2.out) | exact HB.out)⟩
end Go.Proofs.YtebfpnbnoinhbaaGreatDoor.Q
namespace Go.Proofs.YtebfpnbnoinhbaaGreatDoor.Q
open Go.RowKit Go.Proofs.YtebfpnbnoinhbaaGreatDoorW.PrintWords Go.Proofs.YtebfpnbnoinhbaaGreatDoorW.PrintLast Go.Proofs.YtebfpnbnoinhbaaGreatDoorW.PrintMore
attribute [local go_sem] max2_int max_two
set_option linter.unusedVariables false
set_option linter.unusedSimpArgs false
def policy_rulings_7.f (a0 : Int) (a1 : Int) (a2_0 : Bool) (a2_1 : Bool) (a2_2 : Bool) (a2_3 : Bool) (a2_4 : Bool) (a2_5 : Bool) (a2_6 : Bool) (a2_7 : Bool) (a2_8 : Int) (a2_9 : Int) (a2_10 : Int) (a2_11 : Int) (a2_12 : Int) (a3_0 : Bool) (a3_1 : Bool) (a3_2 : Bool) (a3_3 : Bool) (a3_4 : Bool) (a3_5 : Bool) (a3_6 : Bool) (a3_7 : Bool) (a3_8 : Int) (a3_9 : Int) (a3_10 : Int) (a3_11 : Int) (a3_12 : Int) : Option (Bool) := if a3_10 ≥ 0 then (if (wrap64 (a0 - a1)) ≤ a3_10 then ((policy_strict.f a2_0 a2_1 a2_2 a2_3 a2_4 a2_5 a2_6 a2_7 a2_8 a2_9 a2_10 a2_11 a2_12).bind fun t3 => (some (!t3))) else (some false)) else (some false)
set_option maxHeartbeats 8000000 in
set_option maxRecDepth 100000 in
theorem policy_rulings_7.calls (a0 : Int) (a1 : Int) (a2_0 : Bool) (a2_1 : Bool) (a2_2 : Bool) (a2_3 : Bool) (a2_4 : Bool) (a2_5 : Bool) (a2_6 : Bool) (a2_7 : Bool) (a2_8 : Int) (a2_9 : Int) (a2_10 : Int) (a2_11 : Int) (a2_12 : Int) (a3_0 : Bool) (a3_1 : Bool) (a3_2 : Bool) (a3_3 : Bool) (a3_4 : Bool) (a3_5 : Bool) (a3_6 : Bool) (a3_7 : Bool) (a3_8 : Int) (a3_9 : Int) (a3_10 : Int) (a3_11 : Int) (a3_12 : Int) (r : Bool) (w : World) (h : policy_rulings_7.f a0 a1 a2_0 a2_1 a2_2 a2_3 a2_4 a2_5 a2_6 a2_7 a2_8 a2_9 a2_10 a2_11 a2_12 a3_0 a3_1 a3_2 a3_3 a3_4 a3_5 a3_6 a3_7 a3_8 a3_9 a3_10 a3_11 a3_12 = some r) :
    Calls Tryz.prog 69 #[.int .i64 a0, .int .i64 a1, .agg #[.bool a2_0, .bool a2_1, .bool a2_2, .bool a2_3, .bool a2_4, .bool a2_5, .bool a2_6, .bool a2_7, .int .i64 a2_8, .int .i64 a2_9, .int .i64 a2_10, .int .i64 a2_11, .int .i64 a2_12], .agg #[.bool a3_0, .bool a3_1, .bool a3_2, .bool a3_3, .bool a3_4, .bool a3_5, .bool a3_6, .bool a3_7, .int .i64 a3_8, .int .i64 a3_9, .int .i64 a3_10, .int .i64 a3_11, .int .i64 a3_12]] w fun e w' => e = .returned (.bool r) ∧ Below w.heap.size w w' := by
  have hu34 := Tryz.underlying34
  have HB := Aside0.mk (Below.refl w.heap.size w)
  have H : (if a3_10 ≥ 0 then (if (wrap64 (a0 - a1)) ≤ a3_10 then ((policy_strict.f a2_0 a2_1 a2_2 a2_3 a2_4 a2_5 a2_6 a2_7 a2_8 a2_9 a2_10 a2_11 a2_12).bind fun t3 => (some (!t3))) else (some false)) else (some false)) = some r := h
  clear h
  by_cases c5 : a3_10 ≥ 0
  · rw [if_pos c5] at H
    have c5b0 : decide (0 ≤ a3_10) = true := decide_eq_true c5
    clear c5
    by_cases c6 : (wrap64 (a0 - a1)) ≤ a3_10
    · rw [if_pos c6] at H
      have c6b0 : decide ((wrap64 (a0 - a1)) ≤ a3_10) = true := decide_eq_true c6
      clear c6
      replace H := Option.bind_eq_some_iff.mp H
      obtain ⟨t3, A70, H⟩ := H
      replace H : (some (!t3)) = some r := H
      have A7 := Aside0.mk A70
      clear A70
      obtain rfl := Option.some.inj H
      go_enter Tryz.func69, Tryz.ntmps69
      go_wp2_with (first | ((with_reducible refine gate_dst (N := 6) rfl ?_); refine box_event ?hg (N := 6) ?hd (cs := #[.bool a2_0, .bool a2_1, .bool a2_2, .bool a2_3, .bool a2_4, .bool a2_5, .bool a2_6, .bool a2_7, .int .i64 a2_8, .int .i64 a2_9, .int .i64 a2_10, .int .i64 a2_11, .int .i64 a2_12]) (t := 34) ?hr ?_; (case hd => rfl); (case hg => rfl); (case hr => first | (go_simp; done) | (go_simp; rfl)); intro gb1 hg w8 hbox hb; have n0_ := Aside0.mk (below_step (by repeat (first | (with_reducible first | exact HB.out | apply below_alloc | apply pw_below_drewN | apply below_drew1) | exact HB.out)) hb); have n1_ := Aside0.mk (hbox); have n2_ := Aside0.mk ((by rw [hg]; exact (below_size (by repeat (first | (with_reducible first | exact HB.out | apply below_alloc | apply pw_below_drewN | apply below_drew1) | exact HB.out))) : w.heap.size ≤ gb1)); have n3_ := Aside0.mk ((by rw [hg]; exact (below_size (by repeat (first | (with_reducible first | exact HB.out | apply below_alloc | apply pw_below_drewN | apply below_drew1) | exact HB.out))) : w.heap.size ≤ gb1)); clear HB; have HB := n0_; have BK1 := n1_; have GW1 := n2_; have GE1 := n3_; clear n0_ n1_ n2_ n3_; clear hb hbox hg) | ((with_reducible refine gate_dst (N := 7) rfl ?_); refine box_event ?hg (N := 7) ?hd (cs := #[.bool a3_0, .bool a3_1, .bool a3_2, .bool a3_3, .bool a3_4, .bool a3_5, .bool a3_6, .bool a3_7, .int .i64 a3_8, .int .i64 a3_9, .int .i64 a3_10, .int .i64 a3_11, .int .i64 a3_12]) (t := 34) ?hr ?_; (case hd => rfl); (case hg => rfl); (case hr => first | (go_simp; done) | (go_simp; rfl)); intro gb2 hg w9 hbox hb; have n0_ := Aside0.mk (blk_below (g := gb1) (o := .cells #[.bool a2_0, .bool a2_1, .bool a2_2, .bool a2_3, .bool a2_4, .bool a2_5, .bool a2_6, .bool a2_7, .int .i64 a2_8, .int .i64 a2_9, .int .i64 a2_10, .int .i64 a2_11, .int .i64 a2_12] 34 (0, 0)) (by (with_reducible repeat (first | refine blk_drewN ?_ _ | refine blk_drew ?_ | refine blk_alloc ?_ _)); exact BK1.out) hb); have n1_ := Aside0.mk (below_step (by repeat (first | (with_reducible first | exact HB.out | apply below_alloc | apply pw_below_drewN | apply below_drew1 | refine below_set ?_ GE1.out) | exact HB.out)) hb); have n2_ := Aside0.mk (hbox); have n3_ := Aside0.mk ((by rw [hg]; exact (below_size (by repeat (first | (with_reducible first | exact HB.out | apply below_alloc | apply pw_below_drewN | apply below_drew1 | refine below_set ?_ GE1.out) | exact HB.out))) : w.heap.size ≤ gb2)); have n4_ := Aside0.mk ((by rw [hg]; exact (below_size (by repeat (first | (with_reducible first | exact HB.out | apply below_alloc | apply pw_below_drewN | apply below_drew1 | refine below_set ?_ GE1.out) | exact HB.out))) : w.heap.size ≤ gb2)); have n5_ := Aside0.mk ((by rw [hg]; exact Nat.ne_of_lt (blk_lt (g := gb1) (o := .cells #[.bool a2_0, .bool a2_1, .bool a2_2, .bool a2_3, .bool a2_4, .bool a2_5, .bool a2_6, .bool a2_7, .int .i64 a2_8, .int .i64 a2_9, .int .i64 a2_10, .int .i64 a2_11, .int .i64 a2_12] 34 (0, 0)) (by (with_reducible repeat (first | refine blk_drewN ?_ _ | refine blk_drew ?_ | refine blk_alloc ?_ _)); exact BK1.out)) : gb1 ≠ gb2)); have n6_ := Aside0.mk ((by rw [hg]; exact Nat.ne_of_gt (blk_lt (g := gb1) (o := .cells #[.bool a2_0, .bool a2_1, .bool a2_2, .bool a2_3, .bool a2_4, .bool a2_5, .bool a2_6, .bool a2_7, .int .i64 a2_8, .int .i64 a2_9, .int .i64 a2_10, .int .i64 a2_11, .int .i64 a2_12] 34 (0, 0)) (by (with_reducible repeat (first | refine blk_drewN ?_ _ | refine blk_drew ?_ | refine blk_alloc ?_ _)); exact BK1.out)) : gb2 ≠ gb1)); clear BK1; clear HB; have BK1 := n0_; have HB := n1_; have BK2 := n2_; have GW2 := n3_; have GE2 := n4_; have NB1_2 := n5_; have NB2_1 := n6_; clear n0_ n1_ n2_ n3_ n4_ n5_ n6_; clear hb hbox hg; have hnb10 := NB2_1.out; have hnc10 := NB1_2.out; have hcz11_0 : w9.cell? ⟨gb2, 0, none⟩ = some (.bool a3_0) := (blk_cell BK2.out 0).trans rfl; have hcz11_1 : w9.cell? ⟨gb2, 1, none⟩ = some (.bool a3_1) := (blk_cell BK2.out 1).trans rfl; have hcz11_2 : w9.cell? ⟨gb2, 2, none⟩ = some (.bool a3_2) := (blk_cell BK2.out 2).trans rfl; have hcz11_3 : w9.cell? ⟨gb2, 3, none⟩ = some (.bool a3_3) := (blk_cell BK2.out 3).trans rfl; have hcz11_4 : w9.cell? ⟨gb2, 4, none⟩ = some (.bool a3_4) := (blk_cell BK2.out 4).trans rfl; have hcz11_5 : w9.cell? ⟨gb2, 5, none⟩ = some (.bool a3_5) := (blk_cell BK2.out 5).trans rfl; have hcz11_6 : w9.cell? ⟨gb2, 6, none⟩ = some (.bool a3_6) := (blk_cell BK2.out 6).trans rfl; have hcz11_7 : w9.cell? ⟨gb2, 7, none⟩ = some (.bool a3_7) := (blk_cell BK2.out 7).trans rfl; have hcz11_8 : w9.cell? ⟨gb2, 8, none⟩ = some (.int .i64 a3_8) := (blk_cell BK2.out 8).trans rfl; have hcz11_9 : w9.cell? ⟨gb2, 9, none⟩ = some (.int .i64 a3_9) := (blk_cell BK2.out 9).trans rfl; have hcz11_10 : w9.cell? ⟨gb2, 10, none⟩ = some (.int .i64 a3_10) := (blk_cell BK2.out 10).trans rfl; have hcz11_11 : w9.cell? ⟨gb2, 11, none⟩ = some (.int .i64 a3_11) := (blk_cell BK2.out 11).trans rfl; have hcz11_12 : w9.cell? ⟨gb2, 12, none⟩ = some (.int .i64 a3_12) := (blk_cell BK2.out 12).trans rfl; have hfz11_0 := blk_frozen BK2.out 0; have hfz11_1 := blk_frozen BK2.out 1; have hfz11_2 := blk_frozen BK2.out 2; have hfz11_3 := blk_frozen BK2.out 3; have hfz11_4 := blk_frozen BK2.out 4; have hfz11_5 := blk_frozen BK2.out 5; have hfz11_6 := blk_frozen BK2.out 6; have hfz11_7 := blk_frozen BK2.out 7; have hfz11_8 := blk_frozen BK2.out 8; have hfz11_9 := blk_frozen BK2.out 9; have hfz11_10 := blk_frozen BK2.out 10; have hfz11_11 := blk_frozen BK2.out 11; have hfz11_12 := blk_frozen BK2.out 12; have hcz12_0 : w9.cell? ⟨gb1, 0, none⟩ = some (.bool a2_0) := (blk_cell BK1.out 0).trans rfl; have hcz12_1 : w9.cell? ⟨gb1, 1, none⟩ = some (.bool a2_1) := (blk_cell BK1.out 1).trans rfl; have hcz12_2 : w9.cell? ⟨gb1, 2, none⟩ = some (.bool a2_2) := (blk_cell BK1.out 2).trans rfl; have hcz12_3 : w9.cell? ⟨gb1, 3, none⟩ = some (.bool a2_3) := (blk_cell BK1.out 3).trans rfl; have hcz12_4 : w9.cell? ⟨gb1, 4, none⟩ = some (.bool a2_4) := (blk_cell BK1.out 4).trans rfl; have hcz12_5 : w9.cell? ⟨gb1, 5, none⟩ = some (.bool a2_5) := (blk_cell BK1.out 5).trans rfl; have hcz12_6 : w9.cell? ⟨gb1, 6, none⟩ = some (.bool a2_6) := (blk_cell BK1.out 6).trans rfl; have hcz12_7 : w9.cell? ⟨gb1, 7, none⟩ = some (.bool a2_7) := (blk_cell BK1.out 7).trans rfl; have hcz12_8 : w9.cell? ⟨gb1, 8, none⟩ = some (.int .i64 a2_8) := (blk_cell BK1.out 8).trans rfl; have hcz12_9 : w9.cell? ⟨gb1, 9, none⟩ = some (.int .i64 a2_9) := (blk_cell BK1.out 9).trans rfl; have hcz12_10 : w9.cell? ⟨gb1, 10, none⟩ = some (.int .i64 a2_10) := (blk_cell BK1.out 10).trans rfl; have hcz12_11 : w9.cell? ⟨gb1, 11, none⟩ = some (.int .i64 a2_11) := (blk_cell BK1.out 11).trans rfl; have hcz12_12 : w9.cell? ⟨gb1, 12, none⟩ = some (.int .i64 a2_12) := (blk_cell BK1.out 12).trans rfl; have hfz12_0 := blk_frozen BK1.out 0; have hfz12_1 := blk_frozen BK1.out 1; have hfz12_2 := blk_frozen BK1.out 2; have hfz12_3 := blk_frozen BK1.out 3; have hfz12_4 := blk_frozen BK1.out 4; have hfz12_5 := blk_frozen BK1.out 5; have hfz12_6 := blk_frozen BK1.out 6; have hfz12_7 := blk_frozen BK1.out 7; have hfz12_8 := blk_frozen BK1.out 8; have hfz12_9 := blk_frozen BK1.out 9; have hfz12_10 := blk_frozen BK1.out 10; have hfz12_11 := blk_frozen BK1.out 11; have hfz12_12 := blk_frozen BK1.out 12) | (go_at_call 24; (with_reducible refine (policy_strict.calls a2_0 a2_1 a2_2 a2_3 a2_4 a2_5 a2_6 a2_7 a2_8 a2_9 a2_10 a2_11 a2_12 t3 _ A7.out).mono ?_); rintro e w13 ⟨rfl, hb⟩; have n0_ := Aside0.mk (blk_below (g := gb1) (o := .cells #[.bool a2_0, .bool a2_1, .bool a2_2, .bool a2_3, .bool a2_4, .bool a2_5, .bool a2_6, .bool a2_7, .int .i64 a2_8, .int .i64 a2_9, .int .i64 a2_10, .int .i64 a2_11, .int .i64 a2_12] 34 (0, 0)) (by (with_reducible repeat (first | refine blk_drewN ?_ _ | refine blk_drew ?_ | refine blk_alloc ?_ _)); exact BK1.out) hb); have n1_ := Aside0.mk (blk_below (g := gb2) (o := .cells #[.bool a3_0, .bool a3_1, .bool a3_2, .bool a3_3, .bool a3_4, .bool a3_5, .bool a3_6, .bool a3_7, .int .i64 a3_8, .int .i64 a3_9, .int .i64 a3_10, .int .i64 a3_11, .int .i64 a3_12] 34 (0, 0)) (by (with_reducible repeat (first | refine blk_drewN ?_ _ | refine blk_drew ?_ | refine blk_alloc ?_ _)); exact BK2.out) hb); have n2_ := Aside0.mk (below_step (by repeat (first | (with_reducible first | exact HB.out | apply below_alloc | apply pw_below_drewN | apply below_drew1 | refine below_set ?_ GE1.out | refine below_set ?_ GE2.out) | exact HB.out)) hb); clear BK1; clear BK2; clear HB; have BK1 := n0_; have BK2 := n1_; have HB := n2_; clear n0_ n1_ n2_; (try clear hb); (try clear hb2); (try clear hk); (try clear hi)))
      go_ret
      exact ⟨by first | rfl | (simp [errW_none, errW_some] <;> rfl) | (simp [*, errW_none, errW_some] <;> rfl), by repeat (first | (with_reducible first | exact HB.out | apply below_alloc | apply pw_below_drewN | apply below_drew1 | refine below_set ?_ GE1.out | refine below_set ?_ GE2.out) | exact HB.out)⟩
    · rw [if_neg c6] at H
      have c6b0 : decide ((wrap64 (a0 - a1)) ≤ a3_10) = false := decide_eq_false c6
      clear c6
      obtain rfl := Option.some.inj H
      go_enter Tryz.func69, Tryz.ntmps69
      go_wp2_with (first | ((with_reducible refine gate_dst (N := 6) rfl ?_); refine box_event ?hg (N := 6) ?hd (cs := #[.bool a2_0, .bool a2_1, .bool a2_2, .bool a2_3, .bool a2_4, .bool a2_5, .bool a2_6, .bool a2_7, .int .i64 a2_8, .int .i64 a2_9, .int .i64 a2_10, .int .i64 a2_11, .int .i64 a2_12]) (t := 34) ?hr ?_; (case hd => rfl); (case hg => rfl); (case hr => first | (go_simp; done) | (go_simp; rfl)); intro gb1 hg w14 hbox hb; have n0_ := Aside0.mk (below_step (by repeat (first | (with_reducible first | exact HB.out | apply below_alloc | apply pw_below_drewN | apply below_drew1) | exact HB.out)) hb); have n1_ := Aside0.mk (hbox); have n2_ := Aside0.mk ((by rw [hg]; exact (below_size (by repeat (first | (with_reducible first | exact HB.out | apply below_alloc | apply pw_below_drewN | apply below_drew1) | exact HB.out))) : w.heap.size ≤ gb1)); have n3_ := Aside0.mk ((by rw [hg]; exact (below_size (by repeat (first | (with_reducible first | exact HB.out | apply below_alloc | apply pw_below_drewN | apply below_drew1) | exact HB.out))) : w.heap.size ≤ gb1)); clear HB; have HB := n0_; have BK1 := n1_; have GW1 := n2_; have GE1 := n3_; clear n0_ n1_ n2_ n3_; clear hb hbox hg) | ((with_reducible refine gate_dst (N := 7) rfl ?_); refine box_event ?hg (N := 7) ?hd (cs := #[.bool a3_0, .bool a3_1, .bool a3_2, .bool a3_3, .bool a3_4, .bool a3_5, .bool a3_6, .bool a3_7, .int .i64 a3_8, .int .i64 a3_9, .int .i64 a3_10, .int .i64 a3_11, .int .i64 a3_12]) (t := 34) ?hr ?_; (case hd => rfl); (case hg => rfl); (case hr => first | (go_simp; done) | (go_simp; rfl)); intro gb2 hg w15 hbox hb; have n0_ := Aside0.mk (blk_below (g := gb1) (o := .cells #[.bool a2_0, .bool a2_1, .bool a2_2, .bool a2_3, .bool a2_4, .bool a2_5, .bool a2_6, .bool a2_7, .int .i64 a2_8, .int .i64 a2_9, .int .i64 a2_10, .int .i64 a2_11, .int .i64 a2_12] 34 (0, 0)) (by (with_reducible repeat (first | refine blk_drewN ?_ _ | refine blk_drew ?_ | refine blk_alloc ?_ _)); exact BK1.out) hb); have n1_ := Aside0.mk (below_step (by repeat (first | (with_reducible first | exact HB.out | apply below_alloc | apply pw_below_drewN | apply below_drew1 | refine below_set ?_ GE1.out) | exact HB.out)) hb); have n2_ := Aside0.mk (hbox); have n3_ := Aside0.mk ((by rw [hg]; exact (below_size (by repeat (first | (with_reducible first | exact HB.out | apply below_alloc | apply pw_below_drewN | apply below_drew1 | refine below_set ?_ GE1.out) | exact HB.out))) : w.heap.size ≤ gb2)); have n4_ := Aside0.mk ((by rw [hg]; exact (below_size (by repeat (first | (with_reducible first | exact HB.out | apply below_alloc | apply pw_below_drewN | apply below_drew1 | refine below_set ?_ GE1.out) | exact HB.out))) : w.heap.size ≤ gb2)); have n5_ := Aside0.mk ((by rw [hg]; exact Nat.ne_of_lt (blk_lt (g := gb1) (o := .cells #[.bool a2_0, .bool a2_1, .bool a2_2, .bool a2_3, .bool a2_4, .bool a2_5, .bool a2_6, .bool a2_7, .int .i64 a2_8, .int .i64 a2_9, .int .i64 a2_10, .int .i64 a2_11, .int .i64 a2_12] 34 (0, 0)) (by (with_reducible repeat (first | refine blk_drewN ?_ _ | refine blk_drew ?_ | refine blk_alloc ?_ _)); exact BK1.out)) : gb1 ≠ gb2)); have n6_ := Aside0.mk ((by rw [hg]; exact Nat.ne_of_gt (blk_lt (g := gb1) (o := .cells #[.bool a2_0, .bool a2_1, .bool a2_2, .bool a2_3, .bool a2_4, .bool a2_5, .bool a2_6, .bool a2_7, .int .i64 a2_8, .int .i64 a2_9, .int .i64 a2_10, .int .i64 a2_11, .int .i64 a2_12] 34 (0, 0)) (by (with_reducible repeat (first | refine blk_drewN ?_ _ | refine blk_drew ?_ | refine blk_alloc ?_ _)); exact BK1.out)) : gb2 ≠ gb1)); clear BK1; clear HB; have BK1 := n0_; have HB := n1_; have BK2 := n2_; have GW2 := n3_; have GE2 := n4_; have NB1_2 := n5_; have NB2_1 := n6_; clear n0_ n1_ n2_ n3_ n4_ n5_ n6_; clear hb hbox hg; have hnb16 := NB2_1.out; have hnc16 := NB1_2.out; have hcz17_0 : w15.cell? ⟨gb2, 0, none⟩ = some (.bool a3_0) := (blk_cell BK2.out 0).trans rfl; have hcz17_1 : w15.cell? ⟨gb2, 1, none⟩ = some (.bool a3_1) := (blk_cell BK2.out 1).trans rfl; have hcz17_2 : w15.cell? ⟨gb2, 2, none⟩ = some (.bool a3_2) := (blk_cell BK2.out 2).trans rfl; have hcz17_3 : w15.cell? ⟨gb2, 3, none⟩ = some (.bool a3_3) := (blk_cell BK2.out 3).trans rfl; have hcz17_4 : w15.cell? ⟨gb2, 4, none⟩ = some (.bool a3_4) := (blk_cell BK2.out 4).trans rfl; have hcz17_5 : w15.cell? ⟨gb2, 5, none⟩ = some (.bool a3_5) := (blk_cell BK2.out 5).trans rfl; have hcz17_6 : w15.cell? ⟨gb2, 6, none⟩ = some (.bool a3_6) := (blk_cell BK2.out 6).trans rfl; have hcz17_7 : w15.cell? ⟨gb2, 7, none⟩ = some (.bool a3_7) := (blk_cell BK2.out 7).trans rfl; have hcz17_8 : w15.cell? ⟨gb2, 8, none⟩ = some (.int .i64 a3_8) := (blk_cell BK2.out 8).trans rfl; have hcz17_9 : w15.cell? ⟨gb2, 9, none⟩ = some (.int .i64 a3_9) := (blk_cell BK2.out 9).trans rfl; have hcz17_10 : w15.cell? ⟨gb2, 10, none⟩ = some (.int .i64 a3_10) := (blk_cell BK2.out 10).trans rfl; have hcz17_11 : w15.cell? ⟨gb2, 11, none⟩ = some (.int .i64 a3_11) := (blk_cell BK2.out 11).trans rfl; have hcz17_12 : w15.cell? ⟨gb2, 12, none⟩ = some (.int .i64 a3_12) := (blk_cell BK2.out 12).trans rfl; have hfz17_0 := blk_frozen BK2.out 0; have hfz17_1 := blk_frozen BK2.out 1; have hfz17_2 := blk_frozen BK2.out 2; have hfz17_3 := blk_frozen BK2.out 3; have hfz17_4 := blk_frozen BK2.out 4; have hfz17_5 := blk_frozen BK2.out 5; have hfz17_6 := blk_frozen BK2.out 6; have hfz17_7 := blk_frozen BK2.out 7; have hfz17_8 := blk_frozen BK2.out 8; have hfz17_9 := blk_frozen BK2.out 9; have hfz17_10 := blk_frozen BK2.out 10; have hfz17_11 := blk_frozen BK2.out 11; have hfz17_12 := blk_frozen BK2.out 12))
      go_ret
      exact ⟨by first | rfl | (simp [errW_none, errW_some] <;> rfl) | (simp [*, errW_none, errW_some] <;> rfl), by repeat (first | (with_reducible first | exact HB.out | apply below_alloc | apply pw_below_drewN | apply below_drew1 | refine below_set ?_ GE1.out | refine below_set ?_ GE2.out) | exact HB.out)⟩
  · rw [if_neg c5] at H
    have c5b0 : decide (0 ≤ a3_10) = false := decide_eq_false c5
    clear c5
    obtain rfl := Option.some.inj H
    go_enter Tryz.func69, Tryz.ntmps69
    go_wp2_with (first | ((with_reducible refine gate_dst (N := 6) rfl ?_); refine box_event ?hg (N := 6) ?hd (cs := #[.bool a2_0, .bool a2_1, .bool a2_2, .bool a2_3, .bool a2_4, .bool a2_5, .bool a2_6, .bool a2_7, .int .i64 a2_8, .int .i64 a2_9, .int .i64 a2_10, .int .i64 a2_11, .int .i64 a2_12]) (t := 34) ?hr ?_; (case hd => rfl); (case hg => rfl); (case hr => first | (go_simp; done) | (go_simp; rfl)); intro gb1 hg w18 hbox hb; have n0_ := Aside0.mk (below_step (by repeat (first | (with_reducible first | exact HB.out | apply below_alloc | apply pw_below_drewN | apply below_drew1) | exact HB.out)) hb); have n1_ := Aside0.mk (hbox); have n2_ := Aside0.mk ((by rw [hg]; exact (below_size (by repeat (first | (with_reducible first | exact HB.out | apply below_alloc | apply pw_below_drewN | apply below_drew1) | exact HB.out))) : w.heap.size ≤ gb1)); have n3_ := Aside0.mk ((by rw [hg]; exact (below_size (by repeat (first | (with_reducible first | exact HB.out | apply below_alloc | apply pw_below_drewN | apply below_drew1) | exact HB.out))) : w.heap.size ≤ gb1)); clear HB; have HB := n0_; have BK1 := n1_; have GW1 := n2_; have GE1 := n3_; clear n0_ n1_ n2_ n3_; clear hb hbox hg) | ((with_reducible refine gate_dst (N := 7) rfl ?_); refine box_event ?hg (N := 7) ?hd (cs := #[.bool a3_0, .bool a3_1, .bool a3_2, .bool a3_3, .bool a3_4, .bool a3_5, .bool a3_6, .bool a3_7, .int .i64 a3_8, .int .i64 a3_9, .int .i64 a3_10, .int .i64 a3_11, .int .i64 a3_12]) (t := 34) ?hr ?_; (case hd => rfl); (case hg => rfl); (case hr => first | (go_simp; done) | (go_simp; rfl)); intro gb2 hg w19 hbox hb; have n0_ := Aside0.mk (blk_below (g := gb1) (o := .cells #[.bool a2_0, .bool a2_1, .bool a2_2, .bool a2_3, .bool a2_4, .bool a2_5, .bool a2_6, .bool a2_7, .int .i64 a2_8, .int .i64 a2_9, .int .i64 a2_10, .int .i64 a2_11, .int .i64 a2_12] 34 (0, 0)) (by (with_reducible repeat (first | refine blk_drewN ?_ _ | refine blk_drew ?_ | refine blk_alloc ?_ _)); exact BK1.out) hb); have n1_ := Aside0.mk (below_step (by repeat (first | (with_reducible first | exact HB.out | apply below_alloc | apply pw_below_drewN | apply below_drew1 | refine below_set ?_ GE1.out) | exact HB.out)) hb); have n2_ := Aside0.mk (hbox); have n3_ := Aside0.mk ((by rw [hg]; exact (below_size (by repeat (first | (with_reducible first | exact HB.out | apply below_alloc | apply pw_below_drewN | apply below_drew1 | refine below_set ?_ GE1.out) | exact HB.out))) : w.heap.size ≤ gb2)); have n4_ := Aside0.mk ((by rw [hg]; exact (below_size (by repeat (first | (with_reducible first | exact HB.out | apply below_alloc | apply pw_below_drewN | apply below_drew1 | refine below_set ?_ GE1.out) | exact HB.out))) : w.heap.size ≤ gb2)); have n5_ := Aside0.mk ((by rw [hg]; exact Nat.ne_of_lt (blk_lt (g := gb1) (o := .cells #[.bool a2_0, .bool a2_1, .bool a2_2, .bool a2_3, .bool a2_4, .bool a2_5, .bool a2_6, .bool a2_7, .int .i64 a2_8, .int .i64 a2_9, .int .i64 a2_10, .int .i64 a2_11, .int .i64 a2_12] 34 (0, 0)) (by (with_reducible repeat (first | refine blk_drewN ?_ _ | refine blk_drew ?_ | refine blk_alloc ?_ _)); exact BK1.out)) : gb1 ≠ gb2)); have n6_ := Aside0.mk ((by rw [hg]; exact Nat.ne_of_gt (blk_lt (g := gb1) (o := .cells #[.bool a2_0, .bool a2_1, .bool a2_2, .bool a2_3, .bool a2_4, .bool a2_5, .bool a2_6, .bool a2_7, .int .i64 a2_8, .int .i64 a2_9, .int .i64 a2_10, .int .i64 a2_11, .int .i64 a2_12] 34 (0, 0)) (by (with_reducible repeat (first | refine blk_drewN ?_ _ | refine blk_drew ?_ | refine blk_alloc ?_ _)); exact BK1.out)) : gb2 ≠ gb1)); clear BK1; clear HB; have BK1 := n0_; have HB := n1_; have BK2 := n2_; have GW2 := n3_; have GE2 := n4_; have NB1_2 := n5_; have NB2_1 := n6_; clear n0_ n1_ n2_ n3_ n4_ n5_ n6_; clear hb hbox hg; have hnb20 := NB2_1.out; have hnc20 := NB1_2.out; have hcz21_0 : w19.cell? ⟨gb2, 0, none⟩ = some (.bool a3_0) := (blk_cell BK2.out 0).trans rfl; have hcz21_1 : w19.cell? ⟨gb2, 1, none⟩ = some (.bool a3_1) := (blk_cell BK2.out 1).trans rfl; have hcz21_2 : w19.cell? ⟨gb2, 2, none⟩ = some (.bool a3_2) := (blk_cell BK2.out 2).trans rfl; have hcz21_3 : w19.cell? ⟨gb2, 3, none⟩ = some (.bool a3_3) := (blk_cell BK2.out 3).trans rfl; have hcz21_4 : w19.cell? ⟨gb2, 4, none⟩ = some (.bool a3_4) := (blk_cell BK2.out 4).trans rfl; have hcz21_5 : w19.cell? ⟨gb2, 5, none⟩ = some (.bool a3_5) := (blk_cell BK2.out 5).trans rfl; have hcz21_6 : w19.cell? ⟨gb2, 6, none⟩ = some (.bool a3_6) := (blk_cell BK2.out 6).trans rfl; have hcz21_7 : w19.cell? ⟨gb2, 7, none⟩ = some (.bool a3_7) := (blk_cell BK2.out 7).trans rfl; have hcz21_8 : w19.cell? ⟨gb2, 8, none⟩ = some (.int .i64 a3_8) := (blk_cell BK2.out 8).trans rfl; have hcz21_9 : w19.cell? ⟨gb2, 9, none⟩ = some (.int .i64 a3_9) := (blk_cell BK2.out 9).trans rfl; have hcz21_10 : w19.cell? ⟨gb2, 10, none⟩ = some (.int .i64 a3_10) := (blk_cell BK2.out 10).trans rfl; have hcz21_11 : w19.cell? ⟨gb2, 11, none⟩ = some (.int .i64 a3_11) := (blk_cell BK2.out 11).trans rfl; have hcz21_12 : w19.cell? ⟨gb2, 12, none⟩ = some (.int .i64 a3_12) := (blk_cell BK2.out 12).trans rfl; have hfz21_0 := blk_frozen BK2.out 0; have hfz21_1 := blk_frozen BK2.out 1; have hfz21_2 := blk_frozen BK2.out 2; have hfz21_3 := blk_frozen BK2.out 3; have hfz21_4 := blk_frozen BK2.out 4; have hfz21_5 := blk_frozen BK2.out 5; have hfz21_6 := blk_frozen BK2.out 6; have hfz21_7 := blk_frozen BK2.out 7; have hfz21_8 := blk_frozen BK2.out 8; have hfz21_9 := blk_frozen BK2.out 9; have hfz21_10 := blk_frozen BK2.out 10; have hfz21_11 := blk_frozen BK2.out 11; have hfz21_12 := blk_frozen BK2.out 12))
    go_ret
    exact ⟨by first | rfl | (simp [errW_none, errW_some] <;> rfl) | (simp [*, errW_none, errW_some] <;> rfl), by repeat (first | (with_reducible first | exact HB.out | apply below_alloc | apply pw_below_drewN | apply below_drew1 | refine below_set ?_ GE1.out | refine below_set ?_ GE2.out) | exact HB.out)⟩
end Go.Proofs.YtebfpnbnoinhbaaGreatDoor.Q
namespace Go.Proofs.YtebfpnbnoinhbaaGreatDoor.Q
open Go.RowKit Go.Proofs.YtebfpnbnoinhbaaGreatDoorW.PrintWords Go.Proofs.YtebfpnbnoinhbaaGreatDoorW.PrintLast Go.Proofs.YtebfpnbnoinhbaaGreatDoorW.PrintMore
attribute [local go_sem] max2_int max_two
set_option linter.unusedVariables false
set_option linter.unusedSimpArgs false
def sculleryref14_strict.f (a0_0 : Bool) (a0_1 : Bool) (a0_2 : Bool) (a0_3 : Bool) (a0_4 : Bool) (a0_5 : Bool) (a0_6 : Bool) (a0_7 : Bool) (a0_8 : Int) (a0_9 : Int) (a0_10 : Int) (a0_11 : Int) (a0_12 : Int) : Option (Bool) := if a0_4 = true then (some true) else (if a0_5 = true then (some true) else (some (decide (a0_9 ≥ 0))))
set_option maxHeartbeats 8000000 in
set_option maxRecDepth 100000 in
theorem sculleryref14_strict.calls (a0_0 : Bool) (a0_1 : Bool) (a0_2 : Bool) (a0_3 : Bool) (a0_4 : Bool) (a0_5 : Bool) (a0_6 : Bool) (a0_7 : Bool) (a0_8 : Int) (a0_9 : Int) (a0_10 : Int) (a0_11 : Int) (a0_12 : Int) (r : Bool) (w : World) (h : sculleryref14_strict.f a0_0 a0_1 a0_2 a0_3 a0_4 a0_5 a0_6 a0_7 a0_8 a0_9 a0_10 a0_11 a0_12 = some r) :
    Calls Tryz.prog 29 #[.agg #[.bool a0_0, .bool a0_1, .bool a0_2, .bool a0_3, .bool a0_4, .bool a0_5, .bool a0_6, .bool a0_7, .int .i64 a0_8, .int .i64 a0_9, .int .i64 a0_10, .int .i64 a0_11, .int .i64 a0_12]] w fun e w' => e = .returned (.bool r) ∧ Below w.heap.size w w' := by
  have hu36 := Tryz.underlying36
  have HB := Aside0.mk (Below.refl w.heap.size w)
  have H : (if a0_4 = true then (some true) else (if a0_5 = true then (some true) else (some (decide (a0_9 ≥ 0))))) = some r := h
  clear h
  by_cases c2 : a0_4 = true
  · subst c2
    have H1 : (some true) = some r := by rw [if_pos rfl] at H; exact H
    clear H
    have H := H1
    clear H1
    obtain rfl := Option.some.inj H
    go_enter Tryz.func29, Tryz.ntmps29
    go_wp2_with (first | ((with_reducible refine gate_dst (N := 1) rfl ?_); refine box_event ?hg (N := 1) ?hd (cs := #[.bool a0_0, .bool a0_1, .bool a0_2, .bool a0_3, .bool true, .bool a0_5, .bool a0_6, .bool a0_7, .int .i64 a0_8, .int .i64 a0_9, .int .i64 a0_10, .int .i64 a0_11, .int .i64 a0_12]) (t := 36) ?hr ?_; (case hd => rfl); (case hg => rfl); (case hr => first | (go_simp; done) | (go_simp; rfl)); intro gb1 hg w3 hbox hb; have n0_ := Aside0.mk (below_step (by repeat (first | (with_reducible first | exact HB.out | apply below_alloc | apply pw_below_drewN | apply below_drew1) | exact HB.out)) hb); have n1_ := Aside0.mk (hbox); have n2_ := Aside0.mk ((by rw [hg]; exact (below_size (by repeat (first | (with_reducible first | exact HB.out | apply below_alloc | apply pw_below_drewN | apply below_drew1) | exact HB.out))) : w.heap.size ≤ gb1)); have n3_ := Aside0.mk ((by rw [hg]; exact (below_size (by repeat (first | (with_reducible first | exact HB.out | apply below_alloc | apply pw_below_drewN | apply below_drew1) | exact HB.out))) : w.heap.size ≤ gb1)); clear HB; have HB := n0_; have BK1 := n1_; have GW1 := n2_; have GE1 := n3_; clear n0_ n1_ n2_ n3_; clear hb hbox hg; have hcz4_0 : w3.cell? ⟨gb1, 0, none⟩ = some (.bool a0_0) := (blk_cell BK1.out 0).trans rfl; have hcz4_1 : w3.cell? ⟨gb1, 1, none⟩ = some (.bool a0_1) := (blk_cell BK1.out 1).trans rfl; have hcz4_2 : w3.cell? ⟨gb1, 2, none⟩ = some (.bool a0_2) := (blk_cell BK1.out 2).trans rfl; have hcz4_3 : w3.cell? ⟨gb1, 3, none⟩ = some (.bool a0_3) := (blk_cell BK1.out 3).trans rfl; have hcz4_4 : w3.cell? ⟨gb1, 4, none⟩ = some (.bool true) := (blk_cell BK1.out 4).trans rfl; have hcz4_5 : w3.cell? ⟨gb1, 5, none⟩ = some (.bool a0_5) := (blk_cell BK1.out 5).trans rfl; have hcz4_6 : w3.cell? ⟨gb1, 6, none⟩ = some (.bool a0_6) := (blk_cell BK1.out 6).trans rfl; have hcz4_7 : w3.cell? ⟨gb1, 7, none⟩ = some (.bool a0_7) := (blk_cell BK1.out 7).trans rfl; have hcz4_8 : w3.cell? ⟨gb1, 8, none⟩ = some (.int .i64 a0_8) := (blk_cell BK1.out 8).trans rfl; have hcz4_9 : w3.cell? ⟨gb1, 9, none⟩ = some (.int .i64 a0_9) := (blk_cell BK1.out 9).trans rfl; have hcz4_10 : w3.cell? ⟨gb1, 10, none⟩ = some (.int .i64 a0_10) := (blk_cell BK1.out 10).trans rfl; have hcz4_11 : w3.cell? ⟨gb1, 11, none⟩ = some (.int .i64 a0_11) := (blk_cell BK1.out 11).trans rfl; have hcz4_12 : w3.cell? ⟨gb1, 12, none⟩ = some (.int .i64 a0_12) := (blk_cell BK1.out 12).trans rfl; have hfz4_0 := blk_frozen BK1.out 0; have hfz4_1 := blk_frozen BK1.out 1; have hfz4_2 := blk_frozen BK1.out 2; have hfz4_3 := blk_frozen BK1.out 3; have hfz4_4 := blk_frozen BK1.out 4; have hfz4_5 := blk_frozen BK1.out 5; have hfz4_6 := blk_frozen BK1.out 6; have hfz4_7 := blk_frozen BK1.out 7; have hfz4_8 := blk_frozen BK1.out 8; have hfz4_9 := blk_frozen BK1.out 9; have hfz4_10 := blk_frozen BK1.out 10; have hfz4_11 := blk_frozen BK1.out 11; have hfz4_12 := blk_frozen BK1.out 12))
    go_ret
    exact ⟨by first | rfl | (simp [errW_none, errW_some] <;> rfl) | (simp [*, errW_none, errW_some] <;> rfl), by repeat (first | (with_reducible first | exact HB.out | apply below_alloc | apply pw_below_drewN | apply below_drew1 | refine below_set ?_ GE1.out) | exact HB.out)⟩
  · replace c2 := Bool.eq_false_iff.mpr c2
    subst c2
    have H1 : (if a0_5 = true then (some true) else (some (decide (a0_9 ≥ 0)))) = some r := by rw [if_neg (show ¬ (false = true) by decide)] at H; exact H
    clear H
    have H := H1
    clear H1
    by_cases c5 : a0_5 = true
    · subst c5
      have H1 : (some true) = some r := by rw [if_pos rfl] at H; exact H
      clear H
      have H := H1
      clear H1
      obtain rfl := Option.some.inj H
      go_enter Tryz.func29, Tryz.ntmps29
      go_wp2_with (first | ((with_reducible refine gate_dst (N := 1) rfl ?_); refine box_event ?hg (N := 1) ?hd (cs := #[.bool a0_0, .bool a0_1, .bool a0_2, .bool a0_3, .bool false, .bool true, .bool a0_6, .bool a0_7, .int .i64 a0_8, .int .i64 a0_9, .int .i64 a0_10, .int .i64 a0_11, .int .i64 a0_12]) (t := 36) ?hr ?_; (case hd => rfl); (case hg => rfl); (case hr => first | (go_simp; done) | (go_simp; rfl)); intro gb1 hg w6 hbox hb; have n0_ := Aside0.mk (below_step (by repeat (first | (with_reducible first | exact HB.out | apply below_alloc | apply pw_below_drewN | apply below_drew1) | exact HB.out)) hb); have n1_ := Aside0.mk (hbox); have n2_ := Aside0.mk ((by rw [hg]; exact (below_size (by repeat (first | (with_reducible first | exact HB.out | apply below_alloc | apply pw_below_drewN | apply below_drew1) | exact HB.out))) : w.heap.size ≤ gb1)); have n3_ := Aside0.mk ((by rw [hg]; exact (below_size (by repeat (first | (with_reducible first | exact HB.out | apply below_alloc | apply pw_below_drewN | apply below_drew1) | exact HB.out))) : w.heap.size ≤ gb1)); clear HB; have HB := n0_; have BK1 := n1_; have GW1 := n2_; have GE1 := n3_; clear n0_ n1_ n2_ n3_; clear hb hbox hg; have hcz7_0 : w6.cell? ⟨gb1, 0, none⟩ = some (.bool a0_0) := (blk_cell BK1.out 0).trans rfl; have hcz7_1 : w6.cell? ⟨gb1, 1, none⟩ = some (.bool a0_1) := (blk_cell BK1.out 1).trans rfl; have hcz7_2 : w6.cell? ⟨gb1, 2, none⟩ = some (.bool a0_2) := (blk_cell BK1.out 2).trans rfl; have hcz7_3 : w6.cell? ⟨gb1, 3, none⟩ = some (.bool a0_3) := (blk_cell BK1.out 3).trans rfl; have hcz7_4 : w6.cell? ⟨gb1, 4, none⟩ = some (.bool false) := (blk_cell BK1.out 4).trans rfl; have hcz7_5 : w6.cell? ⟨gb1, 5, none⟩ = some (.bool true) := (blk_cell BK1.out 5).trans rfl; have hcz7_6 : w6.cell? ⟨gb1, 6, none⟩ = some (.bool a0_6) := (blk_cell BK1.out 6).trans rfl; have hcz7_7 : w6.cell? ⟨gb1, 7, none⟩ = some (.bool a0_7) := (blk_cell BK1.out 7).trans rfl; have hcz7_8 : w6.cell? ⟨gb1, 8, none⟩ = some (.int .i64 a0_8) := (blk_cell BK1.out 8).trans rfl; have hcz7_9 : w6.cell? ⟨gb1, 9, none⟩ = some (.int .i64 a0_9) := (blk_cell BK1.out 9).trans rfl; have hcz7_10 : w6.cell? ⟨gb1, 10, none⟩ = some (.int .i64 a0_10) := (blk_cell BK1.out 10).trans rfl; have hcz7_11 : w6.cell? ⟨gb1, 11, none⟩ = some (.int .i64 a0_11) := (blk_cell BK1.out 11).trans rfl; have hcz7_12 : w6.cell? ⟨gb1, 12, none⟩ = some (.int .i64 a0_12) := (blk_cell BK1.out 12).trans rfl; have hfz7_0 := blk_frozen BK1.out 0; have hfz7_1 := blk_frozen BK1.out 1; have hfz7_2 := blk_frozen BK1.out 2; have hfz7_3 := blk_frozen BK1.out 3; have hfz7_4 := blk_frozen BK1.out 4; have hfz7_5 := blk_frozen BK1.out 5; have hfz7_6 := blk_frozen BK1.out 6; have hfz7_7 := blk_frozen BK1.out 7; have hfz7_8 := blk_frozen BK1.out 8; have hfz7_9 := blk_frozen BK1.out 9; have hfz7_10 := blk_frozen BK1.out 10; have hfz7_11 := blk_frozen BK1.out 11; have hfz7_12 := blk_frozen BK1.out 12))
      go_ret
      exact ⟨by first | rfl | (simp [errW_none, errW_some] <;> rfl) | (simp [*, errW_none, errW_some] <;> rfl), by repeat (first | (with_reducible first | exact HB.out | apply below_alloc | apply pw_below_drewN | apply below_drew1 | refine below_set ?_ GE1.out) | exact HB.out)⟩
    · replace c5 := Bool.eq_false_iff.mpr c5
      subst c5
      have H1 : (some (decide (a0_9 ≥ 0))) = some r := by rw [if_neg (show ¬ (false = true) by decide)] at H; exact H
      clear H
      have H := H1
      clear H1
      obtain rfl := Option.some.inj H
      go_enter Tryz.func29, Tryz.ntmps29
      go_wp2_with (first | ((with_reducible refine gate_dst (N := 1) rfl ?_); refine box_event ?hg (N := 1) ?hd (cs := #[.bool a0_0, .bool a0_1, .bool a0_2, .bool a0_3, .bool false, .bool false, .bool a0_6, .bool a0_7, .int .i64 a0_8, .int .i64 a0_9, .int .i64 a0_10, .int .i64 a0_11, .int .i64 a0_12]) (t := 36) ?hr ?_; (case hd => rfl); (case hg => rfl); (case hr => first | (go_simp; done) | (go_simp; rfl)); intro gb1 hg w8 hbox hb; have n0_ := Aside0.mk (below_step (by repeat (first | (with_reducible first | exact HB.out | apply below_alloc | apply pw_below_drewN | apply below_drew1) | exact HB.out)) hb); have n1_ := Aside0.mk (hbox); have n2_ := Aside0.mk ((by rw [hg]; exact (below_size (by repeat (first | (with_reducible first | exact HB.out | apply below_alloc | apply pw_below_drewN | apply below_drew1) | exact HB.out))) : w.heap.size ≤ gb1)); have n3_ := Aside0.mk ((by rw [hg]; exact (below_size (by repeat (first | (with_reducible first | exact HB.out | apply below_alloc | apply pw_below_drewN | apply below_drew1) | exact HB.out))) : w.heap.size ≤ gb1)); clear HB; have HB := n0_; have BK1 := n1_; have GW1 := n2_; have GE1 := n3_; clear n0_ n1_ n2_ n3_; clear hb hbox hg; have hcz9_0 : w8.cell? ⟨gb1, 0, none⟩ = some (.bool a0_0) := (blk_cell BK1.out 0).trans rfl; have hcz9_1 : w8.cell? ⟨gb1, 1, none⟩ = some (.bool a0_1) := (blk_cell BK1.out 1).trans rfl; have hcz9_2 : w8.cell? ⟨gb1, 2, none⟩ = some (.bool a0_2) := (blk_cell BK1.out 2).trans rfl; have hcz9_3 : w8.cell? ⟨gb1, 3, none⟩ = some (.bool a0_3) := (blk_cell BK1.out 3).trans rfl; have hcz9_4 : w8.cell? ⟨gb1, 4, none⟩ = some (.bool false) := (blk_cell BK1.out 4).trans rfl; have hcz9_5 : w8.cell? ⟨gb1, 5, none⟩ = some (.bool false) := (blk_cell BK1.out 5).trans rfl; have hcz9_6 : w8.cell? ⟨gb1, 6, none⟩ = some (.bool a0_6) := (blk_cell BK1.out 6).trans rfl; have hcz9_7 : w8.cell? ⟨gb1, 7, none⟩ = some (.bool a0_7) := (blk_cell BK1.out 7).trans rfl; have hcz9_8 : w8.cell? ⟨gb1, 8, none⟩ = some (.int .i64 a0_8) := (blk_cell BK1.out 8).trans rfl; have hcz9_9 : w8.cell? ⟨gb1, 9, none⟩ = some (.int .i64 a0_9) := (blk_cell BK1.out 9).trans rfl; have hcz9_10 : w8.cell? ⟨gb1, 10, none⟩ = some (.int .i64 a0_10) := (blk_cell BK1.out 10).trans rfl; have hcz9_11 : w8.cell? ⟨gb1, 11, none⟩ = some (.int .i64 a0_11) := (blk_cell BK1.out 11).trans rfl; have hcz9_12 : w8.cell? ⟨gb1, 12, none⟩ = some (.int .i64 a0_12) := (blk_cell BK1.out 12).trans rfl; have hfz9_0 := blk_frozen BK1.out 0; have hfz9_1 := blk_frozen BK1.out 1; have hfz9_2 := blk_frozen BK1.out 2; have hfz9_3 := blk_frozen BK1.out 3; have hfz9_4 := blk_frozen BK1.out 4; have hfz9_5 := blk_frozen BK1.out 5; have hfz9_6 := blk_frozen BK1.out 6; have hfz9_7 := blk_frozen BK1.out 7; have hfz9_8 := blk_frozen BK1.out 8; have hfz9_9 := blk_frozen BK1.out 9; have hfz9_10 := blk_frozen BK1.out 10; have hfz9_11 := blk_frozen BK1.out 11; have hfz9_12 := blk_frozen BK1.out 12))
      go_ret
      exact ⟨by first | rfl | (simp [errW_none, errW_some] <;> rfl) | (simp [*, errW_none, errW_some] <;> rfl), by repeat (first | (with_reducible first | exact HB.out | apply below_alloc | apply pw_below_drewN | apply below_drew1 | refine below_set ?_ GE1.out) | exact HB.out)⟩
end Go.Proofs.YtebfpnbnoinhbaaGreatDoor.Q
namespace Go.Proofs.YtebfpnbnoinhbaaGreatDoor.Q
open Go.RowKit Go.Proofs.YtebfpnbnoinhbaaGreatDoorW.PrintWords Go.Proofs.YtebfpnbnoinhbaaGreatDoorW.PrintLast Go.Proofs.YtebfpnbnoinhbaaGreatDoorW.PrintMore
attribute [local go_sem] max2_int max_two
set_option linter.unusedVariables false
set_option linter.unusedSimpArgs false
mutual
def sculleryref14_Judge.j0 : Nat → Int → Int → Bool → Bool → Bool → Bool → Bool → Bool → Bool → Bool → Bool → Int → Int → Int → Int → Int → Bool → Bool → Bool → Bool → Bool → Bool → Bool → Bool → Int → Int → Int → Int → Int → Option (Int)
  | 0, _, _, _, _, _, _, _, _, _, _, _, _, _, _, _, _, _, _, _, _, _, _, _, _, _, _, _, _, _ => none
  | k + 1, x0, x1, x17, x2000, x2001, x2002, x2003, x2004, x2005, x2006, x2007, x2008, x2009, x2010, x2011, x2012, x3000, x3001, x3002, x3003, x3004, x3005, x3006, x3007, x3008, x3009, x3010, x3011, x3012 => if x17 = true then (some 0) else (if x3001 = true then (sculleryref14_Judge.j1 k x0 x1 true x2000 x2001 x2002 x2003 x2004 x2005 x2006 x2007 x2008 x2009 x2010 x2011 x2012 x3000 x3001 x3002 x3003 x3004 x3005 x3006 x3007 x3008 x3009 x3010 x3011 x3012) else (if x3008 ≥ 0 then (if x0 > x3008 then (sculleryref14_Judge.j1 k x0 x1 true x2000 x2001 x2002 x2003 x2004 x2005 x2006 x2007 x2008 x2009 x2010 x2011 x2012 x3000 x3001 x3002 x3003 x3004 x3005 x3006 x3007 x3008 x3009 x3010 x3011 x3012) else (if x3011 ≥ 0 then (sculleryref14_Judge.j1 k x0 x1 (decide ((wrap64 (x1 - x0)) < x3011)) x2000 x2001 x2002 x2003 x2004 x2005 x2006 x2007 x2008 x2009 x2010 x2011 x2012 x3000 x3001 x3002 x3003 x3004 x3005 x3006 x3007 x3008 x3009 x3010 x3011 x3012) else (sculleryref14_Judge.j1 k x0 x1 false x2000 x2001 x2002 x2003 x2004 x2005 x2006 x2007 x2008 x2009 x2010 x2011 x2012 x3000 x3001 x3002 x3003 x3004 x3005 x3006 x3007 x3008 x3009 x3010 x3011 x3012))) else (if x3011 ≥ 0 then (sculleryref14_Judge.j1 k x0 x1 (decide ((wrap64 (x1 - x0)) < x3011)) x2000 x2001 x2002 x2003 x2004 x2005 x2006 x2007 x2008 x2009 x2010 x2011 x2012 x3000 x3001 x3002 x3003 x3004 x3005 x3006 x3007 x3008 x3009 x3010 x3011 x3012) else (sculleryref14_Judge.j1 k x0 x1 false x2000 x2001 x2002 x2003 x2004 x2005 x2006 x2007 x2008 x2009 x2010 x2011 x2012 x3000 x3001 x3002 x3003 x3004 x3005 x3006 x3007 x3008 x3009 x3010 x3011 x3012))))
def sculleryref14_Judge.j1 : Nat → Int → Int → Bool → Bool → Bool → Bool → Bool → Bool → Bool → Bool → Bool → Int → Int → Int → Int → Int → Bool → Bool → Bool → Bool → Bool → Bool → Bool → Bool → Int → Int → Int → Int → Int → Option (Int)
  | 0, _, _, _, _, _, _, _, _, _, _, _, _, _, _, _, _, _, _, _, _, _, _, _, _, _, _, _, _, _ => none
  | k + 1, x0, x1, x43, x2000, x2001, x2002, x2003, x2004, x2005, x2006, x2007, x2008, x2009, x2010, x2011, x2012, x3000, x3001, x3002, x3003, x3004, x3005, x3006, x3007, x3008, x3009, x3010, x3011, x3012 => if x43 = true then (some 2) else (if x0 < x1 then (some 0) else (if x3010 ≥ 0 then (if (wrap64 (x0 - x1)) ≤ x3010 then ((sculleryref14_strict.f x2000 x2001 x2002 x2003 x2004 x2005 x2006 x2007 x2008 x2009 x2010 x2011 x2012).bind fun t3 => (if t3 = true then (some 1) else (some 0))) else (some 1)) else (some 1)))
end
def sculleryref14_Judge.f (k : Nat) (a0 : Int) (a1 : Int) (a2_0 : Bool) (a2_1 : Bool) (a2_2 : Bool) (a2_3 : Bool) (a2_4 : Bool) (a2_5 : Bool) (a2_6 : Bool) (a2_7 : Bool) (a2_8 : Int) (a2_9 : Int) (a2_10 : Int) (a2_11 : Int) (a2_12 : Int) (a3_0 : Bool) (a3_1 : Bool) (a3_2 : Bool) (a3_3 : Bool) (a3_4 : Bool) (a3_5 : Bool) (a3_6 : Bool) (a3_7 : Bool) (a3_8 : Int) (a3_9 : Int) (a3_10 : Int) (a3_11 : Int) (a3_12 : Int) : Option (Int) := if a2_1 = true then (some 1) else (if a0 < a1 then (sculleryref14_Judge.j0 k a0 a1 a2_6 a2_0 a2_1 a2_2 a2_3 a2_4 a2_5 a2_6 a2_7 a2_8 a2_9 a2_10 a2_11 a2_12 a3_0 a3_1 a3_2 a3_3 a3_4 a3_5 a3_6 a3_7 a3_8 a3_9 a3_10 a3_11 a3_12) else (sculleryref14_Judge.j0 k a0 a1 false a2_0 a2_1 a2_2 a2_3 a2_4 a2_5 a2_6 a2_7 a2_8 a2_9 a2_10 a2_11 a2_12 a3_0 a3_1 a3_2 a3_3 a3_4 a3_5 a3_6 a3_7 a3_8 a3_9 a3_10 a3_11 a3_12))
set_option maxHeartbeats 8000000 in
set_option maxRecDepth 100000 in
theorem sculleryref14_Judge.calls (k : Nat) (a0 : Int) (a1 : Int) (a2_0 : Bool) (a2_1 : Bool) (a2_2 : Bool) (a2_3 : Bool) (a2_4 : Bool) (a2_5 : Bool) (a2_6 : Bool) (a2_7 : Bool) (a2_8 : Int) (a2_9 : Int) (a2_10 : Int) (a2_11 : Int) (a2_12 : Int) (a3_0 : Bool) (a3_1 : Bool) (a3_2 : Bool) (a3_3 : Bool) (a3_4 : Bool) (a3_5 : Bool) (a3_6 : Bool) (a3_7 : Bool) (a3_8 : Int) (a3_9 : Int) (a3_10 : Int) (a3_11 : Int) (a3_12 : Int) (r : Int) (w : World) (h : sculleryref14_Judge.f k a0 a1 a2_0 a2_1 a2_2 a2_3 a2_4 a2_5 a2_6 a2_7 a2_8 a2_9 a2_10 a2_11 a2_12 a3_0 a3_1 a3_2 a3_3 a3_4 a3_5 a3_6 a3_7 a3_8 a3_9 a3_10 a3_11 a3_12 = some r) :
    Calls Tryz.prog 14 #[.int .i64 a0, .int .i64 a1, .agg #[.bool a2_0, .bool a2_1, .bool a2_2, .bool a2_3, .bool a2_4, .bool a2_5, .bool a2_6, .bool a2_7, .int .i64 a2_8, .int .i64 a2_9, .int .i64 a2_10, .int .i64 a2_11, .int .i64 a2_12], .agg #[.bool a3_0, .bool a3_1, .bool a3_2, .bool a3_3, .bool a3_4, .bool a3_5, .bool a3_6, .bool a3_7, .int .i64 a3_8, .int .i64 a3_9, .int .i64 a3_10, .int .i64 a3_11, .int .i64 a3_12]] w fun e w' => e = .returned (.int .i64 r) ∧ Below w.heap.size w w' := by
  have hu36 := Tryz.underlying36
  have HB := Aside0.mk (Below.refl w.heap.size w)
  have H : (if a2_1 = true then (some 1) else (if a0 < a1 then (sculleryref14_Judge.j0 k a0 a1 a2_6 a2_0 a2_1 a2_2 a2_3 a2_4 a2_5 a2_6 a2_7 a2_8 a2_9 a2_10 a2_11 a2_12 a3_0 a3_1 a3_2 a3_3 a3_4 a3_5 a3_6 a3_7 a3_8 a3_9 a3_10 a3_11 a3_12) else (sculleryref14_Judge.j0 k a0 a1 false a2_0 a2_1 a2_2 a2_3 a2_4 a2_5 a2_6 a2_7 a2_8 a2_9 a2_10 a2_11 a2_12 a3_0 a3_1 a3_2 a3_3 a3_4 a3_5 a3_6 a3_7 a3_8 a3_9 a3_10 a3_11 a3_12))) = some r := h
  clear h
  by_cases c5 : a2_1 = true
  · subst c5
    have H1 : (some 1) = some r := by rw [if_pos rfl] at H; exact H
    clear H
    have H := H1
    clear H1
    obtain rfl := Option.some.inj H
    go_enter Tryz.func14, Tryz.ntmps14
    go_wp2_with (first | ((with_reducible refine gate_dst (N := 6) rfl ?_); refine box_event ?hg (N := 6) ?hd (cs := #[.bool a2_0, .bool true, .bool a2_2, .bool a2_3, .bool a2_4, .bool a2_5, .bool a2_6, .bool a2_7, .int .i64 a2_8, .int .i64 a2_9, .int .i64 a2_10, .int .i64 a2_11, .int .i64 a2_12]) (t := 36) ?hr ?_; (case hd => rfl); (case hg => rfl); (case hr => first | (go_simp; done) | (go_simp; rfl)); intro gb1 hg w6 hbox hb; have n0_ := Aside0.mk (below_step (by repeat (first | (with_reducible first | exact HB.out | apply below_alloc | apply pw_below_drewN | apply below_drew1) | exact HB.out)) hb); have n1_ := Aside0.mk (hbox); have n2_ := Aside0.mk ((by rw [hg]; exact (below_size (by repeat (first | (with_reducible first | exact HB.out | apply below_alloc | apply pw_below_drewN | apply below_drew1) | exact HB.out))) : w.heap.size ≤ gb1)); have n3_ := Aside0.mk ((by rw [hg]; exact (below_size (by repeat (first | (with_reducible first | exact HB.out | apply below_alloc | apply pw_below_drewN | apply below_drew1) | exact HB.out))) : w.heap.size ≤ gb1)); clear HB; have HB := n0_; have BK1 := n1_; have GW1 := n2_; have GE1 := n3_; clear n0_ n1_ n2_ n3_; clear hb hbox hg) | ((with_reducible refine gate_dst (N := 7) rfl ?_); refine box_event ?hg (N := 7) ?hd (cs := #[.bool a3_0, .bool a3_1, .bool a3_2, .bool a3_3, .bool a3_4, .bool a3_5, .bool a3_6, .bool a3_7, .int .i64 a3_8, .int .i64 a3_9, .int .i64 a3_10, .int .i64 a3_11, .int .i64 a3_12]) (t := 36) ?hr ?_; (case hd => rfl); (case hg => rfl); (case hr => first | (go_simp; done) | (go_simp; rfl)); intro gb2 hg w7 hbox hb; have n0_ := Aside0.mk (blk_below (g := gb1) (o := .cells #[.bool a2_0, .bool true, .bool a2_2, .bool a2_3, .bool a2_4, .bool a2_5, .bool a2_6, .bool a2_7, .int .i64 a2_8, .int .i64 a2_9, .int .i64 a2_10, .int .i64 a2_11, .int .i64 a2_12] 36 (0, 0)) (by (with_reducible repeat (first | refine blk_drewN ?_ _ | refine blk_drew ?_ | refine blk_alloc ?_ _)); exact BK1.out) hb); have n1_ := Aside0.mk (below_step (by repeat (first | (with_reducible first | exact HB.out | apply below_alloc | apply pw_below_drewN | apply below_drew1 | refine below_set ?_ GE1.out) | exact HB.out)) hb); have n2_ := Aside0.mk (hbox); have n3_ := Aside0.mk ((by rw [hg]; exact (below_size (by repeat (first | (with_reducible first | exact HB.out | apply below_alloc | apply pw_below_drewN | apply below_drew1 | refine below_set ?_ GE1.out) | exact HB.out))) : w.heap.size ≤ gb2)); have n4_ := Aside0.mk ((by rw [hg]; exact (below_size (by repeat (first | (with_reducible first | exact HB.out | apply below_alloc | apply pw_below_drewN | apply below_drew1 | refine below_set ?_ GE1.out) | exact HB.out))) : w.heap.size ≤ gb2)); have n5_ := Aside0.mk ((by rw [hg]; exact Nat.ne_of_lt (blk_lt (g := gb1) (o := .cells #[.bool a2_0, .bool true, .bool a2_2, .bool a2_3, .bool a2_4, .bool a2_5, .bool a2_6, .bool a2_7, .int .i64 a2_8, .int .i64 a2_9, .int .i64 a2_10, .int .i64 a2_11, .int .i64 a2_12] 36 (0, 0)) (by (with_reducible repeat (first | refine blk_drewN ?_ _ | refine blk_drew ?_ | refine blk_alloc ?_ _)); exact BK1.out)) : gb1 ≠ gb2)); have n6_ := Aside0.mk ((by rw [hg]; exact Nat.ne_of_gt (blk_lt (g := gb1) (o := .cells #[.bool a2_0, .bool true, .bool a2_2, .bool a2_3, .bool a2_4, .bool a2_5, .bool a2_6, .bool a2_7, .int .i64 a2_8, .int .i64 a2_9, .int .i64 a2_10, .int .i64 a2_11, .int .i64 a2_12] 36 (0, 0)) (by (with_reducible repeat (first | refine blk_drewN ?_ _ | refine blk_drew ?_ | refine blk_alloc ?_ _)); exact BK1.out)) : gb2 ≠ gb1)); clear BK1; clear HB; have BK1 := n0_; have HB := n1_; have BK2 := n2_; have GW2 := n3_; have GE2 := n4_; have NB1_2 := n5_; have NB2_1 := n6_; clear n0_ n1_ n2_ n3_ n4_ n5_ n6_; clear hb hbox hg; have hnb8 := NB1_2.out; have hnc8 := NB2_1.out; have hcz9_0 : w7.cell? ⟨gb1, 0, none⟩ = some (.bool a2_0) := (blk_cell BK1.out 0).trans rfl; have hcz9_1 : w7.cell? ⟨gb1, 1, none⟩ = some (.bool true) := (blk_cell BK1.out 1).trans rfl; have hcz9_2 : w7.cell? ⟨gb1, 2, none⟩ = some (.bool a2_2) := (blk_cell BK1.out 2).trans rfl; have hcz9_3 : w7.cell? ⟨gb1, 3, none⟩ = some (.bool a2_3) := (blk_cell BK1.out 3).trans rfl; have hcz9_4 : w7.cell? ⟨gb1, 4, none⟩ = some (.bool a2_4) := (blk_cell BK1.out 4).trans rfl; have hcz9_5 : w7.cell? ⟨gb1, 5, none⟩ = some (.bool a2_5) := (blk_cell BK1.out 5).trans rfl; have hcz9_6 : w7.cell? ⟨gb1, 6, none⟩ = some (.bool a2_6) := (blk_cell BK1.out 6).trans rfl; have hcz9_7 : w7.cell? ⟨gb1, 7, none⟩ = some (.bool a2_7) := (blk_cell BK1.out 7).trans rfl; have hcz9_8 : w7.cell? ⟨gb1, 8, none⟩ = some (.int .i64 a2_8) := (blk_cell BK1.out 8).trans rfl; have hcz9_9 : w7.cell? ⟨gb1, 9, none⟩ = some (.int .i64 a2_9) := (blk_cell BK1.out 9).trans rfl; have hcz9_10 : w7.cell? ⟨gb1, 10, none⟩ = some (.int .i64 a2_10) := (blk_cell BK1.out 10).trans rfl; have hcz9_11 : w7.cell? ⟨gb1, 11, none⟩ = some (.int .i64 a2_11) := (blk_cell BK1.out 11).trans rfl; have hcz9_12 : w7.cell? ⟨gb1, 12, none⟩ = some (.int .i64 a2_12) := (blk_cell BK1.out 12).trans rfl; have hfz9_0 := blk_frozen BK1.out 0; have hfz9_1 := blk_frozen BK1.out 1; have hfz9_2 := blk_frozen BK1.out 2; have hfz9_3 := blk_frozen BK1.out 3; have hfz9_4 := blk_frozen BK1.out 4; have hfz9_5 := blk_frozen BK1.out 5; have hfz9_6 := blk_frozen BK1.out 6; have hfz9_7 := blk_frozen BK1.out 7; have hfz9_8 := blk_frozen BK1.out 8; have hfz9_9 := blk_frozen BK1.out 9; have hfz9_10 := blk_frozen BK1.out 10; have hfz9_11 := blk_frozen BK1.out 11; have hfz9_12 := blk_frozen BK1.out 12))
    go_ret
    exact ⟨by first | rfl | (simp [errW_none, errW_some] <;> rfl) | (simp [*, errW_none, errW_some] <;> rfl), by repeat (first | (with_reducible first | exact HB.out | apply below_alloc | apply pw_below_drewN | apply below_drew1 | refine below_set ?_ GE1.out | refine below_set ?_ GE2.out) | exact HB.out)⟩
  · replace c5 := Bool.eq_false_iff.mpr c5
    subst c5
    have H1 : (if a0 < a1 then (sculleryref14_Judge.j0 k a0 a1 a2_6 a2_0 false a2_2 a2_3 a2_4 a2_5 a2_6 a2_7 a2_8 a2_9 a2_10 a2_11 a2_12 a3_0 a3_1 a3_2 a3_3 a3_4 a3_5 a3_6 a3_7 a3_8 a3_9 a3_10 a3_11 a3_12) else (sculleryref14_Judge.j0 k a0 a1 false a2_0 false a2_2 a2_3 a2_4 a2_5 a2_6 a2_7 a2_8 a2_9 a2_10 a2_11 a2_12 a3_0 a3_1 a3_2 a3_3 a3_4 a3_5 a3_6 a3_7 a3_8 a3_9 a3_10 a3_11 a3_12)) = some r := by rw [if_neg (show ¬ (false = true) by decide)] at H; exact H
    clear H
    have H := H1
    clear H1
    have HC10 := Aside0.mk H
    clear H
    go_enter Tryz.func14, Tryz.ntmps14
    go_upto_region 3 with (first | ((with_reducible refine gate_dst (N := 6) rfl ?_); refine box_event ?hg (N := 6) ?hd (cs := #[.bool a2_0, .bool false, .bool a2_2, .bool a2_3, .bool a2_4, .bool a2_5, .bool a2_6, .bool a2_7, .int .i64 a2_8, .int .i64 a2_9, .int .i64 a2_10, .int .i64 a2_11, .int .i64 a2_12]) (t := 36) ?hr ?_; (case hd => rfl); (case hg => rfl); (case hr => first | (go_simp; done) | (go_simp; rfl)); intro gb1 hg w11 hbox hb; have n0_ := Aside0.mk (below_step (by repeat (first | (with_reducible first | exact HB.out | apply below_alloc | apply pw_below_drewN | apply below_drew1) | exact HB.out)) hb); have n1_ := Aside0.mk (hbox); have n2_ := Aside0.mk ((by rw [hg]; exact (below_size (by repeat (first | (with_reducible first | exact HB.out | apply below_alloc | apply pw_below_drewN | apply below_drew1) | exact HB.out))) : w.heap.size ≤ gb1)); have n3_ := Aside0.mk ((by rw [hg]; exact (below_size (by repeat (first | (with_reducible first | exact HB.out | apply below_alloc | apply pw_below_drewN | apply below_drew1) | exact HB.out))) : w.heap.size ≤ gb1)); clear HB; have HB := n0_; have BK1 := n1_; have GW1 := n2_; have GE1 := n3_; clear n0_ n1_ n2_ n3_; clear hb hbox hg) | ((with_reducible refine gate_dst (N := 7) rfl ?_); refine box_event ?hg (N := 7) ?hd (cs := #[.bool a3_0, .bool a3_1, .bool a3_2, .bool a3_3, .bool a3_4, .bool a3_5, .bool a3_6, .bool a3_7, .int .i64 a3_8, .int .i64 a3_9, .int .i64 a3_10, .int .i64 a3_11, .int .i64 a3_12]) (t := 36) ?hr ?_; (case hd => rfl); (case hg => rfl); (case hr => first | (go_simp; done) | (go_simp; rfl)); intro gb2 hg w12 hbox hb; have n0_ := Aside0.mk (blk_below (g := gb1) (o := .cells #[.bool a2_0, .bool false, .bool a2_2, .bool a2_3, .bool a2_4, .bool a2_5, .bool a2_6, .bool a2_7, .int .i64 a2_8, .int .i64 a2_9, .int .i64 a2_10, .int .i64 a2_11, .int .i64 a2_12] 36 (0, 0)) (by (with_reducible repeat (first | refine blk_drewN ?_ _ | refine blk_drew ?_ | refine blk_alloc ?_ _)); exact BK1.out) hb); have n1_ := Aside0.mk (below_step (by repeat (first | (with_reducible first | exact HB.out | apply below_alloc | apply pw_below_drewN | apply below_drew1 | refine below_set ?_ GE1.out) | exact HB.out)) hb); have n2_ := Aside0.mk (hbox); have n3_ := Aside0.mk ((by rw [hg]; exact (below_size (by repeat (first | (with_reducible first | exact HB.out | apply below_alloc | apply pw_below_drewN | apply below_drew1 | refine below_set ?_ GE1.out) | exact HB.out))) : w.heap.size ≤ gb2)); have n4_ := Aside0.mk ((by rw [hg]; exact (below_size (by repeat (first | (with_reducible first | exact HB.out | apply below_alloc | apply pw_below_drewN | apply below_drew1 | refine below_set ?_ GE1.out) | exact HB.out))) : w.heap.size ≤ gb2)); have n5_ := Aside0.mk ((by rw [hg]; exact Nat.ne_of_lt (blk_lt (g := gb1) (o := .cells #[.bool a2_0, .bool false, .bool a2_2, .bool a2_3, .bool a2_4, .bool a2_5, .bool a2_6, .bool a2_7, .int .i64 a2_8, .int .i64 a2_9, .int .i64 a2_10, .int .i64 a2_11, .int .i64 a2_12] 36 (0, 0)) (by (with_reducible repeat (first | refine blk_drewN ?_ _ | refine blk_drew ?_ | refine blk_alloc ?_ _)); exact BK1.out)) : gb1 ≠ gb2)); have n6_ := Aside0.mk ((by rw [hg]; exact Nat.ne_of_gt (blk_lt (g := gb1) (o := .cells #[.bool a2_0, .bool false, .bool a2_2, .bool a2_3, .bool a2_4, .bool a2_5, .bool a2_6, .bool a2_7, .int .i64 a2_8, .int .i64 a2_9, .int .i64 a2_10, .int .i64 a2_11, .int .i64 a2_12] 36 (0, 0)) (by (with_reducible repeat (first | refine blk_drewN ?_ _ | refine blk_drew ?_ | refine blk_alloc ?_ _)); exact BK1.out)) : gb2 ≠ gb1)); clear BK1; clear HB; have BK1 := n0_; have HB := n1_; have BK2 := n2_; have GW2 := n3_; have GE2 := n4_; have NB1_2 := n5_; have NB2_1 := n6_; clear n0_ n1_ n2_ n3_ n4_ n5_ n6_; clear hb hbox hg; have hnb13 := NB1_2.out; have hnc13 := NB2_1.out; have hcz14_0 : w12.cell? ⟨gb1, 0, none⟩ = some (.bool a2_0) := (blk_cell BK1.out 0).trans rfl; have hcz14_1 : w12.cell? ⟨gb1, 1, none⟩ = some (.bool false) := (blk_cell BK1.out 1).trans rfl; have hcz14_2 : w12.cell? ⟨gb1, 2, none⟩ = some (.bool a2_2) := (blk_cell BK1.out 2).trans rfl; have hcz14_3 : w12.cell? ⟨gb1, 3, none⟩ = some (.bool a2_3) := (blk_cell BK1.out 3).trans rfl; have hcz14_4 : w12.cell? ⟨gb1, 4, none⟩ = some (.bool a2_4) := (blk_cell BK1.out 4).trans rfl; have hcz14_5 : w12.cell? ⟨gb1, 5, none⟩ = some (.bool a2_5) := (blk_cell BK1.out 5).trans rfl; have hcz14_6 : w12.cell? ⟨gb1, 6, none⟩ = some (.bool a2_6) := (blk_cell BK1.out 6).trans rfl; have hcz14_7 : w12.cell? ⟨gb1, 7, none⟩ = some (.bool a2_7) := (blk_cell BK1.out 7).trans rfl; have hcz14_8 : w12.cell? ⟨gb1, 8, none⟩ = some (.int .i64 a2_8) := (blk_cell BK1.out 8).trans rfl; have hcz14_9 : w12.cell? ⟨gb1, 9, none⟩ = some (.int .i64 a2_9) := (blk_cell BK1.out 9).trans rfl; have hcz14_10 : w12.cell? ⟨gb1, 10, none⟩ = some (.int .i64 a2_10) := (blk_cell BK1.out 10).trans rfl; have hcz14_11 : w12.cell? ⟨gb1, 11, none⟩ = some (.int .i64 a2_11) := (blk_cell BK1.out 11).trans rfl; have hcz14_12 : w12.cell? ⟨gb1, 12, none⟩ = some (.int .i64 a2_12) := (blk_cell BK1.out 12).trans rfl; have hfz14_0 := blk_frozen BK1.out 0; have hfz14_1 := blk_frozen BK1.out 1; have hfz14_2 := blk_frozen BK1.out 2; have hfz14_3 := blk_frozen BK1.out 3; have hfz14_4 := blk_frozen BK1.out 4; have hfz14_5 := blk_frozen BK1.out 5; have hfz14_6 := blk_frozen BK1.out 6; have hfz14_7 := blk_frozen BK1.out 7; have hfz14_8 := blk_frozen BK1.out 8; have hfz14_9 := blk_frozen BK1.out 9; have hfz14_10 := blk_frozen BK1.out 10; have hfz14_11 := blk_frozen BK1.out 11; have hfz14_12 := blk_frozen BK1.out 12))
    (try simp only [Act.put, List.setIfInBounds_toArray, List.set_cons_zero, List.set_cons_succ])
    go_cut [17] (fun v17 wc => ∃ (kq : Nat) (x17_9 : Bool), v17 = .bool x17_9 ∧ Aside0 (sculleryref14_Judge.j0 kq a0 a1 x17_9 a2_0 false a2_2 a2_3 a2_4 a2_5 a2_6 a2_7 a2_8 a2_9 a2_10 a2_11 a2_12 a3_0 a3_1 a3_2 a3_3 a3_4 a3_5 a3_6 a3_7 a3_8 a3_9 a3_10 a3_11 a3_12 = some r) ∧ Aside0 (kq ≤ k) ∧ Aside0 (wc.heap[gb1]? = some (.cells #[.bool a2_0, .bool false, .bool a2_2, .bool a2_3, .bool a2_4, .bool a2_5, .bool a2_6, .bool a2_7, .int .i64 a2_8, .int .i64 a2_9, .int .i64 a2_10, .int .i64 a2_11, .int .i64 a2_12] 36 (0, 0))) ∧ Aside0 (wc.heap[gb2]? = some (.cells #[.bool a3_0, .bool a3_1, .bool a3_2, .bool a3_3, .bool a3_4, .bool a3_5, .bool a3_6, .bool a3_7, .int .i64 a3_8, .int .i64 a3_9, .int .i64 a3_10, .int .i64 a3_11, .int .i64 a3_12] 36 (0, 0))) ∧ Aside0 (Below w.heap.size w wc))
    case first =>
      have H := HC10.out
      clear HC10
      by_cases c15 : a0 < a1
      · rw [if_pos c15] at H
        have c15b0 : decide (a0 < a1) = true := decide_eq_true c15
        clear c15
        (first | rw [c15b0] | (simp only [i64_w, i32_w]; rw [c15b0]) | skip)
        have H' := Aside0.mk H
        clear H
        have hnb16 := NB1_2.out
        have hnc16 := NB2_1.out
        have hcz17_0 : w12.cell? ⟨gb1, 0, none⟩ = some (.bool a2_0) := (blk_cell BK1.out 0).trans rfl
        have hcz17_1 : w12.cell? ⟨gb1, 1, none⟩ = some (.bool false) := (blk_cell BK1.out 1).trans rfl
        have hcz17_2 : w12.cell? ⟨gb1, 2, none⟩ = some (.bool a2_2) := (blk_cell BK1.out 2).trans rfl
        have hcz17_3 : w12.cell? ⟨gb1, 3, none⟩ = some (.bool a2_3) := (blk_cell BK1.out 3).trans rfl
        have hcz17_4 : w12.cell? ⟨gb1, 4, none⟩ = some (.bool a2_4) := (blk_cell BK1.out 4).trans rfl
        have hcz17_5 : w12.cell? ⟨gb1, 5, none⟩ = some (.bool a2_5) := (blk_cell BK1.out 5).trans rfl
        have hcz17_6 : w12.cell? ⟨gb1, 6, none⟩ = some (.bool a2_6) := (blk_cell BK1.out 6).trans rfl
        have hcz17_7 : w12.cell? ⟨gb1, 7, none⟩ = some (.bool a2_7) := (blk_cell BK1.out 7).trans rfl
        have hcz17_8 : w12.cell? ⟨gb1, 8, none⟩ = some (.int .i64 a2_8) := (blk_cell BK1.out 8).trans rfl
        have hcz17_9 : w12.cell? ⟨gb1, 9, none⟩ = some (.int .i64 a2_9) := (blk_cell BK1.out 9).trans rfl
        have hcz17_10 : w12.cell? ⟨gb1, 10, none⟩ = some (.int .i64 a2_10) := (blk_cell BK1.out 10).trans rfl
        have hcz17_11 : w12.cell? ⟨gb1, 11, none⟩ = some (.int .i64 a2_11) := (blk_cell BK1.out 11).trans rfl
        have hcz17_12 : w12.cell? ⟨gb1, 12, none⟩ = some (.int .i64 a2_12) := (blk_cell BK1.out 12).trans rfl
        have hfz17_0 := blk_frozen BK1.out 0
        have hfz17_1 := blk_frozen BK1.out 1
        have hfz17_2 := blk_frozen BK1.out 2
        have hfz17_3 := blk_frozen BK1.out 3
        have hfz17_4 := blk_frozen BK1.out 4
        have hfz17_5 := blk_frozen BK1.out 5
        have hfz17_6 := blk_frozen BK1.out 6
        have hfz17_7 := blk_frozen BK1.out 7
        have hfz17_8 := blk_frozen BK1.out 8
        have hfz17_9 := blk_frozen BK1.out 9
        have hfz17_10 := blk_frozen BK1.out 10
        have hfz17_11 := blk_frozen BK1.out 11
        have hfz17_12 := blk_frozen BK1.out 12
        go_wp2
        go_meet
        case rel => exact ⟨_, (a2_6), (by first | rfl | (simp; done) | (simp [*]; done)), H', ⟨by first | omega | exact Nat.le_refl _⟩, ⟨by (with_reducible repeat (first | refine blk_drewN ?_ _ | refine blk_drew ?_ | refine blk_alloc ?_ _)); exact BK1.out⟩, ⟨by (with_reducible repeat (first | refine blk_drewN ?_ _ | refine blk_drew ?_ | refine blk_alloc ?_ _)); exact BK2.out⟩, ⟨by repeat (first | (with_reducible first | exact HB.out | apply below_alloc | apply pw_below_drewN | apply below_drew1 | refine below_set ?_ GE1.out | refine below_set ?_ GE2.out) | exact HB.out)⟩⟩
      · rw [if_neg c15] at H
        have c15b0 : decide (a0 < a1) = false := decide_eq_false c15
        clear c15
        (first | rw [c15b0] | (simp only [i64_w, i32_w]; rw [c15b0]) | skip)
        have H' := Aside0.mk H
        clear H
        go_wp2
        go_meet
        case rel => exact ⟨_, (false), (by first | rfl | (simp; done) | (simp [*]; done)), H', ⟨by first | omega | exact Nat.le_refl _⟩, ⟨by (with_reducible repeat (first | refine blk_drewN ?_ _ | refine blk_drew ?_ | refine blk_alloc ?_ _)); exact BK1.out⟩, ⟨by (with_reducible repeat (first | refine blk_drewN ?_ _ | refine blk_drew ?_ | refine blk_alloc ?_ _)); exact BK2.out⟩, ⟨by repeat (first | (with_reducible first | exact HB.out | apply below_alloc | apply pw_below_drewN | apply below_drew1 | refine below_set ?_ GE1.out | refine below_set ?_ GE2.out) | exact HB.out)⟩⟩
    case rest =>
      clear HC10
      try clear c1
      try clear p2
      try clear c5
      try clear c8
      try clear c13
      try clear c14
      try clear c15
      try clear c15b0
      try clear c16
      try clear hcz14_0
      try clear hcz14_1
      try clear hcz14_10
      try clear hcz14_11
      try clear hcz14_12
      try clear hcz14_2
      try clear hcz14_3
      try clear hcz14_4
      try clear hcz14_5
      try clear hcz14_6
      try clear hcz14_7
      try clear hcz14_8
      try clear hcz14_9
      try clear hcz17_0
      try clear hcz17_1
      try clear hcz17_10
      try clear hcz17_11
      try clear hcz17_12
      try clear hcz17_2
      try clear hcz17_3
      try clear hcz17_4
      try clear hcz17_5
      try clear hcz17_6
      try clear hcz17_7
      try clear hcz17_8
      try clear hcz17_9
      try clear hcz9_0
      try clear hcz9_1
      try clear hcz9_10
      try clear hcz9_11
      try clear hcz9_12
      try clear hcz9_2
      try clear hcz9_3
      try clear hcz9_4
      try clear hcz9_5
      try clear hcz9_6
      try clear hcz9_7
      try clear hcz9_8
      try clear hcz9_9
      try clear hfz14_0
      try clear hfz14_1
      try clear hfz14_10
      try clear hfz14_11
      try clear hfz14_12
      try clear hfz14_2
      try clear hfz14_3
      try clear hfz14_4
      try clear hfz14_5
      try clear hfz14_6
      try clear hfz14_7
      try clear hfz14_8
      try clear hfz14_9
      try clear hfz17_0
      try clear hfz17_1
      try clear hfz17_10
      try clear hfz17_11
      try clear hfz17_12
      try clear hfz17_2
      try clear hfz17_3
      try clear hfz17_4
      try clear hfz17_5
      try clear hfz17_6
      try clear hfz17_7
      try clear hfz17_8
      try clear hfz17_9
      try clear hfz9_0
      try clear hfz9_1
      try clear hfz9_10
      try clear hfz9_11
      try clear hfz9_12
      try clear hfz9_2
      try clear hfz9_3
      try clear hfz9_4
      try clear hfz9_5
      try clear hfz9_6
      try clear hfz9_7
      try clear hfz9_8
      try clear hfz9_9
      obtain ⟨kq, x17_9, rfl, HA, HJ9, BK1, BK2, HB⟩ := hcut
      cases kq with
      | zero => exact absurd HA.out (by simp [sculleryref14_Judge.j0])
      | succ kj9 =>
        have H := HA.out
        clear HA
        simp only [sculleryref14_Judge.j0] at H
        by_cases c18 : x17_9 = true
        · subst c18
          have H1 : (some 0) = some r := by rw [if_pos rfl] at H; exact H
          clear H
          have H := H1
          clear H1
          obtain rfl := Option.some.inj H
          go_wp2
          go_ret
          exact ⟨by first | rfl | (simp [errW_none, errW_some] <;> rfl) | (simp [*, errW_none, errW_some] <;> rfl), by repeat (first | (with_reducible first | exact HB.out | apply below_alloc | apply pw_below_drewN | apply below_drew1 | refine below_set ?_ GE1.out | refine below_set ?_ GE2.out) | exact HB.out)⟩
        · replace c18 := Bool.eq_false_iff.mpr c18
          subst c18
          have H1 : (if a3_1 = true then (sculleryref14_Judge.j1 kj9 a0 a1 true a2_0 false a2_2 a2_3 a2_4 a2_5 a2_6 a2_7 a2_8 a2_9 a2_10 a2_11 a2_12 a3_0 a3_1 a3_2 a3_3 a3_4 a3_5 a3_6 a3_7 a3_8 a3_9 a3_10 a3_11 a3_12) else (if a3_8 ≥ 0 then (if a0 > a3_8 then (sculleryref14_Judge.j1 kj9 a0 a1 true a2_0 false a2_2 a2_3 a2_4 a2_5 a2_6 a2_7 a2_8 a2_9 a2_10 a2_11 a2_12 a3_0 a3_1 a3_2 a3_3 a3_4 a3_5 a3_6 a3_7 a3_8 a3_9 a3_10 a3_11 a3_12) else (if a3_11 ≥ 0 then (sculleryref14_Judge.j1 kj9 a0 a1 (decide ((wrap64 (a1 - a0)) < a3_11)) a2_0 false a2_2 a2_3 a2_4 a2_5 a2_6 a2_7 a2_8 a2_9 a2_10 a2_11 a2_12 a3_0 a3_1 a3_2 a3_3 a3_4 a3_5 a3_6 a3_7 a3_8 a3_9 a3_10 a3_11 a3_12) else (sculleryref14_Judge.j1 kj9 a0 a1 false a2_0 false a2_2 a2_3 a2_4 a2_5 a2_6 a2_7 a2_8 a2_9 a2_10 a2_11 a2_12 a3_0 a3_1 a3_2 a3_3 a3_4 a3_5 a3_6 a3_7 a3_8 a3_9 a3_10 a3_11 a3_12))) else (if a3_11 ≥ 0 then (sculleryref14_Judge.j1 kj9 a0 a1 (decide ((wrap64 (a1 - a0)) < a3_11)) a2_0 false a2_2 a2_3 a2_4 a2_5 a2_6 a2_7 a2_8 a2_9 a2_10 a2_11 a2_12 a3_0 a3_1 a3_2 a3_3 a3_4 a3_5 a3_6 a3_7 a3_8 a3_9 a3_10 a3_11 a3_12) else (sculleryref14_Judge.j1 kj9 a0 a1 false a2_0 false a2_2 a2_3 a2_4 a2_5 a2_6 a2_7 a2_8 a2_9 a2_10 a2_11 a2_12 a3_0 a3_1 a3_2 a3_3 a3_4 a3_5 a3_6 a3_7 a3_8 a3_9 a3_10 a3_11 a3_12)))) = some r := by rw [if_neg (show ¬ (false = true) by decide)] at H; exact H
          clear H
          have H := H1
          clear H1
          have HC19 := Aside0.mk H
          clear H
          go_upto_region 5 with (fail)
          go_cut [43] (fun v43 wc => ∃ (kq : Nat) (x43_18 : Bool), v43 = .bool x43_18 ∧ Aside0 (sculleryref14_Judge.j1 kq a0 a1 x43_18 a2_0 false a2_2 a2_3 a2_4 a2_5 a2_6 a2_7 a2_8 a2_9 a2_10 a2_11 a2_12 a3_0 a3_1 a3_2 a3_3 a3_4 a3_5 a3_6 a3_7 a3_8 a3_9 a3_10 a3_11 a3_12 = some r) ∧ Aside0 (kq ≤ kj9) ∧ Aside0 (wc.heap[gb1]? = some (.cells #[.bool a2_0, .bool false, .bool a2_2, .bool a2_3, .bool a2_4, .bool a2_5, .bool a2_6, .bool a2_7, .int .i64 a2_8, .int .i64 a2_9, .int .i64 a2_10, .int .i64 a2_11, .int .i64 a2_12] 36 (0, 0))) ∧ Aside0 (wc.heap[gb2]? = some (.cells #[.bool a3_0, .bool a3_1, .bool a3_2, .bool a3_3, .bool a3_4, .bool a3_5, .bool a3_6, .bool a3_7, .int .i64 a3_8, .int .i64 a3_9, .int .i64 a3_10, .int .i64 a3_11, .int .i64 a3_12] 36 (0, 0))) ∧ Aside0 (Below w.heap.size w wc))
          case first =>
            have H := HC19.out
            clear HC19
            by_cases c20 : a3_1 = true
            · subst c20
              have H1 : (sculleryref14_Judge.j1 kj9 a0 a1 true a2_0 false a2_2 a2_3 a2_4 a2_5 a2_6 a2_7 a2_8 a2_9 a2_10 a2_11 a2_12 a3_0 true a3_2 a3_3 a3_4 a3_5 a3_6 a3_7 a3_8 a3_9 a3_10 a3_11 a3_12) = some r := by rw [if_pos rfl] at H; exact H
              clear H
              have H := H1
              clear H1
              have H' := Aside0.mk H
              clear H
              have hnb21 := NB2_1.out
              have hnc21 := NB1_2.out
              have hcz22_0 : wc.cell? ⟨gb2, 0, none⟩ = some (.bool a3_0) := (blk_cell BK2.out 0).trans rfl
              have hcz22_1 : wc.cell? ⟨gb2, 1, none⟩ = some (.bool true) := (blk_cell BK2.out 1).trans rfl
              have hcz22_2 : wc.cell? ⟨gb2, 2, none⟩ = some (.bool a3_2) := (blk_cell BK2.out 2).trans rfl
              have hcz22_3 : wc.cell? ⟨gb2, 3, none⟩ = some (.bool a3_3) := (blk_cell BK2.out 3).trans rfl
              have hcz22_4 : wc.cell? ⟨gb2, 4, none⟩ = some (.bool a3_4) := (blk_cell BK2.out 4).trans rfl
              have hcz22_5 : wc.cell? ⟨gb2, 5, none⟩ = some (.bool a3_5) := (blk_cell BK2.out 5).trans rfl
              have hcz22_6 : wc.cell? ⟨gb2, 6, none⟩ = some (.bool a3_6) := (blk_cell BK2.out 6).trans rfl
              have hcz22_7 : wc.cell? ⟨gb2, 7, none⟩ = some (.bool a3_7) := (blk_cell BK2.out 7).trans rfl
              have hcz22_8 : wc.cell? ⟨gb2, 8, none⟩ = some (.int .i64 a3_8) := (blk_cell BK2.out 8).trans rfl
              have hcz22_9 : wc.cell? ⟨gb2, 9, none⟩ = some (.int .i64 a3_9) := (blk_cell BK2.out 9).trans rfl
              have hcz22_10 : wc.cell? ⟨gb2, 10, none⟩ = some (.int .i64 a3_10) := (blk_cell BK2.out 10).trans rfl
              have hcz22_11 : wc.cell? ⟨gb2, 11, none⟩ = some (.int .i64 a3_11) := (blk_cell BK2.out 11).trans rfl
              have hcz22_12 : wc.cell? ⟨gb2, 12, none⟩ = some (.int .i64 a3_12) := (blk_cell BK2.out 12).trans rfl
              have hfz22_0 := blk_frozen BK2.out 0
              have hfz22_1 := blk_frozen BK2.out 1
              have hfz22_2 := blk_frozen BK2.out 2
              have hfz22_3 := blk_frozen BK2.out 3
              have hfz22_4 := blk_frozen BK2.out 4
              have hfz22_5 := blk_frozen BK2.out 5
              have hfz22_6 := blk_frozen BK2.out 6
              have hfz22_7 := blk_frozen BK2.out 7
              have hfz22_8 := blk_frozen BK2.out 8
              have hfz22_9 := blk_frozen BK2.out 9
              have hfz22_10 := blk_frozen BK2.out 10
              have hfz22_11 := blk_frozen BK2.out 11
              have hfz22_12 := blk_frozen BK2.out 12
              go_wp2
              go_meet
              case rel => exact ⟨_, (true), (by first | rfl | (simp; done) | (simp [*]; done)), H', ⟨by have := HJ9.out; first | omega | exact Nat.le_refl _⟩, ⟨by (with_reducible repeat (first | refine blk_drewN ?_ _ | refine blk_drew ?_ | refine blk_alloc ?_ _)); exact BK1.out⟩, ⟨by (with_reducible repeat (first | refine blk_drewN ?_ _ | refine blk_drew ?_ | refine blk_alloc ?_ _)); exact BK2.out⟩, ⟨by repeat (first | (with_reducible first | exact HB.out | apply below_alloc | apply pw_below_drewN | apply below_drew1 | refine below_set ?_ GE1.out | refine below_set ?_ GE2.out) | exact HB.out)⟩⟩
            · replace c20 := Bool.eq_false_iff.mpr c20
              subst c20
              have H1 : (if a3_8 ≥ 0 then (if a0 > a3_8 then (sculleryref14_Judge.j1 kj9 a0 a1 true a2_0 false a2_2 a2_3 a2_4 a2_5 a2_6 a2_7 a2_8 a2_9 a2_10 a2_11 a2_12 a3_0 false a3_2 a3_3 a3_4 a3_5 a3_6 a3_7 a3_8 a3_9 a3_10 a3_11 a3_12) else (if a3_11 ≥ 0 then (sculleryref14_Judge.j1 kj9 a0 a1 (decide ((wrap64 (a1 - a0)) < a3_11)) a2_0 false a2_2 a2_3 a2_4 a2_5 a2_6 a2_7 a2_8 a2_9 a2_10 a2_11 a2_12 a3_0 false a3_2 a3_3 a3_4 a3_5 a3_6 a3_7 a3_8 a3_9 a3_10 a3_11 a3_12) else (sculleryref14_Judge.j1 kj9 a0 a1 false a2_0 false a2_2 a2_3 a2_4 a2_5 a2_6 a2_7 a2_8 a2_9 a2_10 a2_11 a2_12 a3_0 false a3_2 a3_3 a3_4 a3_5 a3_6 a3_7 a3_8 a3_9 a3_10 a3_11 a3_12))) else (if a3_11 ≥ 0 then (sculleryref14_Judge.j1 kj9 a0 a1 (decide ((wrap64 (a1 - a0)) < a3_11)) a2_0 false a2_2 a2_3 a2_4 a2_5 a2_6 a2_7 a2_8 a2_9 a2_10 a2_11 a2_12 a3_0 false a3_2 a3_3 a3_4 a3_5 a3_6 a3_7 a3_8 a3_9 a3_10 a3_11 a3_12) else (sculleryref14_Judge.j1 kj9 a0 a1 false a2_0 false a2_2 a2_3 a2_4 a2_5 a2_6 a2_7 a2_8 a2_9 a2_10 a2_11 a2_12 a3_0 false a3_2 a3_3 a3_4 a3_5 a3_6 a3_7 a3_8 a3_9 a3_10 a3_11 a3_12))) = some r := by rw [if_neg (show ¬ (false = true) by decide)] at H; exact H
              clear H
              have H := H1
              clear H1
              by_cases c23 : a3_8 ≥ 0
              · rw [if_pos c23] at H
                have c23b0 : decide (0 ≤ a3_8) = true := decide_eq_true c23
                clear c23
                (first | rw [c23b0] | (simp only [i64_w, i32_w]; rw [c23b0]) | skip)
                by_cases c24 : a0 > a3_8
                · rw [if_pos c24] at H
                  have c24b0 : decide (a3_8 < a0) = true := decide_eq_true c24
                  clear c24
                  have H' := Aside0.mk H
                  clear H
                  have hnb25 := NB2_1.out
                  have hnc25 := NB1_2.out
                  have hcz26_0 : wc.cell? ⟨gb2, 0, none⟩ = some (.bool a3_0) := (blk_cell BK2.out 0).trans rfl
                  have hcz26_1 : wc.cell? ⟨gb2, 1, none⟩ = some (.bool false) := (blk_cell BK2.out 1).trans rfl
                  have hcz26_2 : wc.cell? ⟨gb2, 2, none⟩ = some (.bool a3_2) := (blk_cell BK2.out 2).trans rfl
                  have hcz26_3 : wc.cell? ⟨gb2, 3, none⟩ = some (.bool a3_3) := (blk_cell BK2.out 3).trans rfl
                  have hcz26_4 : wc.cell? ⟨gb2, 4, none⟩ = some (.bool a3_4) := (blk_cell BK2.out 4).trans rfl
                  have hcz26_5 : wc.cell? ⟨gb2, 5, none⟩ = some (.bool a3_5) := (blk_cell BK2.out 5).trans rfl
                  have hcz26_6 : wc.cell? ⟨gb2, 6, none⟩ = some (.bool a3_6) := (blk_cell BK2.out 6).trans rfl
                  have hcz26_7 : wc.cell? ⟨gb2, 7, none⟩ = some (.bool a3_7) := (blk_cell BK2.out 7).trans rfl
                  have hcz26_8 : wc.cell? ⟨gb2, 8, none⟩ = some (.int .i64 a3_8) := (blk_cell BK2.out 8).trans rfl
                  have hcz26_9 : wc.cell? ⟨gb2, 9, none⟩ = some (.int .i64 a3_9) := (blk_cell BK2.out 9).trans rfl
                  have hcz26_10 : wc.cell? ⟨gb2, 10, none⟩ = some (.int .i64 a3_10) := (blk_cell BK2.out 10).trans rfl
                  have hcz26_11 : wc.cell? ⟨gb2, 11, none⟩ = some (.int .i64 a3_11) := (blk_cell BK2.out 11).trans rfl
                  have hcz26_12 : wc.cell? ⟨gb2, 12, none⟩ = some (.int .i64 a3_12) := (blk_cell BK2.out 12).trans rfl
                  have hfz26_0 := blk_frozen BK2.out 0
                  have hfz26_1 := blk_frozen BK2.out 1
                  have hfz26_2 := blk_frozen BK2.out 2
                  have hfz26_3 := blk_frozen BK2.out 3
                  have hfz26_4 := blk_frozen BK2.out 4
                  have hfz26_5 := blk_frozen BK2.out 5
                  have hfz26_6 := blk_frozen BK2.out 6
                  have hfz26_7 := blk_frozen BK2.out 7
                  have hfz26_8 := blk_frozen BK2.out 8
                  have hfz26_9 := blk_frozen BK2.out 9
                  have hfz26_10 := blk_frozen BK2.out 10
                  have hfz26_11 := blk_frozen BK2.out 11
                  have hfz26_12 := blk_frozen BK2.out 12
                  go_wp2
                  go_meet
                  case rel => exact ⟨_, (true), (by first | rfl | (simp; done) | (simp [*]; done)), H', ⟨by have := HJ9.out; first | omega | exact Nat.le_refl _⟩, ⟨by (with_reducible repeat (first | refine blk_drewN ?_ _ | refine blk_drew ?_ | refine blk_alloc ?_ _)); exact BK1.out⟩, ⟨by (with_reducible repeat (first | refine blk_drewN ?_ _ | refine blk_drew ?_ | refine blk_alloc ?_ _)); exact BK2.out⟩, ⟨by repeat (first | (with_reducible first | exact HB.out | apply below_alloc | apply pw_below_drewN | apply below_drew1 | refine below_set ?_ GE1.out | refine below_set ?_ GE2.out) | exact HB.out)⟩⟩
                · rw [if_neg c24] at H
                  have c24b0 : decide (a3_8 < a0) = false := decide_eq_false c24
                  clear c24
                  by_cases c27 : a3_11 ≥ 0
                  · rw [if_pos c27] at H
                    have c27b0 : decide (0 ≤ a3_11) = true := decide_eq_true c27
                    clear c27
                    have H' := Aside0.mk H
                    clear H
                    have hnb28 := NB2_1.out
                    have hnc28 := NB1_2.out
                    have hcz29_0 : wc.cell? ⟨gb2, 0, none⟩ = some (.bool a3_0) := (blk_cell BK2.out 0).trans rfl
                    have hcz29_1 : wc.cell? ⟨gb2, 1, none⟩ = some (.bool false) := (blk_cell BK2.out 1).trans rfl
                    have hcz29_2 : wc.cell? ⟨gb2, 2, none⟩ = some (.bool a3_2) := (blk_cell BK2.out 2).trans rfl
                    have hcz29_3 : wc.cell? ⟨gb2, 3, none⟩ = some (.bool a3_3) := (blk_cell BK2.out 3).trans rfl
                    have hcz29_4 : wc.cell? ⟨gb2, 4, none⟩ = some (.bool a3_4) := (blk_cell BK2.out 4).trans rfl
                    have hcz29_5 : wc.cell? ⟨gb2, 5, none⟩ = some (.bool a3_5) := (blk_cell BK2.out 5).trans rfl
                    have hcz29_6 : wc.cell? ⟨gb2, 6, none⟩ = some (.bool a3_6) := (blk_cell BK2.out 6).trans rfl
                    have hcz29_7 : wc.cell? ⟨gb2, 7, none⟩ = some (.bool a3_7) := (blk_cell BK2.out 7).trans rfl
                    have hcz29_8 : wc.cell? ⟨gb2, 8, none⟩ = some (.int .i64 a3_8) := (blk_cell BK2.out 8).trans rfl
                    have hcz29_9 : wc.cell? ⟨gb2, 9, none⟩ = some (.int .i64 a3_9) := (blk_cell BK2.out 9).trans rfl
                    have hcz29_10 : wc.cell? ⟨gb2, 10, none⟩ = some (.int .i64 a3_10) := (blk_cell BK2.out 10).trans rfl
                    have hcz29_11 : wc.cell? ⟨gb2, 11, none⟩ = some (.int .i64 a3_11) := (blk_cell BK2.out 11).trans rfl
                    have hcz29_12 : wc.cell? ⟨gb2, 12, none⟩ = some (.int .i64 a3_12) := (blk_cell BK2.out 12).trans rfl
                    have hfz29_0 := blk_frozen BK2.out 0
                    have hfz29_1 := blk_frozen BK2.out 1
                    have hfz29_2 := blk_frozen BK2.out 2
                    have hfz29_3 := blk_frozen BK2.out 3
                    have hfz29_4 := blk_frozen BK2.out 4
                    have hfz29_5 := blk_frozen BK2.out 5
                    have hfz29_6 := blk_frozen BK2.out 6
                    have hfz29_7 := blk_frozen BK2.out 7
                    have hfz29_8 := blk_frozen BK2.out 8
                    have hfz29_9 := blk_frozen BK2.out 9
                    have hfz29_10 := blk_frozen BK2.out 10
                    have hfz29_11 := blk_frozen BK2.out 11
                    have hfz29_12 := blk_frozen BK2.out 12
                    go_wp2
                    go_meet
                    case rel => exact ⟨_, (decide ((wrap64 (a1 - a0)) < a3_11)), (by first | rfl | (simp; done) | (simp [*]; done)), H', ⟨by have := HJ9.out; first | omega | exact Nat.le_refl _⟩, ⟨by (with_reducible repeat (first | refine blk_drewN ?_ _ | refine blk_drew ?_ | refine blk_alloc ?_ _)); exact BK1.out⟩, ⟨by (with_reducible repeat (first | refine blk_drewN ?_ _ | refine blk_drew ?_ | refine blk_alloc ?_ _)); exact BK2.out⟩, ⟨by repeat (first | (with_reducible first | exact HB.out | apply below_alloc | apply pw_below_drewN | apply below_drew1 | refine below_set ?_ GE1.out | refine below_set ?_ GE2.out) | exact HB.out)⟩⟩
                  · rw [if_neg c27] at H
                    have c27b0 : decide (0 ≤ a3_11) = false := decide_eq_false c27
                    clear c27
                    have H' := Aside0.mk H
                    clear H
                    have hnb30 := NB2_1.out
                    have hnc30 := NB1_2.out
                    have hcz31_0 : wc.cell? ⟨gb2, 0, none⟩ = some (.bool a3_0) := (blk_cell BK2.out 0).trans rfl
                    have hcz31_1 : wc.cell? ⟨gb2, 1, none⟩ = some (.bool false) := (blk_cell BK2.out 1).trans rfl
                    have hcz31_2 : wc.cell? ⟨gb2, 2, none⟩ = some (.bool a3_2) := (blk_cell BK2.out 2).trans rfl
                    have hcz31_3 : wc.cell? ⟨gb2, 3, none⟩ = some (.bool a3_3) := (blk_cell BK2.out 3).trans rfl
                    have hcz31_4 : wc.cell? ⟨gb2, 4, none⟩ = some (.bool a3_4) := (blk_cell BK2.out 4).trans rfl
                    have hcz31_5 : wc.cell? ⟨gb2, 5, none⟩ = some (.bool a3_5) := (blk_cell BK2.out 5).trans rfl
                    have hcz31_6 : wc.cell? ⟨gb2, 6, none⟩ = some (.bool a3_6) := (blk_cell BK2.out 6).trans rfl
                    have hcz31_7 : wc.cell? ⟨gb2, 7, none⟩ = some (.bool a3_7) := (blk_cell BK2.out 7).trans rfl
                    have hcz31_8 : wc.cell? ⟨gb2, 8, none⟩ = some (.int .i64 a3_8) := (blk_cell BK2.out 8).trans rfl
                    have hcz31_9 : wc.cell? ⟨gb2, 9, none⟩ = some (.int .i64 a3_9) := (blk_cell BK2.out 9).trans rfl
                    have hcz31_10 : wc.cell? ⟨gb2, 10, none⟩ = some (.int .i64 a3_10) := (blk_cell BK2.out 10).trans rfl
                    have hcz31_11 : wc.cell? ⟨gb2, 11, none⟩ = some (.int .i64 a3_11) := (blk_cell BK2.out 11).trans rfl
                    have hcz31_12 : wc.cell? ⟨gb2, 12, none⟩ = some (.int .i64 a3_12) := (blk_cell BK2.out 12).trans rfl
                    have hfz31_0 := blk_frozen BK2.out 0
                    have hfz31_1 := blk_frozen BK2.out 1
                    have hfz31_2 := blk_frozen BK2.out 2
                    have hfz31_3 := blk_frozen BK2.out 3
                    have hfz31_4 := blk_frozen BK2.out 4
                    have hfz31_5 := blk_frozen BK2.out 5
                    have hfz31_6 := blk_frozen BK2.out 6
                    have hfz31_7 := blk_frozen BK2.out 7
                    have hfz31_8 := blk_frozen BK2.out 8
                    have hfz31_9 := blk_frozen BK2.out 9
                    have hfz31_10 := blk_frozen BK2.out 10
                    have hfz31_11 := blk_frozen BK2.out 11
                    have hfz31_12 := blk_frozen BK2.out 12
                    go_wp2
                    go_meet
                    case rel => exact ⟨_, (false), (by first | rfl | (simp; done) | (simp [*]; done)), H', ⟨by have := HJ9.out; first | omega | exact Nat.le_refl _⟩, ⟨by (with_reducible repeat (first | refine blk_drewN ?_ _ | refine blk_drew ?_ | refine blk_alloc ?_ _)); exact BK1.out⟩, ⟨by (with_reducible repeat (first | refine blk_drewN ?_ _ | refine blk_drew ?_ | refine blk_alloc ?_ _)); exact BK2.out⟩, ⟨by repeat (first | (with_reducible first | exact HB.out | apply below_alloc | apply pw_below_drewN | apply below_drew1 | refine below_set ?_ GE1.out | refine below_set ?_ GE2.out) | exact HB.out)⟩⟩
              · rw [if_neg c23] at H
                have c23b0 : decide (0 ≤ a3_8) = false := decide_eq_false c23
                clear c23
                (first | rw [c23b0] | (simp only [i64_w, i32_w]; rw [c23b0]) | skip)
                by_cases c32 : a3_11 ≥ 0
                · rw [if_pos c32] at H
                  have c32b0 : decide (0 ≤ a3_11) = true := decide_eq_true c32
                  clear c32
                  have H' := Aside0.mk H
                  clear H
                  have hnb33 := NB2_1.out
                  have hnc33 := NB1_2.out
                  have hcz34_0 : wc.cell? ⟨gb2, 0, none⟩ = some (.bool a3_0) := (blk_cell BK2.out 0).trans rfl
                  have hcz34_1 : wc.cell? ⟨gb2, 1, none⟩ = some (.bool false) := (blk_cell BK2.out 1).trans rfl
                  have hcz34_2 : wc.cell? ⟨gb2, 2, none⟩ = some (.bool a3_2) := (blk_cell BK2.out 2).trans rfl
                  have hcz34_3 : wc.cell? ⟨gb2, 3, none⟩ = some (.bool a3_3) := (blk_cell BK2.out 3).trans rfl
                  have hcz34_4 : wc.cell? ⟨gb2, 4, none⟩ = some (.bool a3_4) := (blk_cell BK2.out 4).trans rfl
                  have hcz34_5 : wc.cell? ⟨gb2, 5, none⟩ = some (.bool a3_5) := (blk_cell BK2.out 5).trans rfl
                  have hcz34_6 : wc.cell? ⟨gb2, 6, none⟩ = some (.bool a3_6) := (blk_cell BK2.out 6).trans rfl
                  have hcz34_7 : wc.cell? ⟨gb2, 7, none⟩ = some (.bool a3_7) := (blk_cell BK2.out 7).trans rfl
                  have hcz34_8 : wc.cell? ⟨gb2, 8, none⟩ = some (.int .i64 a3_8) := (blk_cell BK2.out 8).trans rfl
                  have hcz34_9 : wc.cell? ⟨gb2, 9, none⟩ = some (.int .i64 a3_9) := (blk_cell BK2.out 9).trans rfl
                  have hcz34_10 : wc.cell? ⟨gb2, 10, none⟩ = some (.int .i64 a3_10) := (blk_cell BK2.out 10).trans rfl
                  have hcz34_11 : wc.cell? ⟨gb2, 11, none⟩ = some (.int .i64 a3_11) := (blk_cell BK2.out 11).trans rfl
                  have hcz34_12 : wc.cell? ⟨gb2, 12, none⟩ = some (.int .i64 a3_12) := (blk_cell BK2.out 12).trans rfl
                  have hfz34_0 := blk_frozen BK2.out 0
                  have hfz34_1 := blk_frozen BK2.out 1
                  have hfz34_2 := blk_frozen BK2.out 2
                  have hfz34_3 := blk_frozen BK2.out 3
                  have hfz34_4 := blk_frozen BK2.out 4
                  have hfz34_5 := blk_frozen BK2.out 5
                  have hfz34_6 := blk_frozen BK2.out 6
                  have hfz34_7 := blk_frozen BK2.out 7
                  have hfz34_8 := blk_frozen BK2.out 8
                  have hfz34_9 := blk_frozen BK2.out 9
                  have hfz34_10 := blk_frozen BK2.out 10
                  have hfz34_11 := blk_frozen BK2.out 11
                  have hfz34_12 := blk_frozen BK2.out 12
                  go_wp2
                  go_meet
                  case rel => exact ⟨_, (decide ((wrap64 (a1 - a0)) < a3_11)), (by first | rfl | (simp; done) | (simp [*]; done)), H', ⟨by have := HJ9.out; first | omega | exact Nat.le_refl _⟩, ⟨by (with_reducible repeat (first | refine blk_drewN ?_ _ | refine blk_drew ?_ | refine blk_alloc ?_ _)); exact BK1.out⟩, ⟨by (with_reducible repeat (first | refine blk_drewN ?_ _ | refine blk_drew ?_ | refine blk_alloc ?_ _)); exact BK2.out⟩, ⟨by repeat (first | (with_reducible first | exact HB.out | apply below_alloc | apply pw_below_drewN | apply below_drew1 | refine below_set ?_ GE1.out | refine below_set ?_ GE2.out) | exact HB.out)⟩⟩
                · rw [if_neg c32] at H
                  have c32b0 : decide (0 ≤ a3_11) = false := decide_eq_false c32
                  clear c32
                  have H' := Aside0.mk H
                  clear H
                  have hnb35 := NB2_1.out
                  have hnc35 := NB1_2.out
                  have hcz36_0 : wc.cell? ⟨gb2, 0, none⟩ = some (.bool a3_0) := (blk_cell BK2.out 0).trans rfl
                  have hcz36_1 : wc.cell? ⟨gb2, 1, none⟩ = some (.bool false) := (blk_cell BK2.out 1).trans rfl
                  have hcz36_2 : wc.cell? ⟨gb2, 2, none⟩ = some (.bool a3_2) := (blk_cell BK2.out 2).trans rfl
                  have hcz36_3 : wc.cell? ⟨gb2, 3, none⟩ = some (.bool a3_3) := (blk_cell BK2.out 3).trans rfl
                  have hcz36_4 : wc.cell? ⟨gb2, 4, none⟩ = some (.bool a3_4) := (blk_cell BK2.out 4).trans rfl
                  have hcz36_5 : wc.cell? ⟨gb2, 5, none⟩ = some (.bool a3_5) := (blk_cell BK2.out 5).trans rfl
                  have hcz36_6 : wc.cell? ⟨gb2, 6, none⟩ = some (.bool a3_6) := (blk_cell BK2.out 6).trans rfl
                  have hcz36_7 : wc.cell? ⟨gb2, 7, none⟩ = some (.bool a3_7) := (blk_cell BK2.out 7).trans rfl
                  have hcz36_8 : wc.cell? ⟨gb2, 8, none⟩ = some (.int .i64 a3_8) := (blk_cell BK2.out 8).trans rfl
                  have hcz36_9 : wc.cell? ⟨gb2, 9, none⟩ = some (.int .i64 a3_9) := (blk_cell BK2.out 9).trans rfl
                  have hcz36_10 : wc.cell? ⟨gb2, 10, none⟩ = some (.int .i64 a3_10) := (blk_cell BK2.out 10).trans rfl
                  have hcz36_11 : wc.cell? ⟨gb2, 11, none⟩ = some (.int .i64 a3_11) := (blk_cell BK2.out 11).trans rfl
                  have hcz36_12 : wc.cell? ⟨gb2, 12, none⟩ = some (.int .i64 a3_12) := (blk_cell BK2.out 12).trans rfl
                  have hfz36_0 := blk_frozen BK2.out 0
                  have hfz36_1 := blk_frozen BK2.out 1
                  have hfz36_2 := blk_frozen BK2.out 2
                  have hfz36_3 := blk_frozen BK2.out 3
                  have hfz36_4 := blk_frozen BK2.out 4
                  have hfz36_5 := blk_frozen BK2.out 5
                  have hfz36_6 := blk_frozen BK2.out 6
                  have hfz36_7 := blk_frozen BK2.out 7
                  have hfz36_8 := blk_frozen BK2.out 8
                  have hfz36_9 := blk_frozen BK2.out 9
                  have hfz36_10 := blk_frozen BK2.out 10
                  have hfz36_11 := blk_frozen BK2.out 11
                  have hfz36_12 := blk_frozen BK2.out 12
                  go_wp2
                  go_meet
                  case rel => exact ⟨_, (false), (by first | rfl | (simp; done) | (simp [*]; done)), H', ⟨by have := HJ9.out; first | omega | exact Nat.le_refl _⟩, ⟨by (with_reducible repeat (first | refine blk_drewN ?_ _ | refine blk_drew ?_ | refine blk_alloc ?_ _)); exact BK1.out⟩, ⟨by (with_reducible repeat (first | refine blk_drewN ?_ _ | refine blk_drew ?_ | refine blk_alloc ?_ _)); exact BK2.out⟩, ⟨by repeat (first | (with_reducible first | exact HB.out | apply below_alloc | apply pw_below_drewN | apply below_drew1 | refine below_set ?_ GE1.out | refine below_set ?_ GE2.out) | exact HB.out)⟩⟩
          case rest =>
            clear HC19
            try clear c1
            try clear c2
            try clear p2
            try clear c3
            try clear c5
            try clear p6
            try clear c8
            try clear c13
            try clear c14
            try clear c15
            try clear c15b0
            try clear c16
            try clear c18
            try clear c20
            try clear c21
            try clear c23
            try clear c23b0
            try clear c24
            try clear c24b0
            try clear c25
            try clear c27
            try clear c27b0
            try clear c28
            try clear c30
            try clear c32
            try clear c32b0
            try clear c33
            try clear c35
            try clear hcz14_0
            try clear hcz14_1
            try clear hcz14_10
            try clear hcz14_11
            try clear hcz14_12
            try clear hcz14_2
            try clear hcz14_3
            try clear hcz14_4
            try clear hcz14_5
            try clear hcz14_6
            try clear hcz14_7
            try clear hcz14_8
            try clear hcz14_9
            try clear hcz17_0
            try clear hcz17_1
            try clear hcz17_10
            try clear hcz17_11
            try clear hcz17_12
            try clear hcz17_2
            try clear hcz17_3
            try clear hcz17_4
            try clear hcz17_5
            try clear hcz17_6
            try clear hcz17_7
            try clear hcz17_8
            try clear hcz17_9
            try clear hcz22_0
            try clear hcz22_1
            try clear hcz22_10
            try clear hcz22_11
            try clear hcz22_12
            try clear hcz22_2
            try clear hcz22_3
            try clear hcz22_4
            try clear hcz22_5
            try clear hcz22_6
            try clear hcz22_7
            try clear hcz22_8
            try clear hcz22_9
            try clear hcz26_0
            try clear hcz26_1
            try clear hcz26_10
            try clear hcz26_11
            try clear hcz26_12
            try clear hcz26_2
            try clear hcz26_3
            try clear hcz26_4
            try clear hcz26_5
            try clear hcz26_6
            try clear hcz26_7
            try clear hcz26_8
            try clear hcz26_9
            try clear hcz29_0
            try clear hcz29_1
            try clear hcz29_10
            try clear hcz29_11
            try clear hcz29_12
            try clear hcz29_2
            try clear hcz29_3
            try clear hcz29_4
            try clear hcz29_5
            try clear hcz29_6
            try clear hcz29_7
            try clear hcz29_8
            try clear hcz29_9
            try clear hcz31_0
            try clear hcz31_1
            try clear hcz31_10
            try clear hcz31_11
            try clear hcz31_12
            try clear hcz31_2
            try clear hcz31_3
            try clear hcz31_4
            try clear hcz31_5
            try clear hcz31_6
            try clear hcz31_7
            try clear hcz31_8
            try clear hcz31_9
            try clear hcz34_0
            try clear hcz34_1
            try clear hcz34_10
            try clear hcz34_11
            try clear hcz34_12
            try clear hcz34_2
            try clear hcz34_3
            try clear hcz34_4
            try clear hcz34_5
            try clear hcz34_6
            try clear hcz34_7
            try clear hcz34_8
            try clear hcz34_9
            try clear hcz36_0
            try clear hcz36_1
            try clear hcz36_10
            try clear hcz36_11
            try clear hcz36_12
            try clear hcz36_2
            try clear hcz36_3
            try clear hcz36_4
            try clear hcz36_5
            try clear hcz36_6
            try clear hcz36_7
            try clear hcz36_8
            try clear hcz36_9
            try clear hcz9_0
            try clear hcz9_1
            try clear hcz9_10
            try clear hcz9_11
            try clear hcz9_12
            try clear hcz9_2
            try clear hcz9_3
            try clear hcz9_4
            try clear hcz9_5
            try clear hcz9_6
            try clear hcz9_7
            try clear hcz9_8
            try clear hcz9_9
            try clear hfz14_0
            try clear hfz14_1
            try clear hfz14_10
            try clear hfz14_11
            try clear hfz14_12
            try clear hfz14_2
            try clear hfz14_3
            try clear hfz14_4
            try clear hfz14_5
            try clear hfz14_6
            try clear hfz14_7
            try clear hfz14_8
            try clear hfz14_9
            try clear hfz17_0
            try clear hfz17_1
            try clear hfz17_10
            try clear hfz17_11
            try clear hfz17_12
            try clear hfz17_2
            try clear hfz17_3
            try clear hfz17_4
            try clear hfz17_5
            try clear hfz17_6
            try clear hfz17_7
            try clear hfz17_8
            try clear hfz17_9
            try clear hfz22_0
            try clear hfz22_1
            try clear hfz22_10
            try clear hfz22_11
            try clear hfz22_12
            try clear hfz22_2
            try clear hfz22_3
            try clear hfz22_4
            try clear hfz22_5
            try clear hfz22_6
            try clear hfz22_7
            try clear hfz22_8
            try clear hfz22_9
            try clear hfz26_0
            try clear hfz26_1
            try clear hfz26_10
            try clear hfz26_11
            try clear hfz26_12
            try clear hfz26_2
            try clear hfz26_3
            try clear hfz26_4
            try clear hfz26_5
            try clear hfz26_6
            try clear hfz26_7
            try clear hfz26_8
            try clear hfz26_9
            try clear hfz29_0
            try clear hfz29_1
            try clear hfz29_10
            try clear hfz29_11
            try clear hfz29_12
            try clear hfz29_2
            try clear hfz29_3
            try clear hfz29_4
            try clear hfz29_5
            try clear hfz29_6
            try clear hfz29_7
            try clear hfz29_8
            try clear hfz29_9
            try clear hfz31_0
            try clear hfz31_1
            try clear hfz31_10
            try clear hfz31_11
            try clear hfz31_12
            try clear hfz31_2
            try clear hfz31_3
            try clear hfz31_4
            try clear hfz31_5
            try clear hfz31_6
            try clear hfz31_7
            try clear hfz31_8
            try clear hfz31_9
            try clear hfz34_0
            try clear hfz34_1
            try clear hfz34_10
            try clear hfz34_11
            try clear hfz34_12
            try clear hfz34_2
            try clear hfz34_3
            try clear hfz34_4
            try clear hfz34_5
            try clear hfz34_6
            try clear hfz34_7
            try clear hfz34_8
            try clear hfz34_9
            try clear hfz36_0
            try clear hfz36_1
            try clear hfz36_10
            try clear hfz36_11
            try clear hfz36_12
            try clear hfz36_2
            try clear hfz36_3
            try clear hfz36_4
            try clear hfz36_5
            try clear hfz36_6
            try clear hfz36_7
            try clear hfz36_8
            try clear hfz36_9
            try clear hfz9_0
            try clear hfz9_1
            try clear hfz9_10
            try clear hfz9_11
            try clear hfz9_12
            try clear hfz9_2
            try clear hfz9_3
            try clear hfz9_4
            try clear hfz9_5
            try clear hfz9_6
            try clear hfz9_7
            try clear hfz9_8
            try clear hfz9_9
            try clear p2
            obtain ⟨kq, x43_18, rfl, HA, HJ18, BK1, BK2, HB⟩ := hcut
            cases kq with
            | zero => exact absurd HA.out (by simp [sculleryref14_Judge.j1])
            | succ kj18 =>
              have H := HA.out
              clear HA
              simp only [sculleryref14_Judge.j1] at H
              by_cases c37 : x43_18 = true
              · subst c37
                have H1 : (some 2) = some r := by rw [if_pos rfl] at H; exact H
                clear H
                have H := H1
                clear H1
                obtain rfl := Option.some.inj H
                go_wp2
                go_ret
                exact ⟨by first | rfl | (simp [errW_none, errW_some] <;> rfl) | (simp [*, errW_none, errW_some] <;> rfl), by repeat (first | (with_reducible first | exact HB.out | apply below_alloc | apply pw_below_drewN | apply below_drew1 | refine below_set ?_ GE1.out | refine below_set ?_ GE2.out) | exact HB.out)⟩
              · replace c37 := Bool.eq_false_iff.mpr c37
                subst c37
                have H1 : (if a0 < a1 then (some 0) else (if a3_10 ≥ 0 then (if (wrap64 (a0 - a1)) ≤ a3_10 then ((sculleryref14_strict.f a2_0 false a2_2 a2_3 a2_4 a2_5 a2_6 a2_7 a2_8 a2_9 a2_10 a2_11 a2_12).bind fun t3 => (if t3 = true then (some 1) else (some 0))) else (some 1)) else (some 1))) = some r := by rw [if_neg (show ¬ (false = true) by decide)] at H; exact H
                clear H
                have H := H1
                clear H1
                by_cases c38 : a0 < a1
                · rw [if_pos c38] at H
                  have c38b0 : decide (a0 < a1) = true := decide_eq_true c38
                  clear c38
                  obtain rfl := Option.some.inj H
                  go_wp2
                  go_ret
                  exact ⟨by first | rfl | (simp [errW_none, errW_some] <;> rfl) | (simp [*, errW_none, errW_some] <;> rfl), by repeat (first | (with_reducible first | exact HB.out | apply below_alloc | apply pw_below_drewN | apply below_drew1 | refine below_set ?_ GE1.out | refine below_set ?_ GE2.out) | exact HB.out)⟩
                · rw [if_neg c38] at H
                  have c38b0 : decide (a0 < a1) = false := decide_eq_false c38
                  clear c38
                  by_cases c39 : a3_10 ≥ 0
                  · rw [if_pos c39] at H
                    have c39b0 : decide (0 ≤ a3_10) = true := decide_eq_true c39
                    clear c39
                    by_cases c40 : (wrap64 (a0 - a1)) ≤ a3_10
                    · rw [if_pos c40] at H
                      have c40b0 : decide ((wrap64 (a0 - a1)) ≤ a3_10) = true := decide_eq_true c40
                      clear c40
                      replace H := Option.bind_eq_some_iff.mp H
                      obtain ⟨t3, A410, H⟩ := H
                      replace H : (if t3 = true then (some 1) else (some 0)) = some r := H
                      have A41 := Aside0.mk A410
                      clear A410
                      by_cases c42 : t3 = true
                      · subst c42
                        have H1 : (some 1) = some r := by rw [if_pos rfl] at H; exact H
                        clear H
                        have H := H1
                        clear H1
                        obtain rfl := Option.some.inj H
                        have hnb43 := NB2_1.out
                        have hnc43 := NB1_2.out
                        have hcz44_0 : wc.cell? ⟨gb2, 0, none⟩ = some (.bool a3_0) := (blk_cell BK2.out 0).trans rfl
                        have hcz44_1 : wc.cell? ⟨gb2, 1, none⟩ = some (.bool a3_1) := (blk_cell BK2.out 1).trans rfl
                        have hcz44_2 : wc.cell? ⟨gb2, 2, none⟩ = some (.bool a3_2) := (blk_cell BK2.out 2).trans rfl
                        have hcz44_3 : wc.cell? ⟨gb2, 3, none⟩ = some (.bool a3_3) := (blk_cell BK2.out 3).trans rfl
                        have hcz44_4 : wc.cell? ⟨gb2, 4, none⟩ = some (.bool a3_4) := (blk_cell BK2.out 4).trans rfl
                        have hcz44_5 : wc.cell? ⟨gb2, 5, none⟩ = some (.bool a3_5) := (blk_cell BK2.out 5).trans rfl
                        have hcz44_6 : wc.cell? ⟨gb2, 6, none⟩ = some (.bool a3_6) := (blk_cell BK2.out 6).trans rfl
                        have hcz44_7 : wc.cell? ⟨gb2, 7, none⟩ = some (.bool a3_7) := (blk_cell BK2.out 7).trans rfl
                        have hcz44_8 : wc.cell? ⟨gb2, 8, none⟩ = some (.int .i64 a3_8) := (blk_cell BK2.out 8).trans rfl
                        have hcz44_9 : wc.cell? ⟨gb2, 9, none⟩ = some (.int .i64 a3_9) := (blk_cell BK2.out 9).trans rfl
                        have hcz44_10 : wc.cell? ⟨gb2, 10, none⟩ = some (.int .i64 a3_10) := (blk_cell BK2.out 10).trans rfl
                        have hcz44_11 : wc.cell? ⟨gb2, 11, none⟩ = some (.int .i64 a3_11) := (blk_cell BK2.out 11).trans rfl
                        have hcz44_12 : wc.cell? ⟨gb2, 12, none⟩ = some (.int .i64 a3_12) := (blk_cell BK2.out 12).trans rfl
                        have hfz44_0 := blk_frozen BK2.out 0
                        have hfz44_1 := blk_frozen BK2.out 1
                        have hfz44_2 := blk_frozen BK2.out 2
                        have hfz44_3 := blk_frozen BK2.out 3
                        have hfz44_4 := blk_frozen BK2.out 4
                        have hfz44_5 := blk_frozen BK2.out 5
                        have hfz44_6 := blk_frozen BK2.out 6
                        have hfz44_7 := blk_frozen BK2.out 7
                        have hfz44_8 := blk_frozen BK2.out 8
                        have hfz44_9 := blk_frozen BK2.out 9
                        have hfz44_10 := blk_frozen BK2.out 10
                        have hfz44_11 := blk_frozen BK2.out 11
                        have hfz44_12 := blk_frozen BK2.out 12
                        have hcz45_0 : wc.cell? ⟨gb1, 0, none⟩ = some (.bool a2_0) := (blk_cell BK1.out 0).trans rfl
                        have hcz45_1 : wc.cell? ⟨gb1, 1, none⟩ = some (.bool false) := (blk_cell BK1.out 1).trans rfl
                        have hcz45_2 : wc.cell? ⟨gb1, 2, none⟩ = some (.bool a2_2) := (blk_cell BK1.out 2).trans rfl
                        have hcz45_3 : wc.cell? ⟨gb1, 3, none⟩ = some (.bool a2_3) := (blk_cell BK1.out 3).trans rfl
                        have hcz45_4 : wc.cell? ⟨gb1, 4, none⟩ = some (.bool a2_4) := (blk_cell BK1.out 4).trans rfl
                        have hcz45_5 : wc.cell? ⟨gb1, 5, none⟩ = some (.bool a2_5) := (blk_cell BK1.out 5).trans rfl
                        have hcz45_6 : wc.cell? ⟨gb1, 6, none⟩ = some (.bool a2_6) := (blk_cell BK1.out 6).trans rfl
                        have hcz45_7 : wc.cell? ⟨gb1, 7, none⟩ = some (.bool a2_7) := (blk_cell BK1.out 7).trans rfl
                        have hcz45_8 : wc.cell? ⟨gb1, 8, none⟩ = some (.int .i64 a2_8) := (blk_cell BK1.out 8).trans rfl
                        have hcz45_9 : wc.cell? ⟨gb1, 9, none⟩ = some (.int .i64 a2_9) := (blk_cell BK1.out 9).trans rfl
                        have hcz45_10 : wc.cell? ⟨gb1, 10, none⟩ = some (.int .i64 a2_10) := (blk_cell BK1.out 10).trans rfl
                        have hcz45_11 : wc.cell? ⟨gb1, 11, none⟩ = some (.int .i64 a2_11) := (blk_cell BK1.out 11).trans rfl
                        have hcz45_12 : wc.cell? ⟨gb1, 12, none⟩ = some (.int .i64 a2_12) := (blk_cell BK1.out 12).trans rfl
                        have hfz45_0 := blk_frozen BK1.out 0
                        have hfz45_1 := blk_frozen BK1.out 1
                        have hfz45_2 := blk_frozen BK1.out 2
                        have hfz45_3 := blk_frozen BK1.out 3
                        have hfz45_4 := blk_frozen BK1.out 4
                        have hfz45_5 := blk_frozen BK1.out 5
                        have hfz45_6 := blk_frozen BK1.out 6
                        have hfz45_7 := blk_frozen BK1.out 7
                        have hfz45_8 := blk_frozen BK1.out 8
                        have hfz45_9 := blk_frozen BK1.out 9
                        have hfz45_10 := blk_frozen BK1.out 10
                        have hfz45_11 := blk_frozen BK1.out 11
                        have hfz45_12 := blk_frozen BK1.out 12
                        go_wp2_with (first | (go_at_call 29; (with_reducible refine (sculleryref14_strict.calls a2_0 false a2_2 a2_3 a2_4 a2_5 a2_6 a2_7 a2_8 a2_9 a2_10 a2_11 a2_12 true _ A41.out).mono ?_); rintro e w46 ⟨rfl, hb⟩; have n0_ := Aside0.mk (blk_below (g := gb1) (o := .cells #[.bool a2_0, .bool false, .bool a2_2, .bool a2_3, .bool a2_4, .bool a2_5, .bool a2_6, .bool a2_7, .int .i64 a2_8, .int .i64 a2_9, .int .i64 a2_10, .int .i64 a2_11, .int .i64 a2_12] 36 (0, 0)) (by (with_reducible repeat (first | refine blk_drewN ?_ _ | refine blk_drew ?_ | refine blk_alloc ?_ _)); exact BK1.out) hb); have n1_ := Aside0.mk (blk_below (g := gb2) (o := .cells #[.bool a3_0, .bool a3_1, .bool a3_2, .bool a3_3, .bool a3_4, .bool a3_5, .bool a3_6, .bool a3_7, .int .i64 a3_8, .int .i64 a3_9, .int .i64 a3_10, .int .i64 a3_11, .int .i64 a3_12] 36 (0, 0)) (by (with_reducible repeat (first | refine blk_drewN ?_ _ | refine blk_drew ?_ | refine blk_alloc ?_ _)); exact BK2.out) hb); have n2_ := Aside0.mk (below_step (by repeat (first | (with_reducible first | exact HB.out | apply below_alloc | apply pw_below_drewN | apply below_drew1 | refine below_set ?_ GE1.out | refine below_set ?_ GE2.out) | exact HB.out)) hb); clear BK1; clear BK2; clear HB; have BK1 := n0_; have BK2 := n1_; have HB := n2_; clear n0_ n1_ n2_; (try clear hb); (try clear hb2); (try clear hk); (try clear hi)))
                        go_ret
                        exact ⟨by first | rfl | (simp [errW_none, errW_some] <;> rfl) | (simp [*, errW_none, errW_some] <;> rfl), by repeat (first | (with_reducible first | exact HB.out | apply below_alloc | apply pw_below_drewN | apply below_drew1 | refine below_set ?_ GE1.out | refine below_set ?_ GE2.out) | exact HB.out)⟩
                      · replace c42 := Bool.eq_false_iff.mpr c42
                        subst c42
                        have H1 : (some 0) = some r := by rw [if_neg (show ¬ (false = true) by decide)] at H; exact H
                        clear H
                        have H := H1
                        clear H1
                        obtain rfl := Option.some.inj H
                        have hnb47 := NB2_1.out
                        have hnc47 := NB1_2.out
                        have hcz48_0 : wc.cell? ⟨gb2, 0, none⟩ = some (.bool a3_0) := (blk_cell BK2.out 0).trans rfl
                        have hcz48_1 : wc.cell? ⟨gb2, 1, none⟩ = some (.bool a3_1) := (blk_cell BK2.out 1).trans rfl
                        have hcz48_2 : wc.cell? ⟨gb2, 2, none⟩ = some (.bool a3_2) := (blk_cell BK2.out 2).trans rfl
                        have hcz48_3 : wc.cell? ⟨gb2, 3, none⟩ = some (.bool a3_3) := (blk_cell BK2.out 3).trans rfl
                        have hcz48_4 : wc.cell? ⟨gb2, 4, none⟩ = some (.bool a3_4) := (blk_cell BK2.out 4).trans rfl
                        have hcz48_5 : wc.cell? ⟨gb2, 5, none⟩ = some (.bool a3_5) := (blk_cell BK2.out 5).trans rfl
                        have hcz48_6 : wc.cell? ⟨gb2, 6, none⟩ = some (.bool a3_6) := (blk_cell BK2.out 6).trans rfl
                        have hcz48_7 : wc.cell? ⟨gb2, 7, none⟩ = some (.bool a3_7) := (blk_cell BK2.out 7).trans rfl
                        have hcz48_8 : wc.cell? ⟨gb2, 8, none⟩ = some (.int .i64 a3_8) := (blk_cell BK2.out 8).trans rfl
                        have hcz48_9 : wc.cell? ⟨gb2, 9, none⟩ = some (.int .i64 a3_9) := (blk_cell BK2.out 9).trans rfl
                        have hcz48_10 : wc.cell? ⟨gb2, 10, none⟩ = some (.int .i64 a3_10) := (blk_cell BK2.out 10).trans rfl
                        have hcz48_11 : wc.cell? ⟨gb2, 11, none⟩ = some (.int .i64 a3_11) := (blk_cell BK2.out 11).trans rfl
                        have hcz48_12 : wc.cell? ⟨gb2, 12, none⟩ = some (.int .i64 a3_12) := (blk_cell BK2.out 12).trans rfl
                        have hfz48_0 := blk_frozen BK2.out 0
                        have hfz48_1 := blk_frozen BK2.out 1
                        have hfz48_2 := blk_frozen BK2.out 2
                        have hfz48_3 := blk_frozen BK2.out 3
                        have hfz48_4 := blk_frozen BK2.out 4
                        have hfz48_5 := blk_frozen BK2.out 5
                        have hfz48_6 := blk_frozen BK2.out 6
                        have hfz48_7 := blk_frozen BK2.out 7
                        have hfz48_8 := blk_frozen BK2.out 8
                        have hfz48_9 := blk_frozen BK2.out 9
                        have hfz48_10 := blk_frozen BK2.out 10
                        have hfz48_11 := blk_frozen BK2.out 11
                        have hfz48_12 := blk_frozen BK2.out 12
                        have hcz49_0 : wc.cell? ⟨gb1, 0, none⟩ = some (.bool a2_0) := (blk_cell BK1.out 0).trans rfl
                        have hcz49_1 : wc.cell? ⟨gb1, 1, none⟩ = some (.bool false) := (blk_cell BK1.out 1).trans rfl
                        have hcz49_2 : wc.cell? ⟨gb1, 2, none⟩ = some (.bool a2_2) := (blk_cell BK1.out 2).trans rfl
                        have hcz49_3 : wc.cell? ⟨gb1, 3, none⟩ = some (.bool a2_3) := (blk_cell BK1.out 3).trans rfl
                        have hcz49_4 : wc.cell? ⟨gb1, 4, none⟩ = some (.bool a2_4) := (blk_cell BK1.out 4).trans rfl
                        have hcz49_5 : wc.cell? ⟨gb1, 5, none⟩ = some (.bool a2_5) := (blk_cell BK1.out 5).trans rfl
                        have hcz49_6 : wc.cell? ⟨gb1, 6, none⟩ = some (.bool a2_6) := (blk_cell BK1.out 6).trans rfl
                        have hcz49_7 : wc.cell? ⟨gb1, 7, none⟩ = some (.bool a2_7) := (blk_cell BK1.out 7).trans rfl
                        have hcz49_8 : wc.cell? ⟨gb1, 8, none⟩ = some (.int .i64 a2_8) := (blk_cell BK1.out 8).trans rfl
                        have hcz49_9 : wc.cell? ⟨gb1, 9, none⟩ = some (.int .i64 a2_9) := (blk_cell BK1.out 9).trans rfl
                        have hcz49_10 : wc.cell? ⟨gb1, 10, none⟩ = some (.int .i64 a2_10) := (blk_cell BK1.out 10).trans rfl
                        have hcz49_11 : wc.cell? ⟨gb1, 11, none⟩ = some (.int .i64 a2_11) := (blk_cell BK1.out 11).trans rfl
                        have hcz49_12 : wc.cell? ⟨gb1, 12, none⟩ = some (.int .i64 a2_12) := (blk_cell BK1.out 12).trans rfl
                        have hfz49_0 := blk_frozen BK1.out 0
                        have hfz49_1 := blk_frozen BK1.out 1
                        have hfz49_2 := blk_frozen BK1.out 2
                        have hfz49_3 := blk_frozen BK1.out 3
                        have hfz49_4 := blk_frozen BK1.out 4
                        have hfz49_5 := blk_frozen BK1.out 5
                        have hfz49_6 := blk_frozen BK1.out 6
                        have hfz49_7 := blk_frozen BK1.out 7
                        have hfz49_8 := blk_frozen BK1.out 8
                        have hfz49_9 := blk_frozen BK1.out 9
                        have hfz49_10 := blk_frozen BK1.out 10
                        have hfz49_11 := blk_frozen BK1.out 11
                        have hfz49_12 := blk_frozen BK1.out 12
                        go_wp2_with (first | (go_at_call 29; (with_reducible refine (sculleryref14_strict.calls a2_0 false a2_2 a2_3 a2_4 a2_5 a2_6 a2_7 a2_8 a2_9 a2_10 a2_11 a2_12 false _ A41.out).mono ?_); rintro e w50 ⟨rfl, hb⟩; have n0_ := Aside0.mk (blk_below (g := gb1) (o := .cells #[.bool a2_0, .bool false, .bool a2_2, .bool a2_3, .bool a2_4, .bool a2_5, .bool a2_6, .bool a2_7, .int .i64 a2_8, .int .i64 a2_9, .int .i64 a2_10, .int .i64 a2_11, .int .i64 a2_12] 36 (0, 0)) (by (with_reducible repeat (first | refine blk_drewN ?_ _ | refine blk_drew ?_ | refine blk_alloc ?_ _)); exact BK1.out) hb); have n1_ := Aside0.mk (blk_below (g := gb2) (o := .cells #[.bool a3_0, .bool a3_1, .bool a3_2, .bool a3_3, .bool a3_4, .bool a3_5, .bool a3_6, .bool a3_7, .int .i64 a3_8, .int .i64 a3_9, .int .i64 a3_10, .int .i64 a3_11, .int .i64 a3_12] 36 (0, 0)) (by (with_reducible repeat (first | refine blk_drewN ?_ _ | refine blk_drew ?_ | refine blk_alloc ?_ _)); exact BK2.out) hb); have n2_ := Aside0.mk (below_step (by repeat (first | (with_reducible first | exact HB.out | apply below_alloc | apply pw_below_drewN | apply below_drew1 | refine below_set ?_ GE1.out | refine below_set ?_ GE2.out) | exact HB.out)) hb); clear BK1; clear BK2; clear HB; have BK1 := n0_; have BK2 := n1_; have HB := n2_; clear n0_ n1_ n2_; (try clear hb); (try clear hb2); (try clear hk); (try clear hi)))
                        go_ret
                        exact ⟨by first | rfl | (simp [errW_none, errW_some] <;> rfl) | (simp [*, errW_none, errW_some] <;> rfl), by repeat (first | (with_reducible first | exact HB.out | apply below_alloc | apply pw_below_drewN | apply below_drew1 | refine below_set ?_ GE1.out | refine below_set ?_ GE2.out) | exact HB.out)⟩
                    · rw [if_neg c40] at H
                      have c40b0 : decide ((wrap64 (a0 - a1)) ≤ a3_10) = false := decide_eq_false c40
                      clear c40
                      obtain rfl := Option.some.inj H
                      have hnb51 := NB2_1.out
                      have hnc51 := NB1_2.out
                      have hcz52_0 : wc.cell? ⟨gb2, 0, none⟩ = some (.bool a3_0) := (blk_cell BK2.out 0).trans rfl
                      have hcz52_1 : wc.cell? ⟨gb2, 1, none⟩ = some (.bool a3_1) := (blk_cell BK2.out 1).trans rfl
                      have hcz52_2 : wc.cell? ⟨gb2, 2, none⟩ = some (.bool a3_2) := (blk_cell BK2.out 2).trans rfl
                      have hcz52_3 : wc.cell? ⟨gb2, 3, none⟩ = some (.bool a3_3) := (blk_cell BK2.out 3).trans rfl
                      have hcz52_4 : wc.cell? ⟨gb2, 4, none⟩ = some (.bool a3_4) := (blk_cell BK2.out 4).trans rfl
                      have hcz52_5 : wc.cell? ⟨gb2, 5, none⟩ = some (.bool a3_5) := (blk_cell BK2.out 5).trans rfl
                      have hcz52_6 : wc.cell? ⟨gb2, 6, none⟩ = some (.bool a3_6) := (blk_cell BK2.out 6).trans rfl
                      have hcz52_7 : wc.cell? ⟨gb2, 7, none⟩ = some (.bool a3_7) := (blk_cell BK2.out 7).trans rfl
                      have hcz52_8 : wc.cell? ⟨gb2, 8, none⟩ = some (.int .i64 a3_8) := (blk_cell BK2.out 8).trans rfl
                      have hcz52_9 : wc.cell? ⟨gb2, 9, none⟩ = some (.int .i64 a3_9) := (blk_cell BK2.out 9).trans rfl
                      have hcz52_10 : wc.cell? ⟨gb2, 10, none⟩ = some (.int .i64 a3_10) := (blk_cell BK2.out 10).trans rfl
                      have hcz52_11 : wc.cell? ⟨gb2, 11, none⟩ = some (.int .i64 a3_11) := (blk_cell BK2.out 11).trans rfl
                      have hcz52_12 : wc.cell? ⟨gb2, 12, none⟩ = some (.int .i64 a3_12) := (blk_cell BK2.out 12).trans rfl
                      have hfz52_0 := blk_frozen BK2.out 0
                      have hfz52_1 := blk_frozen BK2.out 1
                      have hfz52_2 := blk_frozen BK2.out 2
                      have hfz52_3 := blk_frozen BK2.out 3
                      have hfz52_4 := blk_frozen BK2.out 4
                      have hfz52_5 := blk_frozen BK2.out 5
                      have hfz52_6 := blk_frozen BK2.out 6
                      have hfz52_7 := blk_frozen BK2.out 7
                      have hfz52_8 := blk_frozen BK2.out 8
                      have hfz52_9 := blk_frozen BK2.out 9
                      have hfz52_10 := blk_frozen BK2.out 10
                      have hfz52_11 := blk_frozen BK2.out 11
                      have hfz52_12 := blk_frozen BK2.out 12
                      go_wp2
                      go_ret
                      exact ⟨by first | rfl | (simp [errW_none, errW_some] <;> rfl) | (simp [*, errW_none, errW_some] <;> rfl), by repeat (first | (with_reducible first | exact HB.out | apply below_alloc | apply pw_below_drewN | apply below_drew1 | refine below_set ?_ GE1.out | refine below_set ?_ GE2.out) | exact HB.out)⟩
                  · rw [if_neg c39] at H
                    have c39b0 : decide (0 ≤ a3_10) = false := decide_eq_false c39
                    clear c39
                    obtain rfl := Option.some.inj H
                    have hnb53 := NB2_1.out
                    have hnc53 := NB1_2.out
                    have hcz54_0 : wc.cell? ⟨gb2, 0, none⟩ = some (.bool a3_0) := (blk_cell BK2.out 0).trans rfl
                    have hcz54_1 : wc.cell? ⟨gb2, 1, none⟩ = some (.bool a3_1) := (blk_cell BK2.out 1).trans rfl
                    have hcz54_2 : wc.cell? ⟨gb2, 2, none⟩ = some (.bool a3_2) := (blk_cell BK2.out 2).trans rfl
                    have hcz54_3 : wc.cell? ⟨gb2, 3, none⟩ = some (.bool a3_3) := (blk_cell BK2.out 3).trans rfl
                    have hcz54_4 : wc.cell? ⟨gb2, 4, none⟩ = some (.bool a3_4) := (blk_cell BK2.out 4).trans rfl
                    have hcz54_5 : wc.cell? ⟨gb2, 5, none⟩ = some (.bool a3_5) := (blk_cell BK2.out 5).trans rfl
                    have hcz54_6 : wc.cell? ⟨gb2, 6, none⟩ = some (.bool a3_6) := (blk_cell BK2.out 6).trans rfl
                    have hcz54_7 : wc.cell? ⟨gb2, 7, none⟩ = some (.bool a3_7) := (blk_cell BK2.out 7).trans rfl
                    have hcz54_8 : wc.cell? ⟨gb2, 8, none⟩ = some (.int .i64 a3_8) := (blk_cell BK2.out 8).trans rfl
                    have hcz54_9 : wc.cell? ⟨gb2, 9, none⟩ = some (.int .i64 a3_9) := (blk_cell BK2.out 9).trans rfl
                    have hcz54_10 : wc.cell? ⟨gb2, 10, none⟩ = some (.int .i64 a3_10) := (blk_cell BK2.out 10).trans rfl
                    have hcz54_11 : wc.cell? ⟨gb2, 11, none⟩ = some (.int .i64 a3_11) := (blk_cell BK2.out 11).trans rfl
                    have hcz54_12 : wc.cell? ⟨gb2, 12, none⟩ = some (.int .i64 a3_12) := (blk_cell BK2.out 12).trans rfl
                    have hfz54_0 := blk_frozen BK2.out 0
                    have hfz54_1 := blk_frozen BK2.out 1
                    have hfz54_2 := blk_frozen BK2.out 2
                    have hfz54_3 := blk_frozen BK2.out 3
                    have hfz54_4 := blk_frozen BK2.out 4
                    have hfz54_5 := blk_frozen BK2.out 5
                    have hfz54_6 := blk_frozen BK2.out 6
                    have hfz54_7 := blk_frozen BK2.out 7
                    have hfz54_8 := blk_frozen BK2.out 8
                    have hfz54_9 := blk_frozen BK2.out 9
                    have hfz54_10 := blk_frozen BK2.out 10
                    have hfz54_11 := blk_frozen BK2.out 11
                    have hfz54_12 := blk_frozen BK2.out 12
                    go_wp2
                    go_ret
                    exact ⟨by first | rfl | (simp [errW_none, errW_some] <;> rfl) | (simp [*, errW_none, errW_some] <;> rfl), by repeat (first | (with_reducible first | exact HB.out | apply below_alloc | apply pw_below_drewN | apply below_drew1 | refine below_set ?_ GE1.out | refine below_set ?_ GE2.out) | exact HB.out)⟩
end Go.Proofs.YtebfpnbnoinhbaaGreatDoor.Q
