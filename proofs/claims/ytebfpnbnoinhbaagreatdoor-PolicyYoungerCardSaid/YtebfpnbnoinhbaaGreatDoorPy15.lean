/- scullerylaw14.PolicyYounger tells true of every two ages and lifetimes and every pair of rules. No condition. -/
import Derived.Test.YtebfpnbnoinhbaaGreatDoorCards
import Derived.Test.YtebfpnbnoinhbaaGreatDoorTie
import Derived.Test.YtebfpnbnoinhbaaGreatDoorPy1
import Derived.Test.YtebfpnbnoinhbaaGreatDoorPy2
import Derived.Test.YtebfpnbnoinhbaaGreatDoorPy3
import Derived.Test.YtebfpnbnoinhbaaGreatDoorPy4
import Derived.Test.YtebfpnbnoinhbaaGreatDoorPy5
import Derived.Test.YtebfpnbnoinhbaaGreatDoorPy6
import Derived.Test.YtebfpnbnoinhbaaGreatDoorPy7
import Derived.Test.YtebfpnbnoinhbaaGreatDoorPy8
import Derived.Test.YtebfpnbnoinhbaaGreatDoorPy9
import Derived.Test.YtebfpnbnoinhbaaGreatDoorPy10
import Derived.Test.YtebfpnbnoinhbaaGreatDoorPy11
import Derived.Test.YtebfpnbnoinhbaaGreatDoorPy12
import Derived.Test.YtebfpnbnoinhbaaGreatDoorPy13
import Derived.Test.YtebfpnbnoinhbaaGreatDoorPy14
namespace Go.Proofs.YtebfpnbnoinhbaaGreatDoor.policyYounger
open Go Go.RowKit Go.ChangeShapes Go.WideShapes Go.ChangeAt Go.Proofs.YtebfpnbnoinhbaaGreatDoor.Q
set_option linter.unusedVariables false
set_option linter.unusedSimpArgs false
set_option maxRecDepth 100000 in
theorem contract (H : Type) (enc : TypeId × Value → H) (W : World) (base : Nat) (args : Array Value) (ds gs : List (DataW H)) (before : List MemPlace)
    (hval : ∀ (j : Nat) t v, Tryz.f5.params[j]? = some t → args[j]? = some v → Value.okWide Tryz.prog W .any base t v)
    (hW : DataW.Whole enc Tryz.prog Tryz.f5.params.toList Rows.policyYoungerSpec.vars false W args.toList ds gs before) (hL : laidMetH Tryz.prog laidL W) (hsh : W.ShapedOpen Tryz.prog) :
    Calls Tryz.prog 5 args W fun e W' => ∃ v, e = .returned v ∧ Rows.policyYoungerSpec.post enc Tryz.prog Tryz.f5 false true false false W args v W' := by
  have hW' := hW
  obtain ⟨p, q, hA0, hV, rfl, hfz, hnd⟩ := hW
  have hA : DataW.TrodAll enc Tryz.prog W 0 (fun _ => true) true Tryz.f5.params.toList args.toList ds p := hA0
  have hA1 := hA
  rw [Tryz.params5] at hA hval
  obtain ⟨v0, vs0, d0, ds0, p0, q0, hargs, rfl, rfl, h0, r0⟩ := trodAll_cons hA
  obtain ⟨v1, vs1, d1, ds1, p1, q1, rfl, rfl, rfl, h1, r1⟩ := trodAll_cons r0
  obtain ⟨v2, vs2, d2, ds2, p2, q2, rfl, rfl, rfl, h2, r2⟩ := trodAll_cons r1
  obtain ⟨rfl, rfl, rfl⟩ := trodAll_nil r2
  obtain rfl : args = #[v0, v1, v2] := by cases args; simp_all
  obtain ⟨rfl, rfl⟩ := trodVars_none hV
  obtain ⟨cs0, rfl, hc0⟩ := flat_open (ts := [3, 3]) (by kernel_rfl) (by kernel_rfl) (by kernel_rfl) (hval 0 42 v0 rfl rfl)
  obtain ⟨t0, cs0_0, rfl, hc0_0⟩ := cells_int Tryz.underlying3 hc0
  obtain ⟨t1, cs0_1, rfl, hc0_1⟩ := cells_int Tryz.underlying3 hc0_0
  obtain rfl : cs0_1 = [] := hc0_1
  obtain ⟨cs1, rfl, hc1⟩ := flat_open (ts := [4, 4, 4, 4, 4, 4, 4, 4, 3, 3, 3, 3, 3, 4, 4, 4, 4, 4, 4, 4, 4, 3, 3, 3, 3, 3]) (by kernel_rfl) (by kernel_rfl) (by kernel_rfl) (hval 1 35 v1 rfl rfl)
  obtain ⟨r_0, cs1_0, rfl, hc1_0⟩ := cells_bool Tryz.underlying4 hc1
  clear hc1
  obtain ⟨r_1, cs1_1, rfl, hc1_1⟩ := cells_bool Tryz.underlying4 hc1_0
  clear hc1_0
  obtain ⟨r_2, cs1_2, rfl, hc1_2⟩ := cells_bool Tryz.underlying4 hc1_1
  clear hc1_1
  obtain ⟨r_3, cs1_3, rfl, hc1_3⟩ := cells_bool Tryz.underlying4 hc1_2
  clear hc1_2
  obtain ⟨r_4, cs1_4, rfl, hc1_4⟩ := cells_bool Tryz.underlying4 hc1_3
  clear hc1_3
  obtain ⟨r_5, cs1_5, rfl, hc1_5⟩ := cells_bool Tryz.underlying4 hc1_4
  clear hc1_4
  obtain ⟨r_6, cs1_6, rfl, hc1_6⟩ := cells_bool Tryz.underlying4 hc1_5
  clear hc1_5
  obtain ⟨r_7, cs1_7, rfl, hc1_7⟩ := cells_bool Tryz.underlying4 hc1_6
  clear hc1_6
  obtain ⟨r_8, cs1_8, rfl, hc1_8⟩ := cells_int Tryz.underlying3 hc1_7
  clear hc1_7
  obtain ⟨r_9, cs1_9, rfl, hc1_9⟩ := cells_int Tryz.underlying3 hc1_8
  clear hc1_8
  obtain ⟨r_10, cs1_10, rfl, hc1_10⟩ := cells_int Tryz.underlying3 hc1_9
  clear hc1_9
  obtain ⟨r_11, cs1_11, rfl, hc1_11⟩ := cells_int Tryz.underlying3 hc1_10
  clear hc1_10
  obtain ⟨r_12, cs1_12, rfl, hc1_12⟩ := cells_int Tryz.underlying3 hc1_11
  clear hc1_11
  obtain ⟨s_0, cs1_13, rfl, hc1_13⟩ := cells_bool Tryz.underlying4 hc1_12
  clear hc1_12
  obtain ⟨s_1, cs1_14, rfl, hc1_14⟩ := cells_bool Tryz.underlying4 hc1_13
  clear hc1_13
  obtain ⟨s_2, cs1_15, rfl, hc1_15⟩ := cells_bool Tryz.underlying4 hc1_14
  clear hc1_14
  obtain ⟨s_3, cs1_16, rfl, hc1_16⟩ := cells_bool Tryz.underlying4 hc1_15
  clear hc1_15
  obtain ⟨s_4, cs1_17, rfl, hc1_17⟩ := cells_bool Tryz.underlying4 hc1_16
  clear hc1_16
  obtain ⟨s_5, cs1_18, rfl, hc1_18⟩ := cells_bool Tryz.underlying4 hc1_17
  clear hc1_17
  obtain ⟨s_6, cs1_19, rfl, hc1_19⟩ := cells_bool Tryz.underlying4 hc1_18
  clear hc1_18
  obtain ⟨s_7, cs1_20, rfl, hc1_20⟩ := cells_bool Tryz.underlying4 hc1_19
  clear hc1_19
  obtain ⟨s_8, cs1_21, rfl, hc1_21⟩ := cells_int Tryz.underlying3 hc1_20
  clear hc1_20
  obtain ⟨s_9, cs1_22, rfl, hc1_22⟩ := cells_int Tryz.underlying3 hc1_21
  clear hc1_21
  obtain ⟨s_10, cs1_23, rfl, hc1_23⟩ := cells_int Tryz.underlying3 hc1_22
  clear hc1_22
  obtain ⟨s_11, cs1_24, rfl, hc1_24⟩ := cells_int Tryz.underlying3 hc1_23
  clear hc1_23
  obtain ⟨s_12, cs1_25, rfl, hc1_25⟩ := cells_int Tryz.underlying3 hc1_24
  clear hc1_24
  obtain rfl : cs1_25 = [] := hc1_25
  obtain ⟨cs2, rfl, hc2⟩ := flat_open (ts := [3, 3]) (by kernel_rfl) (by kernel_rfl) (by kernel_rfl) (hval 2 42 v2 rfl rfl)
  obtain ⟨n0, cs2_0, rfl, hc2_0⟩ := cells_int Tryz.underlying3 hc2
  obtain ⟨n1, cs2_1, rfl, hc2_1⟩ := cells_int Tryz.underlying3 hc2_0
  obtain rfl : cs2_1 = [] := hc2_1
  refine (policyYounger.calls t0 t1 r_0 r_1 r_2 r_3 r_4 r_5 r_6 r_7 r_8 r_9 r_10 r_11 r_12 s_0 s_1 s_2 s_3 s_4 s_5 s_6 s_7 s_8 s_9 s_10 s_11 s_12 n0 n1 W (gl_of hL hsh)).mono fun e W' ⟨he, bel⟩ => ?_
  subst he
  exact ⟨_, rfl, _, _, _, [], _, [], hW', trodAll_mk1 (shut_bool Tryz.underlying4 _), trodAll_behind laidOut bel (by kernel_rfl) hA1, rfl, bel.frame _, fun h => by cases h⟩
noncomputable def w0 (os : Os) : World := World.laidAll Tryz.prog os laidL
noncomputable def w1 (os : Os) : World := (w0 os).forCall (fun _ _ => 0) ⟨#[], #[.agg #[.int .i64 0, .int .i64 0], .agg #[.bool false, .bool false, .bool false, .bool false, .bool false, .bool false, .bool false, .bool false, .int .i64 0, .int .i64 0, .int .i64 0, .int .i64 0, .int .i64 0, .bool false, .bool false, .bool false, .bool false, .bool false, .bool false, .bool false, .bool false, .int .i64 0, .int .i64 0, .int .i64 0, .int .i64 0, .int .i64 0], .agg #[.int .i64 0, .int .i64 0]], []⟩
set_option maxRecDepth 100000 in
theorem met (os : Os) : laidMetH Tryz.prog laidL (w1 os).memory := by
  rw [MakeChecks.laidMetH_plain _ _ _ (by kernel_rfl)]
  exact laidMet_laidAll _ (by kernel_rfl) (by kernel_rfl)
set_option maxRecDepth 100000 in
theorem witness (os : Os) {H : Type} (enc : TypeId × Value → H) : ∃ (w : World) (tape : Tape) (i : Input), w.os = os ∧ (w.forCall tape i).Shaped Tryz.checked.prog ∧ i.vars = [] ∧ Input.okWide Tryz.checked.prog (w.forCall tape i) .any w.heap.size 5 i ∧
    (OpenSpec.ofChange Rows.policyYoungerSpec).preRow enc Tryz.checked.prog Tryz.f5 Rows.policyYoungerRow.domain false Rows.policyYoungerRow.laid (w.forCall tape i).memory i.args ∧ ({} : Assume).holds Tryz.checked.prog (lone (Frame.enter Tryz.checked.prog 5 i.args .normal) [] (w.forCall tape i)) := by
  have hx0 : ((DataW.whole enc Tryz.prog (w1 os).memory Tryz.f5.params.toList Rows.policyYoungerSpec.vars false #[.agg #[.int .i64 0, .int .i64 0], .agg #[.bool false, .bool false, .bool false, .bool false, .bool false, .bool false, .bool false, .bool false, .int .i64 0, .int .i64 0, .int .i64 0, .int .i64 0, .int .i64 0, .bool false, .bool false, .bool false, .bool false, .bool false, .bool false, .bool false, .bool false, .int .i64 0, .int .i64 0, .int .i64 0, .int .i64 0, .int .i64 0], .agg #[.int .i64 0, .int .i64 0]].toList 12).map fun x => true) = some true := by kernel_rfl
  obtain ⟨x, hx, hs⟩ := Option.map_eq_some_iff.1 hx0
  have hok : Input.okWideB Tryz.prog (w1 os) 5 ⟨#[], #[.agg #[.int .i64 0, .int .i64 0], .agg #[.bool false, .bool false, .bool false, .bool false, .bool false, .bool false, .bool false, .bool false, .int .i64 0, .int .i64 0, .int .i64 0, .int .i64 0, .int .i64 0, .bool false, .bool false, .bool false, .bool false, .bool false, .bool false, .bool false, .bool false, .int .i64 0, .int .i64 0, .int .i64 0, .int .i64 0, .int .i64 0], .agg #[.int .i64 0, .int .i64 0]], []⟩ = true := by kernel_rfl
  exact ⟨w0 os, fun _ _ => 0, ⟨#[], #[.agg #[.int .i64 0, .int .i64 0], .agg #[.bool false, .bool false, .bool false, .bool false, .bool false, .bool false, .bool false, .bool false, .int .i64 0, .int .i64 0, .int .i64 0, .int .i64 0, .int .i64 0, .bool false, .bool false, .bool false, .bool false, .bool false, .bool false, .bool false, .bool false, .int .i64 0, .int .i64 0, .int .i64 0, .int .i64 0, .int .i64 0], .agg #[.int .i64 0, .int .i64 0]], []⟩, World.laidAll_os _ _ _, World.shaped_of_ZipB (by kernel_rfl) (by kernel_rfl), (Input.okWide_of_okWideB (base := 0) hok).1, (Input.okWide_of_okWideB hok).2, OpenSpec.preRow_of_cond 12 hx rfl (fun k hk => by cases hk) (by kernel_rfl) (met os), by
    simp only [Assume.holds]
    exact ⟨by simp, by simp, fun _ => Modest.zero, by simp, by simp⟩⟩
set_option maxRecDepth 100000 in
theorem lifted (os : Os) (started : os.Started) (H : Type) (enc : TypeId × Value → H) (F : Stop.Interp) :
    ReturnsInHanded {} Tryz.checked os 5 .any ((OpenSpec.ofChange Rows.policyYoungerSpec).preRow enc Tryz.prog Tryz.f5 Rows.policyYoungerRow.domain false Rows.policyYoungerRow.laid) (((OpenSpec.ofChange Rows.policyYoungerSpec).at F).post enc Tryz.prog Tryz.f5 false true false false) := by
  refine returnsInHanded_of_row (C := Tryz.checked) (s := OpenSpec.ofChange Rows.policyYoungerSpec) own started (by kernel_rfl) Tryz.func5 (witness os enc) ?_
  intro W base args ds gs before hval hW _ hcond _ hL hsh _
  exact contract H enc W base args ds gs before hval hW hL hsh
theorem said : Rows.PolicyYoungerSaid :=
  OpenClaim.holds_of_cond 5 Tryz.f5 rfl rfl rfl rfl rfl rfl rfl ⟨rfl, rfl, rfl, rfl, rfl⟩ rfl rfl rfl rfl rfl (by kernel_rfl) Tryz.func5 (by kernel_rfl)
    (of_decide_eq_true (by kernel_rfl)) (by unfold Func.isWrapper; first | (rw [if_pos (by decide +kernel)]; kernel_rfl) | (rw [if_neg (by decide +kernel)]; exact ⟨rfl, rfl⟩))
    (fun os started H enc _ F => by rw [OpenClaim.pre_eq_preRow]; exact lifted os started H enc F)
theorem plain (f : FuncId) (fn : Func) (hf : Tryz.pinned.checked.prog.funcNamed "scullery/scullerylaw14.PolicyYounger" = some f) (hfn : Tryz.pinned.checked.prog.funcs[f]? = some fn) :
    true = Tryz.pinned.checked.prog.looks [] ∧ ∀ (j : Nat) t, fn.params[j]? = some t → Tryz.pinned.checked.prog.wantsStandIn t = false := by
  obtain rfl : f = 5 := Option.some.inj ((show Tryz.prog.funcNamed "scullery/scullerylaw14.PolicyYounger" = some 5 by kernel_rfl).symm.trans hf) |>.symm
  obtain rfl : fn = Tryz.f5 := (Option.some.inj (Tryz.func5.symm.trans hfn)).symm
  refine ⟨by kernel_rfl, fun j t ht => ?_⟩
  rw [Tryz.params5] at ht
  have hm : t ∈ [42, 35, 42] := by simpa using Array.mem_of_getElem? ht
  have hall : ([42, 35, 42].all fun u => !Tryz.prog.wantsStandIn u) = true := by kernel_rfl
  exact (show Tryz.prog.wantsStandIn t = false by simpa using List.all_eq_true.1 hall t hm)
theorem card : Rows.PolicyYoungerCardSaid :=
  Claim7.holds_tied_plain_at .later [] _ _ _ _ said (fun _ h => by cases h) (by kernel_rfl) (fun _ h => by cases h) policyYounger_row_tie rfl ⟨rfl, rfl⟩ (by kernel_rfl) rfl plain (by kernel_rfl)
end Go.Proofs.YtebfpnbnoinhbaaGreatDoor.policyYounger
namespace Go.Proofs.YtebfpnbnoinhbaaGreatDoor
theorem policyYounger_holds : Rows.PolicyYoungerCardSaid := policyYounger.card
end Go.Proofs.YtebfpnbnoinhbaaGreatDoor
