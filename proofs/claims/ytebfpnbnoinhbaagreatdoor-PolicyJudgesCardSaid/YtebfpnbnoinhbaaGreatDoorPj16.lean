/- scullerylaw14.PolicyJudges tells true of every age, lifetime and pair of rules. No condition. -/
import Derived.Test.YtebfpnbnoinhbaaGreatDoorCards
import Derived.Test.YtebfpnbnoinhbaaGreatDoorTie
import Derived.Test.YtebfpnbnoinhbaaGreatDoorPj1
import Derived.Test.YtebfpnbnoinhbaaGreatDoorPj2
import Derived.Test.YtebfpnbnoinhbaaGreatDoorPj3
import Derived.Test.YtebfpnbnoinhbaaGreatDoorPj4
import Derived.Test.YtebfpnbnoinhbaaGreatDoorPj5
import Derived.Test.YtebfpnbnoinhbaaGreatDoorPj6
import Derived.Test.YtebfpnbnoinhbaaGreatDoorPj7
import Derived.Test.YtebfpnbnoinhbaaGreatDoorPj8
import Derived.Test.YtebfpnbnoinhbaaGreatDoorPj9
import Derived.Test.YtebfpnbnoinhbaaGreatDoorPj10
import Derived.Test.YtebfpnbnoinhbaaGreatDoorPj11
import Derived.Test.YtebfpnbnoinhbaaGreatDoorPj12
import Derived.Test.YtebfpnbnoinhbaaGreatDoorPj13
import Derived.Test.YtebfpnbnoinhbaaGreatDoorPj14
import Derived.Test.YtebfpnbnoinhbaaGreatDoorPj15
namespace Go.Proofs.YtebfpnbnoinhbaaGreatDoor.policyJudges
open Go Go.RowKit Go.ChangeShapes Go.WideShapes Go.ChangeAt Go.Proofs.YtebfpnbnoinhbaaGreatDoor.Q
set_option linter.unusedVariables false
set_option linter.unusedSimpArgs false
set_option maxRecDepth 100000 in
theorem contract (H : Type) (enc : TypeId × Value → H) (W : World) (base : Nat) (args : Array Value) (ds gs : List (DataW H)) (before : List MemPlace)
    (hval : ∀ (j : Nat) t v, Tryz.f4.params[j]? = some t → args[j]? = some v → Value.okWide Tryz.prog W .any base t v)
    (hW : DataW.Whole enc Tryz.prog Tryz.f4.params.toList Rows.policyJudgesSpec.vars false W args.toList ds gs before) (hL : laidMetH Tryz.prog laidL W) (hsh : W.ShapedOpen Tryz.prog) :
    Calls Tryz.prog 4 args W fun e W' => ∃ v, e = .returned v ∧ Rows.policyJudgesSpec.post enc Tryz.prog Tryz.f4 false true false false W args v W' := by
  have hW' := hW
  obtain ⟨p, q, hA0, hV, rfl, hfz, hnd⟩ := hW
  have hA : DataW.TrodAll enc Tryz.prog W 0 (fun _ => true) true Tryz.f4.params.toList args.toList ds p := hA0
  have hA1 := hA
  rw [Tryz.params4] at hA hval
  obtain ⟨v0, vs0, d0, ds0, p0, q0, hargs, rfl, rfl, h0, r0⟩ := trodAll_cons hA
  obtain ⟨v1, vs1, d1, ds1, p1, q1, rfl, rfl, rfl, h1, r1⟩ := trodAll_cons r0
  obtain ⟨v2, vs2, d2, ds2, p2, q2, rfl, rfl, rfl, h2, r2⟩ := trodAll_cons r1
  obtain ⟨rfl, rfl, rfl⟩ := trodAll_nil r2
  obtain rfl : args = #[v0, v1, v2] := by cases args; simp_all
  obtain ⟨rfl, rfl⟩ := trodVars_none hV
  obtain ⟨a0, rfl, rfl, rfl, w0⟩ := open_int Tryz.underlying3 (hval 0 3 v0 rfl rfl) h0
  obtain ⟨a1, rfl, rfl, rfl, w1⟩ := open_int Tryz.underlying3 (hval 1 3 v1 rfl rfl) h1
  obtain ⟨cs2, rfl, hc2⟩ := flat_open (ts := [4, 4, 4, 4, 4, 4, 4, 4, 3, 3, 3, 3, 3, 4, 4, 4, 4, 4, 4, 4, 4, 3, 3, 3, 3, 3]) (by kernel_rfl) (by kernel_rfl) (by kernel_rfl) (hval 2 35 v2 rfl rfl)
  obtain ⟨a2_0, cs2_0, rfl, hc2_0⟩ := cells_bool Tryz.underlying4 hc2
  clear hc2
  obtain ⟨a2_1, cs2_1, rfl, hc2_1⟩ := cells_bool Tryz.underlying4 hc2_0
  clear hc2_0
  obtain ⟨a2_2, cs2_2, rfl, hc2_2⟩ := cells_bool Tryz.underlying4 hc2_1
  clear hc2_1
  obtain ⟨a2_3, cs2_3, rfl, hc2_3⟩ := cells_bool Tryz.underlying4 hc2_2
  clear hc2_2
  obtain ⟨a2_4, cs2_4, rfl, hc2_4⟩ := cells_bool Tryz.underlying4 hc2_3
  clear hc2_3
  obtain ⟨a2_5, cs2_5, rfl, hc2_5⟩ := cells_bool Tryz.underlying4 hc2_4
  clear hc2_4
  obtain ⟨a2_6, cs2_6, rfl, hc2_6⟩ := cells_bool Tryz.underlying4 hc2_5
  clear hc2_5
  obtain ⟨a2_7, cs2_7, rfl, hc2_7⟩ := cells_bool Tryz.underlying4 hc2_6
  clear hc2_6
  obtain ⟨a2_8, cs2_8, rfl, hc2_8⟩ := cells_int Tryz.underlying3 hc2_7
  clear hc2_7
  obtain ⟨a2_9, cs2_9, rfl, hc2_9⟩ := cells_int Tryz.underlying3 hc2_8
  clear hc2_8
  obtain ⟨a2_10, cs2_10, rfl, hc2_10⟩ := cells_int Tryz.underlying3 hc2_9
  clear hc2_9
  obtain ⟨a2_11, cs2_11, rfl, hc2_11⟩ := cells_int Tryz.underlying3 hc2_10
  clear hc2_10
  obtain ⟨a2_12, cs2_12, rfl, hc2_12⟩ := cells_int Tryz.underlying3 hc2_11
  clear hc2_11
  obtain ⟨a3_0, cs2_13, rfl, hc2_13⟩ := cells_bool Tryz.underlying4 hc2_12
  clear hc2_12
  obtain ⟨a3_1, cs2_14, rfl, hc2_14⟩ := cells_bool Tryz.underlying4 hc2_13
  clear hc2_13
  obtain ⟨a3_2, cs2_15, rfl, hc2_15⟩ := cells_bool Tryz.underlying4 hc2_14
  clear hc2_14
  obtain ⟨a3_3, cs2_16, rfl, hc2_16⟩ := cells_bool Tryz.underlying4 hc2_15
  clear hc2_15
  obtain ⟨a3_4, cs2_17, rfl, hc2_17⟩ := cells_bool Tryz.underlying4 hc2_16
  clear hc2_16
  obtain ⟨a3_5, cs2_18, rfl, hc2_18⟩ := cells_bool Tryz.underlying4 hc2_17
  clear hc2_17
  obtain ⟨a3_6, cs2_19, rfl, hc2_19⟩ := cells_bool Tryz.underlying4 hc2_18
  clear hc2_18
  obtain ⟨a3_7, cs2_20, rfl, hc2_20⟩ := cells_bool Tryz.underlying4 hc2_19
  clear hc2_19
  obtain ⟨a3_8, cs2_21, rfl, hc2_21⟩ := cells_int Tryz.underlying3 hc2_20
  clear hc2_20
  obtain ⟨a3_9, cs2_22, rfl, hc2_22⟩ := cells_int Tryz.underlying3 hc2_21
  clear hc2_21
  obtain ⟨a3_10, cs2_23, rfl, hc2_23⟩ := cells_int Tryz.underlying3 hc2_22
  clear hc2_22
  obtain ⟨a3_11, cs2_24, rfl, hc2_24⟩ := cells_int Tryz.underlying3 hc2_23
  clear hc2_23
  obtain ⟨a3_12, cs2_25, rfl, hc2_25⟩ := cells_int Tryz.underlying3 hc2_24
  clear hc2_24
  obtain rfl : cs2_25 = [] := hc2_25
  refine (policyJudges.calls a0 a1 a2_0 a2_1 a2_2 a2_3 a2_4 a2_5 a2_6 a2_7 a2_8 a2_9 a2_10 a2_11 a2_12 a3_0 a3_1 a3_2 a3_3 a3_4 a3_5 a3_6 a3_7 a3_8 a3_9 a3_10 a3_11 a3_12 W (gl_of hL hsh)).mono fun e W' ⟨he, bel⟩ => ?_
  subst he
  exact ⟨_, rfl, _, _, _, [], _, [], hW', trodAll_mk1 (shut_bool Tryz.underlying4 _), trodAll_behind laidOut bel (by kernel_rfl) hA1, rfl, bel.frame _, fun h => by cases h⟩
noncomputable def w0 (os : Os) : World := World.laidAll Tryz.prog os laidL
noncomputable def w1 (os : Os) : World := (w0 os).forCall (fun _ _ => 0) ⟨#[], #[.int .i64 0, .int .i64 0, .agg #[.bool false, .bool false, .bool false, .bool false, .bool false, .bool false, .bool false, .bool false, .int .i64 0, .int .i64 0, .int .i64 0, .int .i64 0, .int .i64 0, .bool false, .bool false, .bool false, .bool false, .bool false, .bool false, .bool false, .bool false, .int .i64 0, .int .i64 0, .int .i64 0, .int .i64 0, .int .i64 0]], []⟩
set_option maxRecDepth 100000 in
theorem met (os : Os) : laidMetH Tryz.prog laidL (w1 os).memory := by
  rw [MakeChecks.laidMetH_plain _ _ _ (by kernel_rfl)]
  exact laidMet_laidAll _ (by kernel_rfl) (by kernel_rfl)
set_option maxRecDepth 100000 in
theorem witness (os : Os) {H : Type} (enc : TypeId × Value → H) : ∃ (w : World) (tape : Tape) (i : Input), w.os = os ∧ (w.forCall tape i).Shaped Tryz.checked.prog ∧ i.vars = [] ∧ Input.okWide Tryz.checked.prog (w.forCall tape i) .any w.heap.size 4 i ∧
    (OpenSpec.ofChange Rows.policyJudgesSpec).preRow enc Tryz.checked.prog Tryz.f4 Rows.policyJudgesRow.domain false Rows.policyJudgesRow.laid (w.forCall tape i).memory i.args ∧ ({} : Assume).holds Tryz.checked.prog (lone (Frame.enter Tryz.checked.prog 4 i.args .normal) [] (w.forCall tape i)) := by
  have hx0 : ((DataW.whole enc Tryz.prog (w1 os).memory Tryz.f4.params.toList Rows.policyJudgesSpec.vars false #[.int .i64 0, .int .i64 0, .agg #[.bool false, .bool false, .bool false, .bool false, .bool false, .bool false, .bool false, .bool false, .int .i64 0, .int .i64 0, .int .i64 0, .int .i64 0, .int .i64 0, .bool false, .bool false, .bool false, .bool false, .bool false, .bool false, .bool false, .bool false, .int .i64 0, .int .i64 0, .int .i64 0, .int .i64 0, .int .i64 0]].toList 12).map fun x => true) = some true := by kernel_rfl
  obtain ⟨x, hx, hs⟩ := Option.map_eq_some_iff.1 hx0
  have hok : Input.okWideB Tryz.prog (w1 os) 4 ⟨#[], #[.int .i64 0, .int .i64 0, .agg #[.bool false, .bool false, .bool false, .bool false, .bool false, .bool false, .bool false, .bool false, .int .i64 0, .int .i64 0, .int .i64 0, .int .i64 0, .int .i64 0, .bool false, .bool false, .bool false, .bool false, .bool false, .bool false, .bool false, .bool false, .int .i64 0, .int .i64 0, .int .i64 0, .int .i64 0, .int .i64 0]], []⟩ = true := by kernel_rfl
  exact ⟨w0 os, fun _ _ => 0, ⟨#[], #[.int .i64 0, .int .i64 0, .agg #[.bool false, .bool false, .bool false, .bool false, .bool false, .bool false, .bool false, .bool false, .int .i64 0, .int .i64 0, .int .i64 0, .int .i64 0, .int .i64 0, .bool false, .bool false, .bool false, .bool false, .bool false, .bool false, .bool false, .bool false, .int .i64 0, .int .i64 0, .int .i64 0, .int .i64 0, .int .i64 0]], []⟩, World.laidAll_os _ _ _, World.shaped_of_ZipB (by kernel_rfl) (by kernel_rfl), (Input.okWide_of_okWideB (base := 0) hok).1, (Input.okWide_of_okWideB hok).2, OpenSpec.preRow_of_cond 12 hx rfl (fun k hk => by cases hk) (by kernel_rfl) (met os), by
    simp only [Assume.holds]
    exact ⟨by simp, by simp, fun _ => Modest.zero, by simp, by simp⟩⟩
set_option maxRecDepth 100000 in
theorem lifted (os : Os) (started : os.Started) (H : Type) (enc : TypeId × Value → H) (F : Stop.Interp) :
    ReturnsInHanded {} Tryz.checked os 4 .any ((OpenSpec.ofChange Rows.policyJudgesSpec).preRow enc Tryz.prog Tryz.f4 Rows.policyJudgesRow.domain false Rows.policyJudgesRow.laid) (((OpenSpec.ofChange Rows.policyJudgesSpec).at F).post enc Tryz.prog Tryz.f4 false true false false) := by
  refine returnsInHanded_of_row (C := Tryz.checked) (s := OpenSpec.ofChange Rows.policyJudgesSpec) own started (by kernel_rfl) Tryz.func4 (witness os enc) ?_
  intro W base args ds gs before hval hW _ hcond _ hL hsh _
  exact contract H enc W base args ds gs before hval hW hL hsh
theorem said : Rows.PolicyJudgesSaid :=
  OpenClaim.holds_of_cond 4 Tryz.f4 rfl rfl rfl rfl rfl rfl rfl ⟨rfl, rfl, rfl, rfl, rfl⟩ rfl rfl rfl rfl rfl (by kernel_rfl) Tryz.func4 (by kernel_rfl)
    (of_decide_eq_true (by kernel_rfl)) (by unfold Func.isWrapper; first | (rw [if_pos (by decide +kernel)]; kernel_rfl) | (rw [if_neg (by decide +kernel)]; exact ⟨rfl, rfl⟩))
    (fun os started H enc _ F => by rw [OpenClaim.pre_eq_preRow]; exact lifted os started H enc F)
theorem plain (f : FuncId) (fn : Func) (hf : Tryz.pinned.checked.prog.funcNamed "scullery/scullerylaw14.PolicyJudges" = some f) (hfn : Tryz.pinned.checked.prog.funcs[f]? = some fn) :
    true = Tryz.pinned.checked.prog.looks [] ∧ ∀ (j : Nat) t, fn.params[j]? = some t → Tryz.pinned.checked.prog.wantsStandIn t = false := by
  obtain rfl : f = 4 := Option.some.inj ((show Tryz.prog.funcNamed "scullery/scullerylaw14.PolicyJudges" = some 4 by kernel_rfl).symm.trans hf) |>.symm
  obtain rfl : fn = Tryz.f4 := (Option.some.inj (Tryz.func4.symm.trans hfn)).symm
  refine ⟨by kernel_rfl, fun j t ht => ?_⟩
  rw [Tryz.params4] at ht
  have hm : t ∈ [3, 3, 35] := by simpa using Array.mem_of_getElem? ht
  have hall : ([3, 3, 35].all fun u => !Tryz.prog.wantsStandIn u) = true := by kernel_rfl
  exact (show Tryz.prog.wantsStandIn t = false by simpa using List.all_eq_true.1 hall t hm)
theorem card : Rows.PolicyJudgesCardSaid :=
  Claim7.holds_tied_plain_at .later [] _ _ _ _ said (fun _ h => by cases h) (by kernel_rfl) (fun _ h => by cases h) policyJudges_row_tie rfl ⟨rfl, rfl⟩ (by kernel_rfl) rfl plain (by kernel_rfl)
end Go.Proofs.YtebfpnbnoinhbaaGreatDoor.policyJudges
namespace Go.Proofs.YtebfpnbnoinhbaaGreatDoor
theorem policyJudges_holds : Rows.PolicyJudgesCardSaid := policyJudges.card
end Go.Proofs.YtebfpnbnoinhbaaGreatDoor
