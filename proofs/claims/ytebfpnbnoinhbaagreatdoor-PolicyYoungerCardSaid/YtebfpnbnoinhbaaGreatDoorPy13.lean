/- scullerylaw14.PolicyYounger tells true of every two ages and lifetimes and every pair of rules. No condition. -/
import Derived.WalkKit
import Derived.ProofKit
import Derived.Carry
import Derived.OpenShut
namespace Go.Proofs.YtebfpnbnoinhbaaGreatDoor.Q
open Go Go.RowKit Go.ChangeShapes Go.WideShapes Go.ChangeAt
set_option linter.unusedVariables false
section
variable {P : Program}
theorem trodAll_behind {H : Type} {enc : TypeId × Value → H} (hl : laidOutB P = true) {W W' : World} (hb : Below W.heap.size W W') :
    ∀ {ts : List TypeId} {vs : List Value} {ds : List (DataW H)} {ps : List MemPlace}, (ts.all fun t => P.readableRec t && decide (t < P.types.size)) = true →
      DataW.TrodAll enc P W 0 (fun _ => true) true ts vs ds ps → DataW.TrodAll enc P W' 0 (fun b => decide (b < W.heap.size)) true ts vs ds ps
  | [], [], [], _, _, h => h
  | [], [], _ :: _, _, _, h => h.elim
  | [], _ :: _, _, _, _, h => h.elim
  | _ :: _, [], _, _, _, h => h.elim
  | _ :: _, _ :: _, [], _, _, h => h.elim
  | t :: ts, v :: vs, d :: ds, ps, hr, h => by
    obtain ⟨p, q, h1, h2, e⟩ := h
    simp only [List.all_cons, Bool.and_eq_true, decide_eq_true_eq] at hr
    have hlt : ∀ x ∈ p, x.block < W.heap.size := by
      obtain ⟨m, hm⟩ := h1
      exact DataW.trod_lt m _ _ _ hm
    exact ⟨p, q, Below.trod hl hr.1.1 (of_decide_eq_true (by simpa using hr.1.2)) h1 hb hlt, trodAll_behind hl hb hr.2 h2, e⟩
def Cells (P : Program) (W : World) (b : Nat) : List TypeId → List Value → Prop
  | [], cs => cs = []
  | u :: ts, cs => ∃ x cs', cs = x :: cs' ∧ Cell.okWide P W .any b u x ∧ Cells P W b ts cs'
theorem cells_of {W : World} {b : Nat} : ∀ {ts : List TypeId} {cs : List Value}, cs.length = ts.length → (∀ (i : Nat) (u : TypeId) (x : Value), ts[i]? = some u → cs[i]? = some x → Cell.okWide P W .any b u x) → Cells P W b ts cs
  | [], [], _, _ => rfl
  | _ :: _, [], h, _ => by cases h
  | [], _ :: _, h, _ => by cases h
  | u :: ts, x :: cs, h, hc => ⟨x, cs, rfl, hc 0 u x rfl rfl, cells_of (by simpa using h) (fun i v y h1 h2 => hc (i + 1) v y (by simpa using h1) (by simpa using h2))⟩
theorem cells_bool {W : World} {b : Nat} {u : TypeId} {ts : List TypeId} {cs : List Value} (hu : P.underlying u = some .bool) (h : Cells P W b (u :: ts) cs) : ∃ (y : Bool) (cs' : List Value), cs = .bool y :: cs' ∧ Cells P W b ts cs' := by
  obtain ⟨x, cs', rfl, hx, h'⟩ := h
  unfold Cell.okWide Cell.ok at hx
  rw [hu] at hx
  cases x <;> simp at hx
  exact ⟨_, _, rfl, h'⟩
theorem cells_int {W : World} {b : Nat} {u : TypeId} {k : IntKind} {ts : List TypeId} {cs : List Value} (hu : P.underlying u = some (.int k)) (h : Cells P W b (u :: ts) cs) : ∃ (y : Int) (cs' : List Value), cs = .int k y :: cs' ∧ Cells P W b ts cs' := by
  obtain ⟨x, cs', rfl, hx, h'⟩ := h
  unfold Cell.okWide Cell.ok at hx
  rw [hu] at hx
  cases x <;> simp at hx
  obtain ⟨rfl, _⟩ := hx
  exact ⟨_, _, rfl, h'⟩
theorem flat_open {W : World} {b : Nat} {t : TypeId} {v : Value} {ts : List TypeId} (hu : (match P.underlying t with | some (.struct _) | some (.array _ _) => true | _ => false) = true)
    (hct : P.cellTypes P.depth t = some ts) (hC : P.cellsOf t = ts.length) (hv : Value.okWide P W .any b t v) : ∃ cs : List Value, v = .agg cs.toArray ∧ Cells P W b ts cs := by
  have key : ∃ cs : Array Value, v = .agg cs ∧ cs.size = P.cellsOf t ∧ Row.okWide P W .any b t cs := by
    unfold Value.okWide at hv
    split at hu
    · rename_i h; rw [h] at hv; exact hv
    · rename_i h; rw [h] at hv; exact hv
    · cases hu
  obtain ⟨cs, rfl, hs, ts', h1, _, h2⟩ := key
  obtain rfl := Option.some.inj (hct.symm.trans h1)
  have hl : cs.toList.length = ts.length := by rw [Array.length_toList, hs, hC]
  refine ⟨cs.toList, by simp, cells_of hl fun i u x hu' hx => ?_⟩
  have hi : i < ts.length := (List.getElem?_eq_some_iff.1 hu').1
  obtain ⟨u', e, hk⟩ := h2 i x (by simpa using hx)
  rw [Nat.mod_eq_of_lt hi, hu'] at e
  obtain rfl := Option.some.inj e
  exact hk
end
end Go.Proofs.YtebfpnbnoinhbaaGreatDoor.Q
