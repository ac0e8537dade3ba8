/- scullerylaw14.PolicyYounger tells true of every two ages and lifetimes and every pair of rules. No condition. -/
import Derived.WalkKit
import Derived.ProofKit
import Derived.Carry
import Derived.OpenShut
import Derived.Deep.DeepHandedRow
import Derived.Lib.LaidTab
import Derived.Lib.LaidU8T
import Derived.PinnedBridge
import Derived.Lay
import Derived.Shelf.Vars
import Derived.LaidOnce
import Derived.SevenTiedAt
import Derived.Test.YtebfpnbnoinhbaaGreatDoorRows
import Derived.Test.YtebfpnbnoinhbaaGreatDoorPy1
import Derived.Test.YtebfpnbnoinhbaaGreatDoorPy2
import Derived.Test.YtebfpnbnoinhbaaGreatDoorPy3
import Derived.Test.YtebfpnbnoinhbaaGreatDoorPy4
import Derived.Test.YtebfpnbnoinhbaaGreatDoorPy5
import Derived.Test.YtebfpnbnoinhbaaGreatDoorPy6
import Derived.Test.YtebfpnbnoinhbaaGreatDoorPy13
namespace Go.Proofs.YtebfpnbnoinhbaaGreatDoor.Q
open Go Go.RowKit Go.ChangeShapes Go.WideShapes Go.ChangeAt
set_option linter.unusedVariables false
theorem own : ownKnob Tryz.prog.godebug = none := by kernel_rfl
theorem laidOut : laidOutB Tryz.prog = true := by kernel_rfl
def laidL : List (String × DataW Unit) := [("math/bits.deBruijn32tab", Rows.laid_math_bits_deBruijn32tab), ("math/bits.deBruijn64tab", Rows.laid_math_bits_deBruijn64tab), ("internal/strconv.uint64pow10", Rows.laid_internal_strconv_uint64pow10), ("unicode/utf8.acceptRanges", Rows.laid_unicode_utf8_acceptRanges), ("strconv.ErrRange", Rows.laid_strconv_ErrRange), ("strconv.ErrSyntax", Rows.laid_strconv_ErrSyntax), ("unicode/utf8.first", Rows.laid_unicode_utf8_first)]
def u8ren : Shelf.Ren := { f := fun _ => 0, t := fun n => if n = 5 then 5 else if n = 119 then 261 else if n = 138 then 263 else 264, g := fun n => if n = 3 then 1 else 2 }
theorem u8types : U8Types Tryz.prog u8ren := ⟨by kernel_rfl, by kernel_rfl, by kernel_rfl, by kernel_rfl⟩
theorem u8extra : U8Extra Tryz.prog u8ren := ⟨by kernel_rfl, by kernel_rfl, by kernel_rfl, by kernel_rfl, by kernel_rfl, by kernel_rfl, by kernel_rfl⟩
theorem accept_eq : (Rows.laid_unicode_utf8_acceptRanges : DataW Unit) = Lib.acceptData := by kernel_rfl
theorem pow10_eq : (Rows.laid_internal_strconv_uint64pow10 : DataW Unit) = Lib.tabData .u64 Lib.pow10Tab := by kernel_rfl
theorem gl_of {W : World} (hL0 : laidMetH Tryz.prog laidL W) (hsh : W.ShapedOpen Tryz.prog) : GL W := by
  have hL := hL0
  rw [MakeChecks.laidMetH_plain _ _ _ (by kernel_rfl)] at hL
  refine ⟨cell_of_shapedOpen_int (P := Tryz.prog) (t := 3) (zero := #[.int .i64 0]) hsh (of_decide_eq_true (by kernel_rfl)) (by kernel_rfl) rfl (by kernel_rfl) (by kernel_rfl) Tryz.underlying3, ?_, ?_⟩
  · have h6 : Lib.VarReads Tryz.prog W "unicode/utf8.first" Pinned.utf8First := Lib.laidMet.reads hL (.tail _ (.tail _ (.tail _ (.tail _ (.tail _ (.tail _ (.head _)))))))
    have h3 : Lib.VarReads Tryz.prog W "unicode/utf8.acceptRanges" Rows.laid_unicode_utf8_acceptRanges := Lib.laidMet.reads hL (.tail _ (.tail _ (.tail _ (.head _))))
    rw [Pinned.utf8First_eq] at h6
    rw [accept_eq] at h3
    exact utf8Tabs_of_readsT u8types u8extra h6 h3
  · obtain ⟨g, t, cs, fuel, p, hg, hty, hvar, hd⟩ := show Lib.VarReads Tryz.prog W "internal/strconv.uint64pow10" Rows.laid_internal_strconv_uint64pow10 from Lib.laidMet.reads hL (.tail _ (.tail _ (.head _)))
    obtain rfl := Option.some.inj (gNamed10.symm.trans hg)
    obtain rfl := Option.some.inj ((show (Tryz.prog.globals[5]?).map (·.type) = some 298 by kernel_rfl).symm.trans hty)
    rw [pow10_eq] at hd
    unfold Lib.TabIs
    rw [hvar, ← Lib.cells_of_tab Tryz.underlying298 Tryz.underlying278 (by kernel_rfl) (by kernel_rfl) hd]
end Go.Proofs.YtebfpnbnoinhbaaGreatDoor.Q
