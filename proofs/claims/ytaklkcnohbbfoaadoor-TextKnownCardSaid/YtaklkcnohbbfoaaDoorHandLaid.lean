/-
  What the rows' listed variables say of a world (Tabs), and one world that fits. No walk.
-/
import Derived.Test.YtaklkcnohbbfoaaDoorRows
import Derived.Test.YtaklkcnohbbfoaaDoorHandTabs
import Derived.Test.YtaklkcnohbbfoaaDoorShelf
import Derived.Lib.LaidIn
import Derived.Lib.LaidU8T
import Derived.PinnedBridge
import Derived.Shelf.Vars
import Derived.Stop.LaidErr
import Derived.Deep.DeepHandedRow
import Derived.LaidLaws
import Derived.RowKitTokens
namespace Go.Proofs.YtaklkcnohbbfoaaDoor.Hand
open Go.RowKit Go.Lib
set_option maxRecDepth 1000000
abbrev laid7 : List (String × DataW Unit) := [("math/bits.deBruijn32tab", Rows.laid_math_bits_deBruijn32tab), ("math/bits.deBruijn64tab", Rows.laid_math_bits_deBruijn64tab), ("internal/strconv.uint64pow10", Rows.laid_internal_strconv_uint64pow10), ("unicode/utf8.acceptRanges", Rows.laid_unicode_utf8_acceptRanges), ("strconv.ErrRange", Rows.laid_strconv_ErrRange), ("strconv.ErrSyntax", Rows.laid_strconv_ErrSyntax), ("unicode/utf8.first", Rows.laid_unicode_utf8_first)]
theorem star : "*" ++ "errors.errorString" = "*errors.errorString" := by decide
theorem row104 (u : TypeId) (h : Tryd.prog.typeName? 3 u = some "*errors.errorString") : u = 104 :=
  typeName_ptr_named (nm := "errors.errorString") (by rw [star]; kernel_rfl) (by kernel_rfl) (by decide) u (by rw [star]; exact h)
theorem utf_of {W : World} (h3 : VarReads Tryd.prog W "unicode/utf8.first" firstData) (h4 : VarReads Tryd.prog W "unicode/utf8.acceptRanges" acceptData) : Lib.Utf8Tabs 0 1 W :=
  utf8Tabs_of_readsT (ρ := Tryd.lays146_ren) { Tryd.lays146 with } ⟨by kernel_rfl, by kernel_rfl, by kernel_rfl, by kernel_rfl, by kernel_rfl, by kernel_rfl, by kernel_rfl⟩ h3 h4
theorem tabs_of {W : World} (hL : laidMet Tryd.prog laid7 W) (hsh : W.ShapedOpen Tryd.prog) : Tabs W := by
  have h3 : VarReads Tryd.prog W "unicode/utf8.first" Rows.laid_unicode_utf8_first := Lib.laidMet.reads hL (by simp)
  have h4 : VarReads Tryd.prog W "unicode/utf8.acceptRanges" Rows.laid_unicode_utf8_acceptRanges := Lib.laidMet.reads hL (by simp)
  have e3 : Rows.laid_unicode_utf8_first = firstData := Pinned.utf8First_eq
  have e4 : (Rows.laid_unicode_utf8_acceptRanges : DataW Unit) = acceptData := by kernel_rfl
  rw [e3] at h3
  rw [e4] at h4
  obtain ⟨a0, s0, hv, _, _, _⟩ := laid_sentinel hL.tail.tail.tail.tail.tail (g := 3) (ti := 60) (tp := 104) (te := 106) (ts := 9) (by kernel_rfl) (by kernel_rfl) Tryd.underlying60 row104 Tryd.underlying104 Tryd.underlying106 rfl rfl Tryd.underlying9 (by kernel_rfl) (by kernel_rfl)
  have hc := World.var?_cell (P := Tryd.prog) (n := "strconv.ErrSyntax") (g := 3) (by kernel_rfl) hv 0
  exact ⟨utf_of h3 h4, cell_of_shapedOpen_int (g := 2) (zero := #[.int .i64 0]) hsh (of_decide_eq_true (by kernel_rfl)) (by kernel_rfl) (by kernel_rfl) (by kernel_rfl) (by kernel_rfl) Tryd.underlying3, ⟨_, _, by simpa using hc⟩⟩
/-! ### One world that fits -/
def lit1 : DataW Unit → List Value
  | .lit (.int k x) => [.int k x]
  | _ => []
def lit2 : DataW Unit → List Value
  | .agg ds => ds.flatMap lit1
  | d => lit1 d
def lit3 : DataW Unit → List Value
  | .agg ds => ds.flatMap lit2
  | d => lit1 d
/-- So many blocks has the settled world. -/
noncomputable def low : Nat := (World.holding Tryd.prog default ⟨#[], #[], []⟩).heap.size
abbrev synS : ByteArray := { data := #[105, 110, 118, 97, 108, 105, 100, 32, 115, 121, 110, 116, 97, 120] }
abbrev rngS : ByteArray := { data := #[118, 97, 108, 117, 101, 32, 111, 117, 116, 32, 111, 102, 32, 114, 97, 110, 103, 101] }
/-- The settled world with two blocks more, each an errors.errorString; the listed variables hold what the list says. -/
noncomputable def laidWorld (os : Os) : World :=
  let w0 := World.holding Tryd.prog os ⟨#[.cells #[.string synS] 106, .cells #[.string rngS] 106], #[], []⟩
  let put (h : Array Obj) (g : Nat) (cs : Array Value) : Array Obj := h.modify g fun
    | .cells _ t frozen => .cells cs t frozen
    | o => o
  let h1 := put w0.heap 0 (lit3 Rows.laid_unicode_utf8_first).toArray
  let h2 := put h1 1 (lit3 Rows.laid_unicode_utf8_acceptRanges).toArray
  let h3 := put h2 3 #[.iface 104 (.pointer (some ⟨low, 0, none⟩))]
  let h4 := put h3 4 #[.iface 104 (.pointer (some ⟨low + 1, 0, none⟩))]
  let h5 := put h4 5 (lit3 Rows.laid_internal_strconv_uint64pow10).toArray
  let h6 := put h5 6 (lit3 Rows.laid_math_bits_deBruijn32tab).toArray
  let h7 := put h6 7 (lit3 Rows.laid_math_bits_deBruijn64tab).toArray
  { w0 with heap := h7 }
theorem laidIn_all (os : Os) (args : Array Value) : LaidIn Tryd.prog ((laidWorld os).forCall (fun _ _ => 0) ⟨#[], args, []⟩).memory laid7 [0, 1, 3, 4, 5, 6, 7, low, low + 1] :=
  LaidIn.of_run [0, 1, 3, 4, 5, 6, 7, low, low + 1] 8 (by kernel_rfl) (by kernel_rfl) (by kernel_rfl) (by kernel_rfl)
theorem laid_met (os : Os) (args : Array Value) : laidMet Tryd.prog laid7 ((laidWorld os).forCall (fun _ _ => 0) ⟨#[], args, []⟩).memory := (laidIn_all os args).met
end Go.Proofs.YtaklkcnohbbfoaaDoor.Hand
