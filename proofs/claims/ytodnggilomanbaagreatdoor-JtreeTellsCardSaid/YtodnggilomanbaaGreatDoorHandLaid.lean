/-
  What the rows' listed variables say of a world (Tabs), and one world that fits. No walk.
-/
import Derived.Test.YtodnggilomanbaaGreatDoorAp
import Derived.Test.YtodnggilomanbaaGreatDoorRows
import Derived.Test.YtodnggilomanbaaGreatDoorHandAa
import Derived.Test.YtodnggilomanbaaGreatDoorShelf
import Derived.Lib.LaidIn
import Derived.Lib.LaidU8T
import Derived.Lib.LaidCaseMet
import Derived.PinnedBridge
import Derived.Shelf.Vars
import Derived.Deep.DeepHandedRow
import Derived.LaidLaws
import Derived.RowKitTokens
import Derived.Deep.DeepWitnessRef
namespace Go.Proofs.YtodnggilomanbaaGreatDoor.Hand
open Go.RowKit Go.Lib
set_option maxRecDepth 1000000
abbrev laid3 : List (String × DataW Unit) := [("unicode/utf8.acceptRanges", Rows.laid_unicode_utf8_acceptRanges), ("unicode.CaseRanges", Rows.laid_unicode_CaseRanges), ("unicode/utf8.first", Rows.laid_unicode_utf8_first)]
theorem lay274 : Go.Proofs.Lays.n274 Tryz.prog Tryz.lays159_ren := { Tryz.lays159 with }
theorem layT206 : Tryz.prog.underlying (Tryz.lays159_ren.t 206) = some (.array 3 (Tryz.lays159_ren.t 21)) := p12z
theorem layX : CaseExtra Tryz.prog Tryz.lays159_ren := ⟨p12z, p12z, p12z, p12z, p12z, p12z⟩
theorem utf_of {W : World} (h3 : VarReads Tryz.prog W "unicode/utf8.first" firstData) (h4 : VarReads Tryz.prog W "unicode/utf8.acceptRanges" acceptData) : Lib.Utf8Tabs 1 2 W :=
  utf8Tabs_of_readsT (ρ := Tryz.lays159_ren) { Tryz.lays159 with } ⟨p12z, p12z, p12z, p12z, p12z, p12z, p12z⟩ h3 h4
theorem case_of {W : World} (h : VarReads Tryz.prog W "unicode.CaseRanges" caseData) : CaseVar 3 caseA W := caseVar_of_reads (ρ := Tryz.lays159_ren) lay274 layT206 layX h
theorem tabs_of {W : World} (hL : laidMet Tryz.prog laid3 W) : Tabs W := by
  have h3 : VarReads Tryz.prog W "unicode/utf8.first" Rows.laid_unicode_utf8_first := Lib.laidMet.reads hL (by simp)
  have h4 : VarReads Tryz.prog W "unicode/utf8.acceptRanges" Rows.laid_unicode_utf8_acceptRanges := Lib.laidMet.reads hL (by simp)
  have h5 : VarReads Tryz.prog W "unicode.CaseRanges" Rows.laid_unicode_CaseRanges := Lib.laidMet.reads hL (by simp)
  have e3 : Rows.laid_unicode_utf8_first = firstData := Pinned.utf8First_eq
  have e4 : (Rows.laid_unicode_utf8_acceptRanges : DataW Unit) = acceptData := p12z
  have e5 : Rows.laid_unicode_CaseRanges = caseData := Pinned.caseRanges_eq
  rw [e3] at h3
  rw [e4] at h4
  rw [e5] at h5
  exact ⟨utf_of h3 h4, case_of h5⟩
/-! ### One world that fits -/
def lit1 : DataW Unit → List Value
  | .lit (.int k x) => [.int k x]
  | _ => []
def lit2 : DataW Unit → List Value
  | .agg ds => ds.flatMap lit1
  | d => lit1 d
def lit3 : DataW Unit → List Value
  | .agg ds => ds.flatMap lit2
  | d => lit1 d
/-- So many blocks has the settled world. -/
noncomputable def low : Nat := (World.holding Tryz.prog default ⟨#[], #[], []⟩).heap.size
/-- The settled world with one block more, the table's rows; the listed variables hold what the list says. -/
noncomputable def laidWorld (os : Os) : World :=
  let w0 := World.holding Tryz.prog os ⟨#[.cells caseCells5 (Tryz.lays159_ren.t 208)], #[], []⟩
  let put (h : Array Obj) (g : Nat) (cs : Array Value) : Array Obj := h.modify g fun
    | .cells _ t frozen => .cells cs t frozen
    | o => o
  let h1 := put w0.heap 1 (lit3 Rows.laid_unicode_utf8_first).toArray
  let h2 := put h1 2 (lit3 Rows.laid_unicode_utf8_acceptRanges).toArray
  let h3 := put h2 3 #[.slice (some ⟨low, 0, none⟩) caseA.size caseA.size]
  { w0 with heap := h3 }
/-- The great table reads as its data. -/
theorem case_in {w : World} {R : Nat} {t : TypeId} (hgR : 3 ≠ R) (hvar : w.heap[3]? = some (.cells #[.slice (some ⟨R, 0, none⟩) caseA.size caseA.size] (Tryz.lays159_ren.t 162) (0, 0))) (hblk : w.heap[R]? = some (.cells caseCells5 t (0, 0))) :
 LaidIn Tryz.prog w [("unicode.CaseRanges", caseData)] [3, R] := by
 have hT := caseTab_of_block hblk
 have hread := case_slice_reads lay274 layT206 layX hT caseA_wf (by rw [caseA_size]; unfold maxLen; omega) 0
 rw [case_rows_data] at hread
 have hv : w.var? Tryz.prog "unicode.CaseRanges" = some #[.slice (some ⟨R, 0, none⟩) caseA.size caseA.size] := by simp [World.var?, layX.n13]; exact hvar ▸ rfl
 refine LaidIn.one (g := 3) [3, R] layX.n13 layX.y13 hv hread ?_ ?_ ?_
 ·refine List.nodup_append.2 ⟨row_nodup _ _, row_nodup _ _, ?_⟩
  intro a ha b hb e
  obtain ⟨i, _, rfl⟩ := MemPlace.mem_row.1 ha
  obtain ⟨j, _, rfl⟩ := MemPlace.mem_row.1 hb
  simp at e
  exact hgR e.1
 ·intro b off hp
  rcases List.mem_append.1 hp with hp | hp
  ·obtain ⟨i, hi, e⟩ := MemPlace.mem_row.1 hp
   cases e
   refine ⟨⟨_, _, hvar⟩, fun u v hc => ?_⟩
   have h0 : i = 0 := by simpa using hi
   subst h0
   rw [Lib.cell_of_heap hvar] at hc
   simp at hc
  ·obtain ⟨i, hi, e⟩ := MemPlace.mem_row.1 hp
   cases e
   refine ⟨⟨_, _, hblk⟩, fun u v hc => ?_⟩
   obtain ⟨c0, c1, c2, c3, c4⟩ := hT (i / 5) (by omega)
   have hi5 : 0 + i = 0 + i / 5 * 5 + i % 5 := by omega
   simp only at hc
   rw [hi5] at hc
   have hm : i % 5 < 5 := Nat.mod_lt _ (by omega)
   generalize i % 5 = m at hc hm
   rcases m with _ | _ | _ | _ | _ | m
   ·rw [Nat.add_zero, c0] at hc; cases hc
   ·rw [c1] at hc; cases hc
   ·rw [c2] at hc; cases hc
   ·rw [c3] at hc; cases hc
   ·rw [c4] at hc; cases hc
   ·omega
 ·intro x hx
  rcases List.mem_append.1 hx with hx | hx
  ·obtain ⟨i, _, rfl⟩ := MemPlace.mem_row.1 hx
   exact List.mem_cons.2 (Or.inl rfl)
  ·obtain ⟨i, _, rfl⟩ := MemPlace.mem_row.1 hx
   exact List.mem_cons.2 (Or.inr (List.mem_cons.2 (Or.inl rfl)))
noncomputable abbrev mem (os : Os) (args : Array Value) : World := ((laidWorld os).forCall (fun _ _ => 0) ⟨#[], args, []⟩).memory
theorem in1 (os : Os) (args : Array Value) : LaidIn Tryz.prog (mem os args) [("unicode/utf8.acceptRanges", Rows.laid_unicode_utf8_acceptRanges)] [2] :=
  LaidIn.of_run [2] 8 p12z p12z p12z p12z
theorem in3 (os : Os) (args : Array Value) : LaidIn Tryz.prog (mem os args) [("unicode/utf8.first", Rows.laid_unicode_utf8_first)] [1] :=
  LaidIn.of_run [1] 8 p12z p12z p12z p12z
theorem in2 (os : Os) (args : Array Value) : LaidIn Tryz.prog (mem os args) [("unicode.CaseRanges", Rows.laid_unicode_CaseRanges)] [3, low] := by
  have e5 : Rows.laid_unicode_CaseRanges = caseData := Pinned.caseRanges_eq
  rw [e5]
  exact case_in (R := low) (t := Tryz.lays159_ren.t 208) (by have : low ≠ 3 := (of_decide_eq_true p12z); exact this.symm) p12z p12z
theorem laid_met (os : Os) (args : Array Value) : laidMet Tryz.prog laid3 ((laidWorld os).forCall (fun _ _ => 0) ⟨#[], args, []⟩).memory :=
  ((in1 os args).append ((in2 os args).append (in3 os args) p12z) p12z).met
section
variable {H : Type} {enc : TypeId × Value → H}
/-- There is an input that fits; a listed variable may hold a slice. -/
theorem eS {C : Checked} {os : Os} {f : FuncId} {fn : Func} {s : OpenSpec} {conds : List PathCond} {apart : Bool} {laid : List (String × DataW Unit)} (modest : Bool) (w0 : World) (args : Array Value) (hos : w0.os = os)
    (hv : (w0.forCall (fun _ _ => 0) ⟨#[], args, []⟩).variablesRefB C.prog = true)
    (hr : ((w0.forCall (fun _ _ => 0) ⟨#[], args, []⟩).heap.toList.drop C.prog.globals.size).take ((begin C.prog (fun _ _ => 0) default).world.heap.size - C.prog.globals.size) = (begin C.prog (fun _ _ => 0) default).world.heap.toList.drop C.prog.globals.size)
    (hok : Input.okWideB C.prog (w0.forCall (fun _ _ => 0) ⟨#[], args, []⟩) f ⟨#[], args, []⟩ = true)
    (hrow : s.preRow enc C.prog fn conds apart laid (w0.forCall (fun _ _ => 0) ⟨#[], args, []⟩).memory args) :
    ∃ (w : World) (tape : Tape) (i : Input), w.os = os ∧ (w.forCall tape i).Shaped C.prog ∧ i.vars = [] ∧ Input.okWide C.prog (w.forCall tape i) .any w.heap.size f i ∧
      s.preRow enc C.prog fn conds apart laid (w.forCall tape i).memory i.args ∧ ({ modest := modest } : Assume).holds C.prog (lone (Frame.enter C.prog f i.args .normal) [] (w.forCall tape i)) := by
  obtain ⟨w, tape, i, h1, h2, h3, h4, h5, h6, _⟩ := OpenSpec.witness_stopped_atRef (enc := enc) (C := C) (fn := fn) (s := s) (conds := conds) (apart := apart) (laid := laid) modest w0 args hos hv hr hok hrow (fun _ _ _ => 0)
  exact ⟨w, tape, i, h1, h2, h3, h4, h5, h6⟩
end
end Go.Proofs.YtodnggilomanbaaGreatDoor.Hand
