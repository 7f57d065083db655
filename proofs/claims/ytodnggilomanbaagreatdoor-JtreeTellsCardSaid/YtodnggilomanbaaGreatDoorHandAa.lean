/-
  '[]byte(s)': the new row, as what is only read. No walk. slices.Clone: the walk; small laws for walks by hand. (Turned from the wire chapter's.) Maps of bytes that a call makes, written by a literal: laws at the operations. No walk. What the library reads of package-level variables: two tables of utf8, unicode's cases. No walk. Bytes as numbers and as bytes. No walk. A call inside a region that draws its order, which may panic. Plain; no walk. node's map of method values: laws at the operations. No walk.
-/
import Derived.Test.YtodnggilomanbaaGreatDoorAp
import Derived.Test.YtodnggilomanbaaGreatDoorProg
import Derived.Lib.ConvBytes
import Derived.Laws.AppendOwn
import Derived.Test.YtodnggilomanbaaGreatDoorWKit
import Derived.Test.YtodnggilomanbaaGreatDoorWWords
import Derived.WalkKit
import Derived.WalkSpells
import Derived.Outline
import Derived.Lib.Hide
import Derived.OwnWalk
import Derived.ArgAppend
import Derived.Maps.AppendAt
import Derived.Maps.OwnSet
import Derived.Maps.OwnOps
import Derived.Shelf.Unicode.DecodeSlow
import Derived.Shelf.Strings.CaseAny
import Derived.Lib.TrimUEq
set_option maxRecDepth 100000
set_option maxHeartbeats 1000000
section
namespace Go.Proofs.YtodnggilomanbaaGreatDoor.Hand
open Go.RowKit Go.Proofs.YtodnggilomanbaaGreatDoorW.PrintWords Go.Proofs.YtodnggilomanbaaGreatDoorW.PrintMore
set_option linter.unusedVariables false
set_option linter.unusedSimpArgs false

def bI.f (s : ByteArray) : Option (List Int) := if s.size ≤ 140737488351232 then some (bytesOf s) else none
theorem ew (w : World) (e : TypeId) (s : ByteArray) : Below w.heap.size w (Lib.bytesWorld w e s) := by
  exact ⟨rfl, rfl, rfl, by rw [Lib.bytesWorld_size]; omega, fun k hk => Lib.bytesWorld_at_old w e s k hk⟩
section
variable {P : Program} {ops : Array Oper} {rest : List Oper} {o : Oper} {a : Act} {Q : Exit → Act → World → Prop}
/-- The operation is a conversion. -/
theorem gate_conv {s t : TypeId} {x : Operand} {W : World} (_ho : o.op = .convert s t x) (h : wpList P ops Q (o :: rest) a W) : wpList P ops Q (o :: rest) a W := h
theorem bN {W : World} {s : ByteArray} {t : List Int} (hgd : o.guard = none) (hf : bI.f s = some t)
 (hrun : (execOp a.eval o).run P W = .ok (.value (.slice (some ⟨W.heap.size, 0, none⟩) s.size (grownCap W s.size 0 5))) (Lib.bytesWorld W 5 s))
 (h : ∀ v w1, Kd.V (Kd.int .u8) 5 w1 W.heap.size (fun k => k = W.heap.size) v t → Below W.heap.size W w1 → wpList P ops Q rest (a.put o.dst v) w1) : wpList P ops Q (o :: rest) a W := by
 unfold bI.f at hf
 split at hf
 ·obtain rfl := Option.some.inj hf
  refine Kd.event_run hgd hrun (h _ _ ?_ (ew W 5 s))
  have hl : (bytesOf s).length = s.size := bytesOf_length s
  refine ⟨some ⟨W.heap.size, 0, none⟩, grownCap W s.size 0 5, by rw [hl], by rw [hl]; exact grownCap_ge W s.size 0 5, ?_⟩
  intro W' hW
  have hb := hW W.heap.size rfl (by rw [Lib.bytesWorld_size]; omega)
  refine ⟨rfl, by omega, fun _ => ⟨_, rfl, fun j p hp => ⟨[.int .u8 p], rfl, rfl, fun i u hu => ?_⟩⟩⟩
  have hi : i = 0 := by
   rcases i with _ | i
   ·rfl
   ·simp at hu
  subst hi
  obtain ⟨hj, rfl⟩ := List.getElem?_eq_some_iff.1 hp
  obtain rfl : Value.int .u8 ((bytesOf s)[j]) = u := by simpa using hu
  have hc := Lib.bytesWorld_cell W 5 s j (by omega)
  have e1 : (bytesOf s)[j] = (((s.data.toList.getD j 0).toNat : Nat) : Int) := by
   have hj2 : j < s.data.toList.length := by rw [data_length]; omega
   simp only [bytesOf, List.getElem_map, List.getD_eq_getElem?_getD, List.getElem?_eq_getElem hj2, Option.getD_some]
  rw [e1]
  have hcell : W'.cell? ⟨W.heap.size, j, none⟩ = (Lib.bytesWorld W 5 s).cell? ⟨W.heap.size, j, none⟩ := by simp only [World.cell?, hb]
  have ha : (⟨W.heap.size, 0, none⟩ : Addr).add (j * 1 + 0) = ⟨W.heap.size, j, none⟩ := by simp [Addr.add]; exact fun h => h.symm
  rw [show (Kd.int .u8).sz = 1 from rfl, ha, hcell, hc]
 ·cases hf
end
end Go.Proofs.YtodnggilomanbaaGreatDoor.Hand
end
section
namespace Go.Proofs.YtodnggilomanbaaGreatDoor.Hand
open Go.RowKit Go.Proofs.YtodnggilomanbaaGreatDoorW.PrintWords

theorem hinfo5 : (Tryz.prog.info? 5).map (fun i => (i.zero, i.size, i.bytes)) = some (some (.int .u8 0), 1, 1) := p12z
theorem hid {p : Prop} (h : p) : Hid p := h
theorem eC (k : IntKind) (l : List Int) : (nums k l).length = l.length := by simp [nums]
theorem nums_one (k : IntKind) (l : List Int) : ∀ u ∈ nums k l, u.oneCell' = true := by
  intro u hu
  obtain ⟨x, _, rfl⟩ := List.mem_map.1 hu
  rfl
theorem gu (k : IntKind) (a b : List Int) : nums k (a ++ b) = nums k a ++ nums k b := by simp [nums]
theorem eY {w : World} {A : Option Addr} {l : List Int} {k : IntKind} (h : (Kd.int k).C w A l.length l) : ∀ b, A = some b → ∀ j u, (nums k l)[j]? = some u → w.cell? (b.add j) = some u := by
  rintro b rfl j u hu
  have hj : j < l.length := by
    have := (List.getElem?_eq_some_iff.1 hu).1
    simpa [nums] using this
  have := Kd.foot_int h (j : Int) (by omega) (by omega)
  rw [Int.toNat_natCast] at this
  rw [this, ← hu]
  simp [nums, rd, List.getElem?_map, List.getD_eq_getElem?_getD, List.getElem?_eq_getElem hj]
def bK.f (l0 : List Int) : Option (List Int) := if l0.length ≤ 140737488300000 then some l0 else none
theorem hO {w : World} {A : Option Addr} {xs : List Value} {o : Obj} (h : ∀ b, A = some b → ∀ j u, xs[j]? = some u → w.cell? (b.add j) = some u) : ∀ b, A = some b → ∀ j u, xs[j]? = some u → (w.alloc o).cell? (b.add j) = some u :=
  fun b e j u hj => pw_cell_below (below_alloc (Below.refl _ _) _) (h b e j u hj)
theorem own_empty (w : World) : (w.alloc (.cells #[] 5)).ownsRow w.heap.size 5 1 (.slice (some ⟨w.heap.size, 0, none⟩) 0 0) 0 [] :=
  ⟨rfl, .inr ⟨w.heap.size, 0, #[], rfl, Nat.le_refl _, heap_alloc_new w _, Nat.le_refl _, by simp [maxLen], rfl, rfl⟩⟩
theorem bK.calls (A0 : Option Addr) (c0 : Nat) (l0 : List Int) (r : List Int) (w : World) (hr0 : Kd.C (Kd.int .u8) w A0 l0.length l0) (hc0 : l0.length ≤ c0) (h : bK.f l0 = some r) :
 Calls Tryz.prog 130 #[.slice A0 l0.length c0] w fun e w' => ∃ v0_ : Value, e = .returned v0_ ∧ Kd.R (Kd.int .u8) 5 w' w.heap.size (fun _ => True) v0_ r ∧ Below w.heap.size w w' := by
 unfold bK.f at h
 split at h
 ·rename_i hl
  obtain rfl := Option.some.inj h
  obtain ⟨i0, hi, hz0, hz1, hz2⟩ := info_parts hinfo5
  have hcells := hid (eY hr0)
  cases A0 with
  | none =>
   have hl0 : l0 = [] := by
    rcases l0 with _ | ⟨x, l0⟩
    ·rfl
    ·obtain ⟨_, e, _⟩ := hr0.2.2 (by simp)
     cases e
   subst hl0
   have heq : ∀ (w : World) (c : Nat), (binOp .eql 23 (.slice none 0 c) (.slice none 0 0)).run Tryz.prog w = .ok (.bool true) w := fun w c => Lib.run_eql_slice_nil (P := Tryz.prog) w 23 5 none 0 c 0 0 Tryz.underlying23
   go_enter Tryz.func130, Tryz.ntmps130
   go_wp2
   go_ret
   exact ⟨_, rfl, Kd.R_nil _ _ _ _ _, Below.refl _ _⟩
  | some ad =>
   have heq : ∀ (w : World) (n c : Nat), (binOp .eql 23 (.slice (some ad) n c) (.slice none 0 0)).run Tryz.prog w = .ok (.bool false) w := fun w n c => Lib.run_eql_slice_nil (P := Tryz.prog) w 23 5 (some ad) n c 0 0 Tryz.underlying23
   go_enter Tryz.func130, Tryz.ntmps130
   go_wp2_with (at_builtin; refine wpList_append_own _ rfl _ _ 23 rfl w.heap.size 5 i0 (.int .u8 0) 1 1 Tryz.underlying23 hi hz0 hz1 hz2 rfl (by decide) (.slice (some ⟨w.heap.size, 0, none⟩) 0 0) 0 [] rfl (own_empty w) ad l0.length c0 (nums .u8 l0) rfl (by rw [eC]; omega) (hO hcells.out _ rfl) (nums_one _ _) (by simp only [maxLen]; omega) (by omega) (by simp) ?_; intro v' w1 hown hgrow _)
   go_ret
   exact ⟨v', rfl, Kd.R_of_own (enc := Value.int .u8) (h1 := fun _ => rfl) (by rw [Nat.zero_add, List.nil_append] at hown; exact hown) (fun _ _ => trivial), ((Below.refl _ w).alloc (Nat.le_refl _) _).grown hgrow (by simp) (fun k hk => by simp [Value.ownBlock] at hk; omega)⟩
 ·cases h
end Go.Proofs.YtodnggilomanbaaGreatDoor.Hand
end
section
namespace Go.Proofs.YtodnggilomanbaaGreatDoor.Hand
open Go.RowKit Go.Maps Go.Proofs.YtodnggilomanbaaGreatDoorW.PrintWords

theorem law5 : Keyed Tryz.prog 5 := int_keyed Tryz.underlying5
theorem zero5 (w : World) : (zeroValue 5).run Tryz.prog w = .ok (.int .u8 0) w := p12z
section
variable {P : Program} {ops : Array Oper} {rest : List Oper} {o : Oper} {a : Act} {Q : Exit → Act → World → Prop}
theorem cf {t : TypeId} {m k v : Operand} {W : World} (_ho : o.op = .insert t m k v) (h : wpList P ops Q (o :: rest) a W) : wpList P ops Q (o :: rest) a W := h
theorem bp {H : Type} (w : World)
    (hg : o.guard = none) (m x v : Operand) (t : TypeId) (hop : o.op = Op.insert t m x v)
    (k e : TypeId) (K : Keyed P k) (ht : P.underlying t = some (.map k e)) (R : Value → Option (DataW H × List MemPlace)) (b n : Nat) (D : DataW H)
    (hm : a.eval m = .map (some b)) (hown : w.ownsMap P k R b n D) (hn : n < maxLen) (key val : Value) (kl : Lit) (hx : a.eval x = key) (hv : a.eval v = val) (hkey : keyOf P k key = some kl)
    (d : DataW H) (ps : List MemPlace) (hval : R val = some (d, ps))
    (hK : ∀ w', w'.ownsMap P k R b (n + 1) (D.put kl d) → w.grownBy w' (some b) → wpList P ops Q rest (a.put o.dst undef) w') :
    wpList P ops Q (o :: rest) a w := by
  refine wpList_plain hg fun K' hK' => ?_
  obtain ⟨w', hrun, r1, r2⟩ := hown.update K ht hn hkey hval
  unfold Oper.wp
  simp [execOp, hop, hm, hx, hv, hrun, Result.andThen]
  exact hK' _ _ (hK w' r1 r2)
end
def isBy (l : List Int) : Bool := l.all fun x => decide (0 ≤ x) && decide (x ≤ 255)
theorem isBy_at {l : List Int} (h : isBy l = true) (i : Nat) (hi : i < l.length) : 0 ≤ l.getD i 0 ∧ l.getD i 0 ≤ 255 := by
  have := List.all_eq_true.1 h _ (List.getElem_mem hi)
  simp only [Bool.and_eq_true, decide_eq_true_eq] at this
  rw [List.getD_eq_getElem?_getD, List.getElem?_eq_getElem hi]
  exact this
/-- A map of bytes to bytes, as a literal lays it. -/
def lay : List (Int × Int) → DataW Unit → DataW Unit
  | [], D => D
  | (k, v) :: r, D => lay r (D.put (.int .u8 k) (.lit (.int .u8 v)))
def num? : DataW Unit → Int
  | .lit (.int _ x) => x
  | _ => 0
end Go.Proofs.YtodnggilomanbaaGreatDoor.Hand
end
section
namespace Go.Proofs.YtodnggilomanbaaGreatDoor.Hand
open Go.RowKit Go.Lib
structure Tabs (w : World) : Prop where
  utf : Lib.Utf8Tabs 1 2 w
  cas : CaseVar 3 caseA w
theorem Tabs.below {w w' : World} (h : Tabs w) (hb : Below w.heap.size w w') : Tabs w' := ⟨Go.Proofs.Utf8Tabs_below h.utf hb, CaseVar_below h.cas hb⟩
end Go.Proofs.YtodnggilomanbaaGreatDoor.Hand
end
section
namespace Go.Proofs.YtodnggilomanbaaGreatDoor.Hand
open Go.RowKit Go.Lib Go.Proofs.YtodnggilomanbaaGreatDoorW.PrintWords
set_option linter.unusedVariables false
set_option linter.unusedSimpArgs false

def u8s (l : List Int) : List UInt8 := l.map fun x => UInt8.ofNat x.toNat
theorem u8s_data (l : List Int) : (strOfNums l).data.toList = u8s l := rfl
theorem str_size (l : List Int) : (strOfNums l).size = l.length := by show (List.toArray _).size = _; simp
theorem str_get {l : List Int} (h : isBy l = true) (j : Nat) (hj : j < l.length) : (((strOfNums l).get! j).toNat : Int) = l.getD j 0 := by
  obtain ⟨h0, h1⟩ := isBy_at h j hj
  have e : (strOfNums l).get! j = UInt8.ofNat (l.getD j 0).toNat := by
    show (List.toArray _)[j]! = _
    rw [getElem!_pos _ j (by simpa using hj)]
    simp [List.getD_eq_getElem?_getD, List.getElem?_eq_getElem hj]
  rw [e, UInt8.toNat_ofNat']
  omega
end Go.Proofs.YtodnggilomanbaaGreatDoor.Hand
end
section
namespace Go.Proofs.YtodnggilomanbaaGreatDoor.Hand
open Go.RowKit Go.Proofs.YtodnggilomanbaaGreatDoorW.PrintLast
section
variable {P : Program} {ops : Array Oper} {Q : Exit → Act → World → Prop}
theorem goesE_ {oi : Oper} {N : Option Tmp} {a : Act} {w : World} {K : Act → World → Prop} {f : FuncId} {fn : Func} {asx : Array Operand} {ts : Array TypeId} (hf : P.funcs[f]? = some fn) (hname : (fn.name == "runtime.NumGoroutine") = false) (hb : fn.body.isSome = true) (args : Array Value)
 (hw : Region.wanted oi (yielded ops a.tmps) = true) (hN : oi.dst = N) (hop : oi.op = .call { callee := .value (.func f), args := asx, argTypes := ts }) (hargs : asx.map a.eval = args)
 (h : Calls P f args w fun e w' => (∃ v, e = .returned v ∧ K (a.put N v) w') ∨ (∃ c, e = .panicked c ∧ Q (.panic c) a w')) : if Region.wanted oi (yielded ops a.tmps) = true then Oper.wp P oi a w K Q else K (a.put N undef) w := by
 have he := enters_ hf hname hb args w
 have hrun : (execOp a.eval oi).run P w = .ok (.enter f args) w := by
  unfold execOp
  simp [hop, resolve, Deferred.ofValue, invoke, Act.eval, hargs, he]
 rw [if_pos hw]
 subst hN
 unfold Oper.wp
 rw [hrun, Oper.upon_enter]
 refine h.mono fun e w'' hh => ?_
 rcases hh with ⟨v, rfl, hk⟩ | ⟨c, rfl, hq⟩
 ·exact hk
 ·exact hq
end
end Go.Proofs.YtodnggilomanbaaGreatDoor.Hand
end
section
namespace Go.Proofs.YtodnggilomanbaaGreatDoor.Hand
open Go.RowKit Go.Maps Go.Proofs.YtodnggilomanbaaGreatDoorW.PrintWords Go.Proofs.YtodnggilomanbaaGreatDoorW.PrintLast
/-- A method value of a reader, as its function's number; 0: none. -/
def isP (g : Nat) : List Value → Bool
  | [.pointer (some p)] => decide (p = ⟨g, 0, none⟩)
  | _ => false
def fnR (g : Nat) : Value → Option (DataW Unit × List MemPlace)
  | .nilFunc => some (.lit (.int .i64 0), [])
  | .func (.func n) f c => if isP g f.toList = true ∧ c.toList.isEmpty = true ∧ n ≠ 0 then some (.lit (.int .i64 (n : Int)), []) else none
  | _ => none
theorem isP_is {g : Nat} {l : List Value} (h : isP g l = true) : l = [.pointer (some ⟨g, 0, none⟩)] := by
 unfold isP at h
 split at h
 ·rw [of_decide_eq_true h]
 ·cases h
theorem fnR_func (g n : Nat) (hn : n ≠ 0) : fnR g (.func (.func n) #[.pointer (some ⟨g, 0, none⟩)] #[]) = some (.lit (.int .i64 (n : Int)), []) := by simp [fnR, isP, hn]
theorem zeroWay (w : World) : (zeroValue 68).run Tryz.prog w = .ok .nilFunc w := p12z
section
variable {P : Program} {ops : Array Oper} {rest : List Oper} {o : Oper} {a : Act} {Q : Exit → Act → World → Prop}
theorem eD {t : TypeId} {m x : Operand} {W : World} (_ho : o.op = .lookup t m x false) (h : wpList P ops Q (o :: rest) a W) : wpList P ops Q (o :: rest) a W := h
theorem eZ {n : Nat} {ts : Array TypeId} {W : World} (_ho : o.op = .call { callee := .value (.tmp n), args := #[], argTypes := ts }) (h : wpList P ops Q (o :: rest) a W) : wpList P ops Q (o :: rest) a W := h
/-- A call of a method value, without arguments; it may panic. -/
theorem e7 {w : World} {f : FuncId} {fn : Func} {x : Operand} {ts : Array TypeId} {fs : Array Value} (hg : o.guard = none) (hf : P.funcs[f]? = some fn) (hname : (fn.name == "runtime.NumGoroutine") = false) (hb : fn.body.isSome = true)
 (hop : o.op = .call { callee := .value x, args := #[], argTypes := ts }) (hx : a.eval x = .func (.func f) fs #[])
 (h : Calls P f fs w fun e w' => (∃ v, e = .returned v ∧ wpList P ops Q rest (a.put o.dst v) w') ∨ (∃ c, e = .panicked c ∧ Q (.panic c) a w')) : wpList P ops Q (o :: rest) a w := by
 refine wpList_plain hg fun K' hK' => ?_
 have he := enters_ hf hname hb fs w
 have hrun : (execOp a.eval o).run P w = .ok (.enter f fs) w := by
  unfold execOp
  simp [hop, resolve, Deferred.ofValue, invoke, hx, he]
 unfold Oper.wp
 rw [hrun, Oper.upon_enter]
 refine h.mono fun e w'' hh => ?_
 rcases hh with ⟨v, rfl, hk⟩ | ⟨c, rfl, hq⟩
 ·exact hK' _ _ hk
 ·exact hq
end
section
variable {P : Program} {ops : Array Oper} {rest : List Oper} {o : Oper} {a : Act} {Q : Exit → Act → World → Prop}
theorem dj {H : Type} (w : World) (hg : o.guard = none) (m x : Operand) (t : TypeId) (hop : o.op = Op.lookup t m x false)
    (k e : TypeId) (K : Keyed P k) (ht : P.underlying t = some (.map k e)) (R : Value → Option (DataW H × List MemPlace)) {z : Value} (hz : (zeroValue e).run P w = .ok z w) (zd : DataW H) (zp : List MemPlace) (hzd : R z = some (zd, zp)) (b n : Nat) (D : DataW H)
    (hm : a.eval m = .map (some b)) (hown : w.ownsMap P k R b n D) (key : Value) (kl : Lit) (hx : a.eval x = key) (hkey : keyOf P k key = some kl)
    (hK : ∀ v ps, R v = some (D.atKey kl zd, ps) → wpList P ops Q rest (a.put o.dst v) w) :
    wpList P ops Q (o :: rest) a w := by
  refine wpList_plain hg fun K' hK' => ?_
  obtain ⟨v, ps, hrun, hv⟩ := hown.lookup K ht hz hzd hkey
  unfold Oper.wp
  simp [execOp, hop, hm, hx, hrun, Result.andThen]
  exact hK' _ _ (hK v ps hv)
end
theorem fnR_inv {g : Nat} {v : Value} {c : Int} {ps : List MemPlace} (h : fnR g v = some (.lit (.int .i64 c), ps)) : (v = .nilFunc ∧ c = 0) ∨ ∃ n : Nat, v = .func (.func n) #[.pointer (some ⟨g, 0, none⟩)] #[] ∧ c = (n : Int) ∧ n ≠ 0 := by
 unfold fnR at h
 split at h
 ·left
  simp at h
  exact ⟨rfl, h.1.symm⟩
 ·rename_i n f e
  split at h
  ·rename_i hb
   right
   simp at h
   have h1 := isP_is hb.1
   have h2 : e.toList = [] := List.isEmpty_iff.1 hb.2.1
   refine ⟨n, ?_, h.1.symm, hb.2.2⟩
   rw [show f = #[.pointer (some ⟨g, 0, none⟩)] from Array.toList_inj.1 h1, show e = #[] from Array.toList_inj.1 h2]
  ·cases h
 ·cases h
end Go.Proofs.YtodnggilomanbaaGreatDoor.Hand
end
