/-
  strings.TrimLeft at the four blanks: the walk. jtree's reader, small methods: the walks. jtree's reader: null, no, yes: the walks. jtree's reader: blanks: the walk. jtree.digits: the walk.
-/
import Derived.Test.YtodnggilomanbaaGreatDoorAp
import Derived.Test.YtodnggilomanbaaGreatDoorHandStep
import Derived.Test.YtodnggilomanbaaGreatDoorPAllx0
import Derived.Test.YtodnggilomanbaaGreatDoorShelf
import Derived.Shelf.Strings.SlTrimAscii
import Derived.Test.YtodnggilomanbaaGreatDoorGR
import Derived.WalkMore
import Derived.WalkLawsBesides
import Derived.Lib.ConvBytes
import Derived.Lib.Hide
import Derived.Lib.DecodeN
set_option maxRecDepth 100000
set_option maxHeartbeats 4000000
section
namespace Go.Proofs.YtodnggilomanbaaGreatDoor.Hand
open Go.RowKit Go.Lib Go.Proofs.YtodnggilomanbaaGreatDoorW.PrintWords Go.Proofs.YtodnggilomanbaaGreatDoorW.PrintMore Go.Proofs.YtodnggilomanbaaGreatDoor.PAll
set_option linter.unusedVariables false
set_option linter.unusedSimpArgs false

def isBl (c : Int) : Bool := decide (c = 32) || decide (c = 9) || decide (c = 10) || decide (c = 13)
/-- How many blanks stand ahead. -/
def nbl (l : List Int) : Nat := (l.takeWhile isBl).length
theorem bl_all : ∀ b : Fin 256, ([32, 9, 10, 13] : List UInt8).contains (UInt8.ofNat b.val) = isBl ((b.val : Nat) : Int) := p103z
theorem bl_byte (b : UInt8) : ([32, 9, 10, 13] : List UInt8).contains b = isBl ((b.toNat : Nat) : Int) := by
  have := bl_all ⟨b.toNat, b.toNat_lt⟩
  simpa using this
theorem trim_len : ∀ l : List UInt8, (Lib.trimLeftS l [32, 9, 10, 13]).length + nbl (l.map fun b => (b.toNat : Int)) = l.length
 | [] => rfl
 | b :: u => by
  have ih := trim_len u
  unfold Lib.trimLeftS nbl at ih ⊢
  rw [List.dropWhile_cons, List.map_cons, List.takeWhile_cons, ← bl_byte b]
  cases h : ([32, 9, 10, 13] : List UInt8).contains b
  ·simp
  ·simp only [if_true, List.length_cons]
   omega
theorem nbl_le (l : List Int) : nbl l ≤ l.length := (List.takeWhile_sublist _).length_le
/-- What is left behind the blanks. -/
def trimB (s : ByteArray) : ByteArray := ⟨(Lib.trimLeftS s.data.toList [32, 9, 10, 13]).toArray⟩
theorem ib (s : ByteArray) : (trimB s).size + nbl (bytesOf s) = s.size := by
  have h := trim_len s.data.toList
  have hs : s.data.toList.length = s.size := data_length s
  rw [trimB, Lib.size_mk]
  unfold bytesOf
  omega
theorem ic (s : ByteArray) (w : World) :
    Calls Tryz.prog 63 #[.string s, .string ⟨#[32, 9, 10, 13]⟩] w fun e w' => e = .returned (.string (trimB s)) ∧ Below w.heap.size w w' :=
  Any.strings_TrimLeft_laid Tryz.lays161 p12z s ⟨#[32, 9, 10, 13]⟩ w (by decide) (ascii_of_all (by decide))
end Go.Proofs.YtodnggilomanbaaGreatDoor.Hand
end
section
namespace Go.Proofs.YtodnggilomanbaaGreatDoor.Hand
open Go.RowKit Go.Lib Go.Proofs.YtodnggilomanbaaGreatDoorW.PrintWords Go.Proofs.YtodnggilomanbaaGreatDoorW.PrintMore Go.Proofs.YtodnggilomanbaaGreatDoor.PAll
set_option linter.unusedVariables false
set_option linter.unusedSimpArgs false

/-- What is thrown. -/
@[reducible] def thrown (p c : Int) : Ending := .panicked [{ v := .iface 64 (.agg #[.int .i64 p, .int .i64 c]), recovered := false }]
theorem bE (P : Value) (p : Int) (w : World) : Calls Tryz.prog 31 #[P, .int .i64 p] w fun e w' => e = thrown p 140 ∧ w' = w := by
  go_enter Tryz.func31, Tryz.ntmps31
  go_wp2
  exact ⟨rfl, rfl, rfl⟩
theorem bw_below (w : World) (e : TypeId) (s : ByteArray) : Below w.heap.size w (Lib.bytesWorld w e s) :=
  ⟨rfl, rfl, rfl, by rw [Lib.bytesWorld_size]; omega, fun k hk => Lib.bytesWorld_at_old w e s k hk⟩

/-! ### word -/
/-- Where some bytes end, or where they are others. -/
def wordF (s : ByteArray) : List Int → Int → Except Int Int
  | [], x => .ok x
  | c :: t, x => if x = (s.size : Int) then .error x else if bt s x = c then wordF s t (x + 1) else .error x
def WordOut (w0 w w' : World) (g : Nat) (s : ByteArray) (many deep : Int) (r : Except Int Int) (e : Ending) : Prop := match r with
  | .ok x => e = .returned (.tuple #[]) ∧ IsS67 w0 w' g s x many deep ∧ Below w0.heap.size w0 w' ∧ KeepBut w w' g none
  | .error p => e = thrown p 140 ∧ Below w0.heap.size w0 w'
structure WRel (w0 w wr : World) (g : Nat) (s t : ByteArray) (many deep : Int) (r : Except Int Int) (i : Nat) (x : Int) : Prop where
  le : i ≤ t.size
  nn : 0 ≤ x
  xs : x ≤ (s.size : Int)
  st : IsS67 w0 wr g s x many deep
  bl : Below w0.heap.size w0 wr
  kp : KeepBut w wr g none
  cs : ∀ j, j < t.size → wr.cell? ⟨w.heap.size, j, none⟩ = some (.int .u8 ((bytesOf t).getD j 0))
  fr : wordF s ((bytesOf t).drop i) x = r
theorem bytes_at (t : ByteArray) (j : Nat) (hj : j < t.size) : ((t.data.toList.getD j 0).toNat : Int) = (bytesOf t).getD j 0 := by
  have hj2 : j < t.data.toList.length := by rw [data_length]; exact hj
  simp only [bytesOf, List.getD_eq_getElem?_getD, List.getElem?_map, List.getElem?_eq_getElem hj2, Option.map_some, Option.getD_some]
theorem fa (g : Nat) (s t : ByteArray) (x many deep : Int) (w0 w : World) (hI : IsS67 w0 w g s x many deep) (hB : Below w0.heap.size w0 w) (h0 : 0 ≤ x) (h1 : x ≤ (s.size : Int)) (hs : s.size ≤ 1099511627776) (ht : t.size ≤ 1099511627776) :
 Calls Tryz.prog 84 #[.pointer (some ⟨g, 0, none⟩), .string t] w fun e w' => WordOut w0 w w' g s many deep (wordF s (bytesOf t) x) e := by
 obtain ⟨r, hr⟩ : ∃ r, wordF s (bytesOf t) x = r := ⟨_, rfl⟩
 rw [hr]
 have hcv : ∀ W, (convert 9 23 (.string t)).run Tryz.prog W = .ok (.slice (some ⟨W.heap.size, 0, none⟩) t.size (grownCap W t.size 0 5)) (Lib.bytesWorld W 5 t) := fun W => Lib.run_convert_string_bytes (e := 5) W _ _ _ Tryz.underlying9 Tryz.underlying23 Tryz.underlying5
 go_enter Tryz.func84, Tryz.ntmps84
 go_wp2
 go_loopw [9] (fun v wr => ∃ (i : Nat) (y : Int), v = .int .i64 i ∧ WRel w0 w wr g s t many deep r i y) (fun v _ => t.size - (intOf v).toNat)
 case atStart =>
  refine ⟨0, x, rfl, ⟨Nat.zero_le _, h0, h1, hI.below (bw_below w 5 t), hB.trans ((bw_below w 5 t).mono hB.size), KeepBut.of_below (bw_below w 5 t) g none, fun j hj => ?_, by rw [List.drop_zero]; exact hr⟩⟩
  rw [Lib.bytesWorld_cell w 5 t j hj, bytes_at t j hj]
 case round =>
  obtain ⟨i, y, rfl, hrel⟩ := hrel
  obtain ⟨hle, hnn, hxs, hst, hbl, hkp, hcs, hfr⟩ := hrel
  have hlt0 := hst.lt
  have hge0 := hst.ge
  by_cases hlt : i < t.size
  case neg =>
   have hn : (bytesOf t).drop i = [] := List.drop_eq_nil_iff.2 p119z
   rw [hn, wordF] at hfr
   have HFR := hid hfr
   clear hfr hn
   go_wp2
   go_end0
   rw [← HFR.out]
   exact ⟨rfl, hst, hbl, hkp⟩
  obtain ⟨c, hc⟩ : ∃ c, (bytesOf t).getD i 0 = c := ⟨_, rfl⟩
  have hcell := hcs i hlt
  rw [hc] at hcell
  have HCS := hid hcs
  clear hcs
  have hdr : (bytesOf t).drop i = c :: (bytesOf t).drop (i + 1) := by
   have h2 : i < (bytesOf t).length := by rw [bytesOf_length]; exact hlt
   rw [List.drop_eq_getElem_cons h2, ← hc]
   simp [List.getD_eq_getElem?_getD, List.getElem?_eq_getElem h2]
  rw [hdr, wordF] at hfr
  have HDR := hid hdr
  have HCC := hid hc
  clear hdr hc
  have HST := hid hst
  have HBL := hid hbl
  have HKP := hid hkp
  obtain ⟨HG, hgg⟩ := hst
  have hz0 := cellS67_0 HG
  have hz1 := cellS67_1 HG
  have hf1 := blk_frozen HG 1
  clear HG hgg hbl hkp
  by_cases hy : y = (s.size : Int)
  case pos =>
   rw [if_pos hy] at hfr
   have hq1 : (y == (s.size : Int)) = true := beq_iff_eq.mpr hy
   have HFR := hid hfr
   have HNN := hid hnn
   clear hfr hnn hy
   go_wp2_with (go_at_call 31; refine (bE _ _ _).mono ?_; rintro e w' ⟨rfl, rfl⟩)
   repeat (go_quiet (fail); try go_wp2_with (go_at_call 31; refine (bE _ _ _).mono ?_; rintro e w' ⟨rfl, rfl⟩))
   exact ⟨rfl, by rw [← HFR.out]; exact ⟨rfl, pw_below_drewN HBL.out _⟩⟩
  rw [if_neg hy] at hfr
  have hq1 : (y == (s.size : Int)) = false := beq_eq_false_iff_ne.mpr hy
  have hylt : y < (s.size : Int) := by omega
  have p6 := eq_true hnn
  have q6 := eq_true hylt
  have hx6 := bt_at s y
  obtain ⟨d, hd⟩ : ∃ d, bt s y = d := ⟨_, rfl⟩
  rw [hd] at hfr hx6
  clear hy
  by_cases hdc : d = c
  case neg =>
   rw [if_neg hdc] at hfr
   have hq2 : (d != c) = true := bne_iff_ne.mpr hdc
   have HFR := hid hfr
   have HNN := hid hnn
   clear hfr hd hdc hnn hylt
   go_wp2_with (go_at_call 31; refine (bE _ _ _).mono ?_; rintro e w' ⟨rfl, rfl⟩)
   repeat (go_quiet (fail); try go_wp2_with (go_at_call 31; refine (bE _ _ _).mono ?_; rintro e w' ⟨rfl, rfl⟩))
   exact ⟨rfl, by rw [← HFR.out]; exact ⟨rfl, pw_below_drewN HBL.out _⟩⟩
  rw [if_pos hdc] at hfr
  have hq2 : (d != c) = false := bne_eq_false_iff_eq.mpr hdc
  have HFR := hid hfr
  have HD := hid hd
  have HNN := hid hnn
  have HYL := hid hylt
  clear hfr hd hdc hnn hylt
  go_wp2_with (go_at_call 31; refine (bE _ _ _).mono ?_; rintro e w' ⟨rfl, rfl⟩)
  repeat (go_quiet (fail); try go_wp2_with (go_at_call 31; refine (bE _ _ _).mono ?_; rintro e w' ⟨rfl, rfl⟩))
  have hw : wrap64 (y + 1) = y + 1 := by have := HNN.out; have := HYL.out; unfold wrap64; omega
  rw [hw]
  refine ⟨⟨i + 1, y + 1, by go_num, ?_⟩, p93z⟩
  refine ⟨hlt, by have := HNN.out; omega, by have := HYL.out; omega, (HST.out.drewN nq).set_1 (y + 1), below_set (pw_below_drewN HBL.out _) hge0, KeepBut.set_ (keep_drewN HKP.out _) 1 _, fun j hj => ?_, HFR.out⟩
  have hne : g ≠ w.heap.size := Nat.ne_of_lt hI.lt
  have h2 := HCS.out j hj
  simp only [World.cell?] at h2 ⊢
  rw [Below.heap_setCell _ _ _ _ hne.symm]
  exact h2
theorem word_err {g : Nat} {s t : ByteArray} {x many deep p : Int} {w0 w : World} (hI : IsS67 w0 w g s x many deep) (hB : Below w0.heap.size w0 w) (h0 : 0 ≤ x) (h1 : x ≤ (s.size : Int)) (hs : s.size ≤ 1099511627776) (ht : t.size ≤ 1099511627776) (h : wordF s (bytesOf t) x = .error p) :
    Calls Tryz.prog 84 #[.pointer (some ⟨g, 0, none⟩), .string t] w fun e w' => e = thrown p 140 ∧ Below w0.heap.size w0 w' := by
  have := fa g s t x many deep w0 w hI hB h0 h1 hs ht
  rwa [h] at this
theorem word_ok {g : Nat} {s t : ByteArray} {x many deep y : Int} {w0 w : World} (hI : IsS67 w0 w g s x many deep) (hB : Below w0.heap.size w0 w) (h0 : 0 ≤ x) (h1 : x ≤ (s.size : Int)) (hs : s.size ≤ 1099511627776) (ht : t.size ≤ 1099511627776) (h : wordF s (bytesOf t) x = .ok y) :
    Calls Tryz.prog 84 #[.pointer (some ⟨g, 0, none⟩), .string t] w fun e w' => e = .returned (.tuple #[]) ∧ IsS67 w0 w' g s y many deep ∧ Below w0.heap.size w0 w' ∧ KeepBut w w' g none := by
  have := fa g s t x many deep w0 w hI hB h0 h1 hs ht
  rwa [h] at this
end Go.Proofs.YtodnggilomanbaaGreatDoor.Hand
end
section
namespace Go.Proofs.YtodnggilomanbaaGreatDoor.Hand
open Go.RowKit Go.Lib Go.Proofs.YtodnggilomanbaaGreatDoorW.PrintWords Go.Proofs.YtodnggilomanbaaGreatDoorW.PrintMore Go.Proofs.YtodnggilomanbaaGreatDoor.PAll
set_option linter.unusedVariables false
set_option linter.unusedSimpArgs false

/-- What a method that reads a node comes to. -/
def NodeOut (w0 w w' : World) (g : Nat) (s : ByteArray) (r : Except (Int × Int) (S28 × Int × Int × Int)) (e : Ending) : Prop := match r with
  | .ok (n, x, many, deep) => ∃ v2 v3 : Value, e = .returned (.agg #[.int .i64 n.f0, .string n.f1, v2, v3]) ∧ Kd.R Kd.string 9 w' w.heap.size (fun _ => True) v2 n.f2 ∧ Kd.R k28 28 w' w.heap.size (fun k_ => some k_ ≠ (v2 : Value).ownBlock) v3 n.f3 ∧ IsS67 w0 w' g s x many deep ∧ Below w0.heap.size w0 w' ∧ KeepBut w w' g none
  | .error (p, c) => e = thrown p c ∧ Below w0.heap.size w0 w'
def leafF (s : ByteArray) (t : List Int) (kind x many deep : Int) : Except (Int × Int) (S28 × Int × Int × Int) := match wordF s t x with
  | .ok y => .ok (⟨kind, ⟨#[]⟩, [], []⟩, y, many, deep)
  | .error p => .error (p, 140)
/-- A new node's cells. -/
abbrev zcells : Array Value := #[.int .i64 0, .string ⟨#[]⟩, .slice none 0 0, .slice none 0 0]
theorem cell_of {W : World} {b i : Nat} {cs : Array Value} {t : TypeId} {v : Value} (h : W.heap[b]? = some (.cells cs t (0, 0))) (hv : cs[i]? = some v) : W.cell? ⟨b, i, none⟩ = some v := (blk_cell h i).trans hv
theorem bX {w0 w W : World} {g b : Nat} {s : ByteArray} {x many deep : Int} {cs : Array Value} (hi : IsS67 w0 W g s x many deep) (hb : Below w0.heap.size w0 W) (hk : KeepBut w W g none) (h : W.heap[b]? = some (.cells cs 28 (0, 0))) (hne : b ≠ g) (hwb : w.heap.size ≤ b) (hw0 : w0.heap.size ≤ b) (v0 v1 v2 v3 : Value) (h4 : cs.size = 4 := by rfl) :
 ((((W.setCell ⟨b, 0, none⟩ v0).setCell ⟨b, 1, none⟩ v1).setCell ⟨b, 2, none⟩ v2).setCell ⟨b, 3, none⟩ v3).heap[b]? = some (.cells #[v0, v1, v2, v3] 28 (0, 0)) ∧
 IsS67 w0 ((((W.setCell ⟨b, 0, none⟩ v0).setCell ⟨b, 1, none⟩ v1).setCell ⟨b, 2, none⟩ v2).setCell ⟨b, 3, none⟩ v3) g s x many deep ∧
 Below w0.heap.size w0 ((((W.setCell ⟨b, 0, none⟩ v0).setCell ⟨b, 1, none⟩ v1).setCell ⟨b, 2, none⟩ v2).setCell ⟨b, 3, none⟩ v3) ∧
 KeepBut w ((((W.setCell ⟨b, 0, none⟩ v0).setCell ⟨b, 1, none⟩ v1).setCell ⟨b, 2, none⟩ v2).setCell ⟨b, 3, none⟩ v3) g none := by
 obtain ⟨l⟩ := cs
 obtain ⟨a0, a1, a2, a3, rfl⟩ : ∃ a0 a1 a2 a3, l = [a0, a1, a2, a3] := by
  rcases l with _ | ⟨a0, _ | ⟨a1, _ | ⟨a2, _ | ⟨a3, _ | ⟨a4, l⟩⟩⟩⟩⟩ <;> first | (simp at h4; done) | exact ⟨_, _, _, _, rfl⟩
 refine ⟨?_, ?_, ?_, ?_⟩
 ·exact blk_put (cs := #[v0, v1, v2, a3]) (blk_put (cs := #[v0, v1, a2, a3]) (blk_put (cs := #[v0, a1, a2, a3]) (blk_put (cs := #[a0, a1, a2, a3]) h 0 _ rfl) 1 _ rfl) 2 _ rfl) 3 _ rfl
 ·exact (((hi.far hne.symm v0).far hne.symm v1).far hne.symm v2).far hne.symm v3
 ·exact below_set (below_set (below_set (below_set hb hw0) hw0) hw0) hw0
 ·exact keep_far (keep_far (keep_far (keep_far hk hwb _) hwb _) hwb _) hwb _
theorem ie (g : Nat) (s : ByteArray) (x many deep : Int) (w0 w : World) (hI : IsS67 w0 w g s x many deep) (hB : Below w0.heap.size w0 w) (h0 : 0 ≤ x) (h1 : x ≤ (s.size : Int)) (hs : s.size ≤ 1099511627776) :
 Calls Tryz.prog 55 #[.pointer (some ⟨g, 0, none⟩)] w fun e w' => NodeOut w0 w w' g s (leafF s [110, 117, 108, 108] 1 x many deep) e := by
 have hI1 : IsS67 w0 (w.alloc (.cells zcells 28)) g s x many deep := hI.alloc _
 have hB1 : Below w0.heap.size w0 (w.alloc (.cells zcells 28)) := below_alloc hB _
 have hK1 : KeepBut w (w.alloc (.cells zcells 28)) g none := keep_alloc (KeepBut.refl w g none) _
 have hblk : (w.alloc (.cells zcells 28)).heap[w.heap.size]? = some (.cells zcells 28 (0, 0)) := heap_alloc_new w _
 have hne : w.heap.size ≠ g := (Nat.ne_of_lt hI.lt).symm
 have hge : w0.heap.size ≤ w.heap.size := hB.size
 unfold leafF
 rcases hwf : wordF s [110, 117, 108, 108] x with p | y
 ·have hcall := word_err (t := ⟨#[110, 117, 108, 108]⟩) hI1 hB1 h0 h1 hs (by decide) hwf
  go_enter Tryz.func55, Tryz.ntmps55
  go_wp2_with (go_at_call 84; refine hcall.mono ?_; rintro e w' ⟨rfl, hb⟩)
  exact ⟨rfl, rfl, hb⟩
 ·have hcall := word_ok (t := ⟨#[110, 117, 108, 108]⟩) hI1 hB1 h0 h1 hs (by decide) hwf
  have HID := hid (And.intro hK1 (And.intro hblk (And.intro hne hge)))
  clear hK1 hblk hne hge hI1 hB1
  go_enter Tryz.func55, Tryz.ntmps55
  go_wp2_with (go_at_call 84; refine hcall.mono ?_; rintro e w' ⟨rfl, hi, hb, hk⟩; have HH := hid (And.intro hi (And.intro hb hk)); clear hi hb hk; have hb2 := HH.out.2.2.blk HID.out.2.1 HID.out.2.2.1 (by simp); have hc0 := cell_of (i := 0) hb2 rfl; have hc1 := cell_of (i := 1) hb2 rfl; have hc2 := cell_of (i := 2) hb2 rfl; have hc3 := cell_of (i := 3) hb2 rfl; have hf0 := blk_frozen hb2 0; have hf1 := blk_frozen hb2 1; have hf2 := blk_frozen hb2 2; have hf3 := blk_frozen hb2 3; have HB2 := hid hb2; clear hb2)
  have hst := bX HH.out.1 HH.out.2.1 (HID.out.1.trans HH.out.2.2 (.inl rfl)) HB2.out HID.out.2.2.1 (Nat.le_refl _) HID.out.2.2.2 (.int .i64 1) (.string ⟨#[]⟩) (.slice none 0 0) (.slice none 0 0)
  refine bodyPost_ret (results_cell_row rfl _ _ w.heap.size 28 #[.int .i64 1, .string (⟨#[]⟩ : ByteArray), .slice none 0 0, .slice none 0 0] (0, 0) _ rfl hst.1 Tryz.underlying28 rfl p12z) rfl ?_
  exact ⟨_, _, rfl, Kd.R_nil _ _ _ _ _, Kd.R_nil _ _ _ _ _, hst.2.1, hst.2.2.1, hst.2.2.2⟩
theorem no_calls (g : Nat) (s : ByteArray) (x many deep : Int) (w0 w : World) (hI : IsS67 w0 w g s x many deep) (hB : Below w0.heap.size w0 w) (h0 : 0 ≤ x) (h1 : x ≤ (s.size : Int)) (hs : s.size ≤ 1099511627776) :
 Calls Tryz.prog 56 #[.pointer (some ⟨g, 0, none⟩)] w fun e w' => NodeOut w0 w w' g s (leafF s [102, 97, 108, 115, 101] 2 x many deep) e := by
 have hI1 : IsS67 w0 (w.alloc (.cells zcells 28)) g s x many deep := hI.alloc _
 have hB1 : Below w0.heap.size w0 (w.alloc (.cells zcells 28)) := below_alloc hB _
 have hK1 : KeepBut w (w.alloc (.cells zcells 28)) g none := keep_alloc (KeepBut.refl w g none) _
 have hblk : (w.alloc (.cells zcells 28)).heap[w.heap.size]? = some (.cells zcells 28 (0, 0)) := heap_alloc_new w _
 have hne : w.heap.size ≠ g := (Nat.ne_of_lt hI.lt).symm
 have hge : w0.heap.size ≤ w.heap.size := hB.size
 unfold leafF
 rcases hwf : wordF s [102, 97, 108, 115, 101] x with p | y
 ·have hcall := word_err (t := ⟨#[102, 97, 108, 115, 101]⟩) hI1 hB1 h0 h1 hs (by decide) hwf
  go_enter Tryz.func56, Tryz.ntmps56
  go_wp2_with (go_at_call 84; refine hcall.mono ?_; rintro e w' ⟨rfl, hb⟩)
  exact ⟨rfl, rfl, hb⟩
 ·have hcall := word_ok (t := ⟨#[102, 97, 108, 115, 101]⟩) hI1 hB1 h0 h1 hs (by decide) hwf
  have HID := hid (And.intro hK1 (And.intro hblk (And.intro hne hge)))
  clear hK1 hblk hne hge hI1 hB1
  go_enter Tryz.func56, Tryz.ntmps56
  go_wp2_with (go_at_call 84; refine hcall.mono ?_; rintro e w' ⟨rfl, hi, hb, hk⟩; have HH := hid (And.intro hi (And.intro hb hk)); clear hi hb hk; have hb2 := HH.out.2.2.blk HID.out.2.1 HID.out.2.2.1 (by simp); have hc0 := cell_of (i := 0) hb2 rfl; have hc1 := cell_of (i := 1) hb2 rfl; have hc2 := cell_of (i := 2) hb2 rfl; have hc3 := cell_of (i := 3) hb2 rfl; have hf0 := blk_frozen hb2 0; have hf1 := blk_frozen hb2 1; have hf2 := blk_frozen hb2 2; have hf3 := blk_frozen hb2 3; have HB2 := hid hb2; clear hb2)
  have hst := bX HH.out.1 HH.out.2.1 (HID.out.1.trans HH.out.2.2 (.inl rfl)) HB2.out HID.out.2.2.1 (Nat.le_refl _) HID.out.2.2.2 (.int .i64 2) (.string ⟨#[]⟩) (.slice none 0 0) (.slice none 0 0)
  refine bodyPost_ret (results_cell_row rfl _ _ w.heap.size 28 #[.int .i64 2, .string (⟨#[]⟩ : ByteArray), .slice none 0 0, .slice none 0 0] (0, 0) _ rfl hst.1 Tryz.underlying28 rfl p12z) rfl ?_
  exact ⟨_, _, rfl, Kd.R_nil _ _ _ _ _, Kd.R_nil _ _ _ _ _, hst.2.1, hst.2.2.1, hst.2.2.2⟩
theorem yes_calls (g : Nat) (s : ByteArray) (x many deep : Int) (w0 w : World) (hI : IsS67 w0 w g s x many deep) (hB : Below w0.heap.size w0 w) (h0 : 0 ≤ x) (h1 : x ≤ (s.size : Int)) (hs : s.size ≤ 1099511627776) :
 Calls Tryz.prog 57 #[.pointer (some ⟨g, 0, none⟩)] w fun e w' => NodeOut w0 w w' g s (leafF s [116, 114, 117, 101] 3 x many deep) e := by
 have hI1 : IsS67 w0 (w.alloc (.cells zcells 28)) g s x many deep := hI.alloc _
 have hB1 : Below w0.heap.size w0 (w.alloc (.cells zcells 28)) := below_alloc hB _
 have hK1 : KeepBut w (w.alloc (.cells zcells 28)) g none := keep_alloc (KeepBut.refl w g none) _
 have hblk : (w.alloc (.cells zcells 28)).heap[w.heap.size]? = some (.cells zcells 28 (0, 0)) := heap_alloc_new w _
 have hne : w.heap.size ≠ g := (Nat.ne_of_lt hI.lt).symm
 have hge : w0.heap.size ≤ w.heap.size := hB.size
 unfold leafF
 rcases hwf : wordF s [116, 114, 117, 101] x with p | y
 ·have hcall := word_err (t := ⟨#[116, 114, 117, 101]⟩) hI1 hB1 h0 h1 hs (by decide) hwf
  go_enter Tryz.func57, Tryz.ntmps57
  go_wp2_with (go_at_call 84; refine hcall.mono ?_; rintro e w' ⟨rfl, hb⟩)
  exact ⟨rfl, rfl, hb⟩
 ·have hcall := word_ok (t := ⟨#[116, 114, 117, 101]⟩) hI1 hB1 h0 h1 hs (by decide) hwf
  have HID := hid (And.intro hK1 (And.intro hblk (And.intro hne hge)))
  clear hK1 hblk hne hge hI1 hB1
  go_enter Tryz.func57, Tryz.ntmps57
  go_wp2_with (go_at_call 84; refine hcall.mono ?_; rintro e w' ⟨rfl, hi, hb, hk⟩; have HH := hid (And.intro hi (And.intro hb hk)); clear hi hb hk; have hb2 := HH.out.2.2.blk HID.out.2.1 HID.out.2.2.1 (by simp); have hc0 := cell_of (i := 0) hb2 rfl; have hc1 := cell_of (i := 1) hb2 rfl; have hc2 := cell_of (i := 2) hb2 rfl; have hc3 := cell_of (i := 3) hb2 rfl; have hf0 := blk_frozen hb2 0; have hf1 := blk_frozen hb2 1; have hf2 := blk_frozen hb2 2; have hf3 := blk_frozen hb2 3; have HB2 := hid hb2; clear hb2)
  have hst := bX HH.out.1 HH.out.2.1 (HID.out.1.trans HH.out.2.2 (.inl rfl)) HB2.out HID.out.2.2.1 (Nat.le_refl _) HID.out.2.2.2 (.int .i64 3) (.string ⟨#[]⟩) (.slice none 0 0) (.slice none 0 0)
  refine bodyPost_ret (results_cell_row rfl _ _ w.heap.size 28 #[.int .i64 3, .string (⟨#[]⟩ : ByteArray), .slice none 0 0, .slice none 0 0] (0, 0) _ rfl hst.1 Tryz.underlying28 rfl p12z) rfl ?_
  exact ⟨_, _, rfl, Kd.R_nil _ _ _ _ _, Kd.R_nil _ _ _ _ _, hst.2.1, hst.2.2.1, hst.2.2.2⟩
end Go.Proofs.YtodnggilomanbaaGreatDoor.Hand
end
section
namespace Go.Proofs.YtodnggilomanbaaGreatDoor.Hand
open Go.RowKit Go.Lib Go.Proofs.YtodnggilomanbaaGreatDoorW.PrintWords Go.Proofs.YtodnggilomanbaaGreatDoorW.PrintLast Go.Proofs.YtodnggilomanbaaGreatDoorW.PrintMore Go.Proofs.YtodnggilomanbaaGreatDoor.PAll
set_option linter.unusedVariables false
set_option linter.unusedSimpArgs false

/-- Where the blanks end. -/
def blanksF (s : ByteArray) (x : Int) : Int := x + (nbl ((bytesOf s).drop x.toNat) : Int)
theorem bytes_ext (s : ByteArray) (n : Nat) : bytesOf (s.extract n s.size) = (bytesOf s).drop n := by
  have h := bytesOf_length s
  have e : bytesOf (s.extract n s.size) = ((bytesOf s).take s.size).drop n := by
    simp [bytesOf, ByteArray.data_extract, List.map_take, List.map_drop, Array.toList_extract, List.extract, List.drop_take]
  rw [e, List.take_of_length_le (by omega)]
theorem ca {s : ByteArray} {x : Int} (h0 : 0 ≤ x) (h1 : x ≤ (s.size : Int)) : x ≤ blanksF s x ∧ blanksF s x ≤ (s.size : Int) := by
  unfold blanksF
  have h := nbl_le ((bytesOf s).drop x.toNat)
  rw [List.length_drop, bytesOf_length] at h
  omega
def blanks_r0.T : Bool × List (List Nat × List Nat) := (true, [([], []), ([], []), ([1], [1]), ([2], [2]), ([3], [3]), ([4], [4]), ([], []), ([6], [6]), ([7], [7]), ([8], [8]), ([], []), ([10], [10]), ([11], [11]), ([12], [12]), ([9, 13], [9, 13]), ([14], [14]), ([15], [15]), ([5, 16], [5, 16]), ([0, 0, 1, 2, 3, 4, 5, 6, 7, 8, 9, 10, 11, 12, 13, 14, 15, 16, 17], [0]), ([18, 0, 1, 2, 3, 4, 5, 6, 7, 8, 9, 10, 11, 12, 13, 14, 15, 16, 17], [18]), ([19, 17, 15, 0, 1, 2, 3, 4, 5, 6, 7, 8, 9, 10, 11, 12, 13, 14, 15, 16, 17], [17, 19])])
def blanks_r0.B : List Nat := [0, 0, 2, 6, 14, 30, 0, 64, 192, 448, 0, 1024, 3072, 7168, 16320, 32704, 65472, 131070, 1, 262145, 1048575]
theorem blanks_r0.tab : rtab .any (opsOf Tryz.f30 0) = blanks_r0.T := p12z
theorem blanks_r0.bits : waitsOk blanks_r0.T.2 blanks_r0.B = true := p12z
theorem cx (g : Nat) (s : ByteArray) (x many deep : Int) (w0 w : World) (hI : IsS67 w0 w g s x many deep) (hB : Below w0.heap.size w0 w) (h0 : 0 ≤ x) (h1 : x ≤ (s.size : Int)) (hs : s.size ≤ 1099511627776) :
 Calls Tryz.prog 30 #[.pointer (some ⟨g, 0, none⟩)] w fun e w' => e = .returned (.tuple #[]) ∧ IsS67 w0 w' g s (blanksF s x) many deep ∧ Below w0.heap.size w0 w' ∧ KeepBut w w' g none := by
 have hge := hI.ge
 have HST := hid hI
 obtain ⟨HG, hgg⟩ := hI
 have hz0 := cellS67_0 HG
 have hz1 := cellS67_1 HG
 clear HG hgg
 have HBL := hid hB
 clear hB
 obtain ⟨u, hu⟩ : ∃ u, s.extract x.toNat s.size = u := ⟨_, rfl⟩
 have hfin : wrap64 ((s.size : Int) - ((trimB u).size : Int)) = blanksF s x := by
  have h2 := ib u
  rw [← hu, bytes_ext, ByteArray.size_extract] at h2
  have h3 := nbl_le ((bytesOf s).drop x.toNat)
  rw [List.length_drop, bytesOf_length] at h3
  rw [← hu]
  unfold blanksF wrap64
  omega
 have HF := hid hfin
 clear hfin
 have p6 := eq_true h0
 have q6 := eq_true h1
 go_enter Tryz.func30, Tryz.ntmps30
 go_wp2_with (fail)
 refine start_ (n := 21) (S := fun w' => w'.cell? ⟨g, 0, none⟩ = some (.string s) ∧ w'.cell? ⟨g, 1, none⟩ = some (.int .i64 x)) (ds := [20]) (tf 0 21) p12z rfl rfl ⟨hz0, hz1⟩ (fun hHeld => ?_); refine with_tabW blanks_r0.tab blanks_r0.bits (fun HT_ HW_ => ?_)
 have HB1 := hid (below_drew1 HBL.out)
 have HI1 := hid (HST.out.drew)
 have HK1 := hid (keep_drew (KeepBut.refl w g none))
 generalize hwd : w.drew = wd at HB1 HI1 HK1 hHeld ⊢
 refine pzz 0 (some 2) (tf 1 20) ?_
 refine pzz 1 (some 3) (tf 2 19) ?_
 refine pzz 2 (some 4) (tf 3 18) ?_
 refine pzz 3 (some 5) (tf 4 17) ?_
 refine tzz 4 (some 6) (tf 5 16) ?_
 refine pzz 5 (some 7) (tf 6 15) ?_
 refine pzz 6 (some 8) (tf 7 14) ?_
 refine pzz 7 (some 9) (tf 8 13) ?_
 refine pzz 8 (some 10) (tf 9 12) ?_
 refine tzz 9 (some 11) (tf 10 11) ?_
 refine pzz 10 (some 12) (tf 11 10) ?_
 refine pzz 11 (some 13) (tf 12 9) ?_
 refine pzz 12 (some 14) (tf 13 8) ?_
 refine tzz 13 (some 15) (tf 14 7) ?_
 refine pzz 14 (some 16) (tf 15 6) ?_
 refine ozz 15 (some 17) (tf 16 5) #[.string u, .string ⟨#[32, 9, 10, 13]⟩] Tryz.func63 (fun K hK => ?_)
 with_reducible refine (ic u _).mono ?_
 rintro e w1 ⟨rfl, hb⟩
 refine ⟨_, rfl, ?_⟩
 have hi1 := HI1.out.below hb
 have hl1 := HI1.out.lt
 refine hK.out _ _ ⟨(cellS67_0 hi1.1), (cellS67_1 hi1.1)⟩ (fun hHeld => ?_)
 clear hK K
 refine nzz (some 17) ?_
 refine pzz 16 (some 18) (tf 17 4) ?_
 refine pzz 17 (some 19) (tf 18 3) ?_
 refine pzz 18 (some 20) (tf 19 2) ?_
 refine pzz 19 (some 21) (tf 20 1) ?_
 refine last_ (i := 20) (N := none) (tf 21 0) rfl rfl (one_of HT_.out p12z) (by decide) (fun K hK => ?_)
 have hs48 := cellS67_1 hi1.1
 have hfs48 := blk_frozen hi1.1 1
 refine skip_ (w1 := ?_) (by rfl) rfl ?_ ?_
 rotate_left
 ·go_simp
  rfl
 refine hK.out _ _ ?_
 refine done_ (done_of HT_.out p12z) ?_
 go_wp2
 go_end0
 rw [HF.out]
 exact ⟨rfl, hi1.set_1 _, below_set (HB1.out.trans (hb.mono HB1.out.size)) hge, KeepBut.set_ (HK1.out.trans (KeepBut.of_below hb g none) (.inl rfl)) 1 _⟩
end Go.Proofs.YtodnggilomanbaaGreatDoor.Hand
end
section
namespace Go.Proofs.YtodnggilomanbaaGreatDoor.Hand
open Go.RowKit Go.Lib Go.Proofs.YtodnggilomanbaaGreatDoorW.PrintWords Go.Proofs.YtodnggilomanbaaGreatDoorW.PrintLast Go.Proofs.YtodnggilomanbaaGreatDoorW.PrintMore Go.Proofs.YtodnggilomanbaaGreatDoor.PAll
set_option linter.unusedVariables false
set_option linter.unusedSimpArgs false

def isDgt (c : Int) : Bool := decide (48 ≤ c) && decide (c ≤ 57)
/-- How many digits stand ahead. -/
def ndg (l : List Int) : Nat := (l.takeWhile isDgt).length
theorem ndg_le (l : List Int) : ndg l ≤ l.length := (List.takeWhile_sublist _).length_le
def noDigit (r : Nat) : Bool := decide (r < 48) || decide (57 < r)
theorem fW (w : World) : PredAt Tryz.prog 105 #[] encR noDigit w := fun W r _ => by
 unfold FnGives noDigit
 by_cases h1 : r < 48 <;> by_cases h2 : 57 < r
 all_goals
  have z1 : (r : Int) < 48 ↔ r < 48 := by omega
  have z2 : (r : Int) > 57 ↔ 57 < r := by omega
  go_enter Tryz.func105, Tryz.ntmps105
  go_wp2
  all_goals first | (exfalso; omega) | (go_ret; exact ⟨by simp [h1, h2], 0, rfl⟩)
theorem get_at (s : ByteArray) (i : Nat) (h : i < s.size) : (((s.get! i).toNat : Nat) : Int) = (bytesOf s).getD i 0 := by
  have h2 : i < s.data.toList.length := by rw [data_length]; exact h
  have e : s.get! i = s.data.toList[i] := by
    have h3 : i < s.data.size := h
    show s.data[i]! = _
    rw [getElem!_pos s.data i h3]
    simp
  rw [e]
  simp only [bytesOf, List.getD_eq_getElem?_getD, List.getElem?_map, List.getElem?_eq_getElem h2, Option.map_some, Option.getD_some]
theorem decN_low {n b0 b1 b2 b3 : Nat} (h : b0 < 128) : decodeN n b0 b1 b2 b3 = (b0, 1) := by
  unfold decodeN
  rw [if_pos h]
theorem decN_high {n b0 b1 b2 b3 : Nat} (h : ¬ b0 < 128) : 128 ≤ (decodeN n b0 b1 b2 b3).1 := by
 unfold decodeN
 rw [if_neg h]
 split
 ·split <;> simp_all
 ·split
  ·split
   ·simp only; omega
   ·simp
  ·split
   ·split
    ·simp only; omega
    ·simp
   ·simp
theorem gy {c : Nat} : noDigit c = !isDgt (c : Int) := by
  unfold noDigit isDgt
  rw [Bool.eq_iff_iff]
  simp
  omega
theorem ndg_at {s : ByteArray} {pos : Nat} (h : pos < s.size) : ndg ((bytesOf s).drop pos) = if isDgt ((bytesOf s).getD pos 0) = true then ndg ((bytesOf s).drop (pos + 1)) + 1 else 0 := by
 have h2 : pos < (bytesOf s).length := by rw [bytesOf_length]; exact h
 have e : (bytesOf s)[pos] = (bytesOf s).getD pos 0 := by simp [List.getD_eq_getElem?_getD, List.getElem?_eq_getElem h2]
 rw [List.drop_eq_getElem_cons h2, e]
 unfold ndg
 rw [List.takeWhile_cons]
 split
 ·simp
 ·rfl
theorem idx_from (s : ByteArray) : ∀ (f pos : Nat), pos ≤ s.size → s.size ≤ pos + f → idxFuncFrom noDigit true s f pos = if pos + ndg ((bytesOf s).drop pos) = s.size then -1 else ((pos + ndg ((bytesOf s).drop pos) : Nat) : Int) := by
 intro f
 induction f with
 | zero =>
  intro pos h1 h2
  have h0 : ndg ((bytesOf s).drop pos) = 0 := by
   have h3 := ndg_le ((bytesOf s).drop pos)
   rw [List.length_drop, bytesOf_length] at h3
   omega
  rw [h0, if_pos (by omega)]
  rfl
 | succ f ih =>
  intro pos h1 h2
  unfold idxFuncFrom
  by_cases hp : pos < s.size
  case neg =>
   have h0 : ndg ((bytesOf s).drop pos) = 0 := by
    have h3 := ndg_le ((bytesOf s).drop pos)
    rw [List.length_drop, bytesOf_length] at h3
    omega
   rw [if_neg hp, h0, if_pos (by omega)]
  rw [if_pos hp, decode_at, ndg_at hp]
  have hg := get_at s pos hp
  by_cases h128 : (s.get! pos).toNat < 128
  case pos =>
   rw [decN_low h128, gy, hg]
   cases hd : isDgt ((bytesOf s).getD pos 0)
   ·rw [if_pos (show (!false) = true from rfl), if_neg Bool.false_ne_true, if_neg (by omega)]
    rfl
   ·rw [if_neg (by simp), if_pos rfl, ih (pos + 1) (by omega) (by omega), show pos + 1 + ndg ((bytesOf s).drop (pos + 1)) = pos + (ndg ((bytesOf s).drop (pos + 1)) + 1) by omega]
  have h3 := decN_high (n := s.size - pos) (b1 := (s.get! (pos + 1)).toNat) (b2 := (s.get! (pos + 2)).toNat) (b3 := (s.get! (pos + 3)).toNat) h128
  have h4 : noDigit (decodeN (s.size - pos) (s.get! pos).toNat (s.get! (pos + 1)).toNat (s.get! (pos + 2)).toNat (s.get! (pos + 3)).toNat).1 = true := by
   unfold noDigit
   simp
   omega
  have h5 : isDgt ((bytesOf s).getD pos 0) = false := by
   rw [← hg]
   unfold isDgt
   simp
   omega
  rw [if_pos h4, h5, if_neg Bool.false_ne_true, if_neg (by omega)]
  rfl
theorem ig (s : ByteArray) : idxFunc noDigit true s = if ndg (bytesOf s) = s.size then -1 else (ndg (bytesOf s) : Int) := by
  unfold idxFunc
  have := idx_from s s.size 0 (Nat.zero_le _) (by omega)
  rw [List.drop_zero, Nat.zero_add] at this
  exact this
theorem ee (s : ByteArray) (w : World) : Calls Tryz.prog 87 #[.string s] w fun e w' => e = .returned (.int .i64 (ndg (bytesOf s))) ∧ Below w.heap.size w w' := by
 have hC := fun W => Tryz.strings_IndexFunc_runes 105 #[] (enters_of Tryz.func105 p12z rfl) noDigit s W (fW W).runes
 have hle := ndg_le (bytesOf s)
 rw [bytesOf_length] at hle
 rw [ig] at hC
 by_cases h : ndg (bytesOf s) = s.size
 case pos =>
  rw [if_pos h] at hC
  rw [h]
  clear h hle
  go_enter Tryz.func87, Tryz.ntmps87
  go_wp2_with (go_at_call 104; refine (hC _).mono ?_; rintro e w' ⟨rfl, hb⟩)
  go_ret
  exact ⟨rfl, hb⟩
 rw [if_neg h] at hC
 have h0 : (0 : Int) ≤ (ndg (bytesOf s) : Int) := Int.natCast_nonneg _
 generalize (ndg (bytesOf s) : Int) = n at hC h0 ⊢
 clear h hle
 go_enter Tryz.func87, Tryz.ntmps87
 go_wp2_with (go_at_call 104; refine (hC _).mono ?_; rintro e w' ⟨rfl, hb⟩)
 go_ret
 exact ⟨rfl, hb⟩
end Go.Proofs.YtodnggilomanbaaGreatDoor.Hand
end
