/-
  jtree: may, its closure, slices.ContainsFunc of nodes with it: what they come to, and the walks.
-/
import Derived.Test.YtodnggilomanbaaGreatDoorAp
import Derived.Test.YtodnggilomanbaaGreatDoorHandStep
import Derived.Test.YtodnggilomanbaaGreatDoorHandMayS
import Derived.Test.YtodnggilomanbaaGreatDoorHandAa
import Derived.Maps.Views
import Derived.Deep.CutBlock
set_option maxRecDepth 100000
set_option maxHeartbeats 8000000
namespace Go.Proofs.YtodnggilomanbaaGreatDoor.Hand
open Go.RowKit Go.Lib Go.Maps Go.Proofs.YtodnggilomanbaaGreatDoorW.PrintWords Go.Proofs.YtodnggilomanbaaGreatDoorW.PrintLast Go.Proofs.YtodnggilomanbaaGreatDoorW.PrintMore Go.Proofs.YtodnggilomanbaaGreatDoor.PAll
set_option linter.unusedVariables false
set_option linter.unusedSimpArgs false

def keyL (x : ByteArray) : Lit := .string x.data.toList
def onceD (ks : List ByteArray) : DataW Unit := ks.foldl (fun m x => m.put (keyL x) (.lit (.int .i64 0))) (.map [])
/-- How many different keys. -/
def dsz (ks : List ByteArray) : Nat := Maps.size (onceD ks)
def isF (k : Int) (s : ByteArray) (ks : List ByteArray) (n : Nat) : Bool :=
  if k = 1 ∨ k = 2 ∨ k = 3 then (decide (ks.length = 0) && decide (n = 0)) && s.toList.isEmpty
  else if k = 4 then (decide (ks.length = 0) && decide (n = 0)) && isNumF s
  else if k = 5 then (decide (ks.length = 0) && decide (n = 0)) && !badF s
  else if k = 6 then s.toList.isEmpty && decide (ks.length = 0)
  else if k = 7 then ((s.toList.isEmpty && decide (ks.length = n)) && decide (dsz ks = ks.length)) && !(ks.any badF)
  else false
mutual
def mayF : S28 → Int → Bool
  | ⟨k, s, ks, L⟩, deep => isF k s ks L.length && decide (deep ≤ 60) && mayL L (deep + 1)
def mayL : List S28 → Int → Bool
  | [], _ => true
  | x :: l, deep => mayF x deep && mayL l deep
end
mutual
def okM : S28 → Bool
  | ⟨_, s, c, d⟩ => decide (s.size ≤ 1073741824) && c.all (fun x => decide (x.size ≤ 1073741824)) && decide (c.length ≤ 1099511627776) && decide (d.length ≤ 1099511627776) && okML d
def okML : List S28 → Bool
  | [] => true
  | x :: l => okM x && okML l
end
theorem okML_mem : ∀ {l : List S28}, okML l = true → ∀ x ∈ l, okM x = true
 | [], _, x, hx => by cases hx
 | y :: l, h, x, hx => by
  rw [okML, Bool.and_eq_true] at h
  rcases List.mem_cons.1 hx with rfl | hx
  ·exact h.1
  ·exact okML_mem h.2 x hx
theorem okM_at {x : S28} (h : okM x = true) : x.f1.size ≤ 1073741824 ∧ (∀ k ∈ x.f2, k.size ≤ 1073741824) ∧ x.f2.length ≤ 1099511627776 ∧ x.f3.length ≤ 1099511627776 ∧ okML x.f3 = true := by
  cases x
  rw [okM] at h
  simp only [Bool.and_eq_true, decide_eq_true_eq, List.all_eq_true] at h
  exact ⟨h.1.1.1.1, h.1.1.1.2, h.1.1.2, h.1.2, h.2⟩
theorem mayF_eq (x : S28) (deep : Int) : mayF x deep = (isF x.f0 x.f1 x.f2 x.f3.length && decide (deep ≤ 60) && mayL x.f3 (deep + 1)) := by
  cases x; rw [mayF]
def MayAt (a : S28) : Prop := okM a = true → ∀ (deep : Int) (A2 : Option Addr) (c2 : Nat) (A3 : Option Addr) (c3 : Nat) (w : World),
  Kd.C Kd.string w A2 a.f2.length a.f2 → a.f2.length ≤ c2 → Kd.C k28 w A3 a.f3.length a.f3 → a.f3.length ≤ c3 → 0 ≤ deep → deep ≤ 61 → Tabs w →
  Calls Tryz.prog 45 #[nodeV a A2 c2 A3 c3, .int .i64 deep] w fun e w' => e = .returned (.bool (mayF a deep)) ∧ Below w.heap.size w w'
theorem ip (x : S28) (hx : MayAt x) (hok : okM x = true) (deep : Int) (b : Nat) (A2 : Option Addr) (c2 : Nat) (A3 : Option Addr) (c3 : Nat) (w : World) (hb : w.heap[b]? = some (.cells #[.int .i64 deep] 3 (0, 0)))
    (h2 : Kd.C Kd.string w A2 x.f2.length x.f2) (l2 : x.f2.length ≤ c2) (h3 : Kd.C k28 w A3 x.f3.length x.f3) (l3 : x.f3.length ≤ c3) (d0 : 0 ≤ deep) (d1 : deep ≤ 60) (HTAB : Tabs w) :
    Calls Tryz.prog 76 #[nodeV x A2 c2 A3 c3, .pointer (some ⟨b, 0, none⟩)] w fun e w' => e = .returned (.bool (!mayF x (deep + 1))) ∧ Below w.heap.size w w' := by
  have hw : wrap64 (deep + 1) = deep + 1 := p76z
  obtain ⟨r, hr⟩ : ∃ r, mayF x (deep + 1) = r := ⟨_, rfl⟩
  rw [hr]
  have HRR := hid hr
  clear hr
  have HA := hid (And.intro hx (And.intro hok (And.intro HTAB (And.intro d0 d1))))
  have HR := hid (And.intro (And.intro h2 l2) (And.intro h3 l3))
  have HB0 := hid hb
  clear hx hok HTAB d0 d1 h2 l2 h3 l3 hb
  go_enter Tryz.func76, Tryz.ntmps76
  go_upto_region 1 with (((with_reducible refine gate_dst (N := 2) rfl ?_); refine box_event ?hg (N := 2) ?hd (cs := #[.int .i64 x.f0, .string x.f1, .slice A2 x.f2.length c2, .slice A3 x.f3.length c3]) (t := 28) ?hr ?_; (case hd => rfl); (case hg => rfl); (case hr => exact p9z); intro g8 hg w8 hbox hbw; have BK8 := hid hbox; have HB8 := hid hbw; clear hbox hbw hg))
  have hz := cell_of (i := 0) (blk_below HB0.out HB8.out) rfl
  obtain ⟨ya0, ya1, ya2, ya3, -⟩ := cells4 BK8.out
  have hcall := HA.out.1 HA.out.2.1 (deep + 1) A2 c2 A3 c3 w8 (Kd.C_below HR.out.1.1 HB8.out) HR.out.1.2 (Kd.C_below HR.out.2.1 HB8.out) HR.out.2.2 (by have := HA.out.2.2.2; omega) (by have := HA.out.2.2.2; omega) (HA.out.2.2.1.below HB8.out)
  rw [HRR.out] at hcall
  clear BK8
  go_wp2_with (go_at_call 45; refine hcall.mono ?_; rintro e w9 ⟨rfl, hb9⟩)
  go_ret
  exact ⟨rfl, below_step HB8.out hb9⟩
def idxNo : List S28 → Int → Int → Int
  | [], _, _ => -1
  | x :: l, deep, i => if mayF x deep = true then idxNo l deep (i + 1) else i
theorem idxNo_all : ∀ (l : List S28) (deep i : Int), 0 ≤ i → decide (0 ≤ idxNo l deep i) = !mayL l deep
 | [], deep, i, h => by rw [idxNo, mayL]; rfl
 | x :: l, deep, i, h => by
  rw [idxNo, mayL]
  by_cases hb : mayF x deep = true
  case pos =>
   rw [if_pos hb, hb, Bool.true_and]
   exact idxNo_all l deep (i + 1) (by omega)
  rw [if_neg hb, Bool.eq_false_iff.mpr hb, Bool.false_and]
  exact decide_eq_true h
theorem iq (l : List S28) (hM : ∀ x ∈ l, MayAt x) (hok : okML l = true) (deep : Int) (b : Nat) (A : Option Addr) (c : Nat) (w : World) (hb0 : w.heap[b]? = some (.cells #[.int .i64 deep] 3 (0, 0))) (hC : Kd.C k28 w A l.length l) (hl : l.length ≤ 1099511627776) (d0 : 0 ≤ deep) (d1 : deep ≤ 60) (HTAB : Tabs w) :
 Calls Tryz.prog 97 #[.slice A l.length c, .func (.func 76) #[] #[.pointer (some ⟨b, 0, none⟩)]] w fun e w' => e = .returned (.int .i64 (idxNo l (deep + 1) 0)) ∧ Below w.heap.size w w' := by
 have HTB := hid HTAB
 have HS := hid (And.intro hM (And.intro hok (And.intro d0 d1)))
 have HBK := hid hb0
 clear d0 d1 hb0
 go_enter Tryz.func97, Tryz.ntmps97
 go_wp2
 go_loopw [8] (fun v wr => ∃ i : Nat, v = .int .i64 i ∧ i ≤ l.length ∧ idxNo (l.drop i) (deep + 1) i = idxNo l (deep + 1) 0 ∧ Below w.heap.size w wr) (fun v _ => l.length - (intOf v).toNat)
 case atStart => exact ⟨0, rfl, Nat.zero_le _, rfl, Below.refl _ _⟩
 case round =>
  obtain ⟨i, rfl, hi, hix, hb⟩ := hrel
  rcases Nat.lt_or_ge i l.length with hlt | hge
  ·have hb0 : decide ((i : Int) < (l.length : Int)) = true := decide_eq_true (by omega)
   have hc1 : ((i : Int) < (l.length : Int)) = True := eq_true (by omega)
   have hc0 : (0 ≤ (i : Int)) = True := eq_true (by omega)
   obtain ⟨ad, A2, cA2, A3, cA3, eA, xA0, xA1, xA2, xA3, lA2, iA2, lA3, iA3⟩ := at_T28 hC i (by omega) (by omega)
   cases eA
   rw [Int.toNat_natCast] at xA0 xA1 xA2 xA3
   obtain ⟨x, hx⟩ : ∃ x, rd_T28 l i = x := ⟨_, rfl⟩
   rw [hx] at xA0 xA1 xA2 xA3 lA2 iA2 lA3 iA3
   replace xA0 := (hb.cell (World.block_lt_of_cell? w _ xA0)).trans xA0
   replace xA1 := (hb.cell (World.block_lt_of_cell? w _ xA1)).trans xA1
   replace xA2 := (hb.cell (World.block_lt_of_cell? w _ xA2)).trans xA2
   replace xA3 := (hb.cell (World.block_lt_of_cell? w _ xA3)).trans xA3
   have hxe : l[i] = x := by rw [← hx]; simp [rd_T28, List.getD_eq_getElem?_getD, List.getElem?_eq_getElem hlt]
   have hin : x ∈ l := by rw [← hxe]; exact List.getElem_mem hlt
   have hdr : l.drop i = x :: l.drop (i + 1) := by rw [List.drop_eq_getElem_cons hlt, hxe]
   rw [hdr, idxNo] at hix
   have HIX := hid hix
   have HB := hid hb
   have hcall := ip x (HS.out.1 x hin) (okML_mem HS.out.2.1 x hin) deep b A2 cA2 A3 cA3 wr (blk_below HBK.out hb) (Kd.C_below iA2 hb) lA2 (Kd.C_below iA3 hb) lA3 HS.out.2.2.1 HS.out.2.2.2 (HTB.out.below hb)
   clear hx hix hdr hxe hb iA2 iA3 lA2 lA3
   rcases hv : mayF x (deep + 1) with _ | _
   ·have hix := HIX.out
    rw [hv, if_neg (by decide)] at hix
    have HI2 := hid hix
    rw [hv] at hcall
    clear hix HIX hv
    go_wp2_with (go_at_call 76; refine hcall.mono ?_; rintro e w1 ⟨rfl, hb1⟩; have HB1 := hid (below_step HB.out hb1); clear hb1)
    go_ret
    exact ⟨by rw [← HI2.out]; rfl, HB1.out⟩
   ·have hix := HIX.out
    rw [hv, if_pos rfl] at hix
    have HI2 := hid hix
    rw [hv] at hcall
    clear hix HIX hv
    go_wp2_with (go_at_call 76; refine hcall.mono ?_; rintro e w1 ⟨rfl, hb1⟩; have HB1 := hid (below_step HB.out hb1); clear hb1)
    exact ⟨⟨i + 1, p91z, hlt, by first | exact HI2.out | (rw [← HI2.out]; simp; done), HB1.out⟩, p93z⟩
  ·have hb0 : decide ((i : Int) < (l.length : Int)) = false := decide_eq_false (by omega)
   rw [List.drop_eq_nil_iff.2 hge, idxNo] at hix
   have HI2 := hid hix
   clear hix
   go_wp2
   go_ret
   exact ⟨by rw [← HI2.out]; rfl, hb⟩
theorem gL (l : List S28) (hM : ∀ x ∈ l, MayAt x) (hok : okML l = true) (deep : Int) (b : Nat) (A : Option Addr) (c : Nat) (w : World) (hb0 : w.heap[b]? = some (.cells #[.int .i64 deep] 3 (0, 0))) (hC : Kd.C k28 w A l.length l) (hl : l.length ≤ 1099511627776) (d0 : 0 ≤ deep) (d1 : deep ≤ 60) (HTAB : Tabs w) :
    Calls Tryz.prog 75 #[.slice A l.length c, .func (.func 76) #[] #[.pointer (some ⟨b, 0, none⟩)]] w fun e w' => e = .returned (.bool (!mayL l (deep + 1))) ∧ Below w.heap.size w w' := by
  have h := iq l hM hok deep b A c w hb0 hC hl d0 d1 HTAB
  have he := idxNo_all l (deep + 1) 0 (by omega)
  rw [← he]
  generalize idxNo l (deep + 1) 0 = r at h
  clear d0 d1 he
  go_enter Tryz.func75, Tryz.ntmps75
  go_wp2_with (go_at_call 97; refine h.mono ?_; rintro e w1 ⟨rfl, hb1⟩)
  go_ret
  exact ⟨rfl, hb1⟩
/-- Any number counts as one here. -/
def intR : Value → Option (DataW Unit × List MemPlace)
  | .int .i64 _ => some (.lit (.int .i64 0), [])
  | _ => none
theorem intR_inv {v : Value} {d : DataW Unit} {ps : List MemPlace} (h : intR v = some (d, ps)) : ∃ x, v = .int .i64 x := by
 unfold intR at h
 split at h
 ·exact ⟨_, rfl⟩
 ·cases h
theorem lawS : Keyed Tryz.prog 9 := string_keyed Tryz.underlying9
theorem key_of (x : ByteArray) (h : x.size ≤ 1073741824) : keyOf Tryz.prog 9 (.string x) = some (keyL x) := by
  have h2 : x.size ≤ maxLen := p109z
  simp [keyOf, Tryz.underlying9, mapKey, keyL, h2]
theorem zero3 (w : World) : (zeroValue 3).run Tryz.prog w = .ok (.int .i64 0) w := p12z
theorem dW (l : List ByteArray) (x : ByteArray) : onceD (l ++ [x]) = (onceD l).put (keyL x) (.lit (.int .i64 0)) := by
  unfold onceD
  rw [List.foldl_append]
  rfl
theorem may_step (a : S28) (hM : ∀ x ∈ a.f3, MayAt x) : MayAt a := by
 intro hok deep A2 c2 A3 c3 w h2 l2 h3 l3 d0 d1 HTAB
 obtain ⟨ok1, ok2, ok3, ok4, ok5⟩ := okM_at hok
 have hmm := @run_makeMap Tryz.prog
 have hmf := mayF_eq a deep
 obtain ⟨r, hr⟩ : ∃ r, mayF a deep = r := ⟨_, rfl⟩
 rw [hr] at hmf ⊢
 have HMF := hid hmf
 have HTB := hid HTAB
 have HOK := hid (And.intro ok1 (And.intro ok2 (And.intro ok3 (And.intro ok4 (And.intro ok5 hM)))))
 have HR := hid (And.intro (And.intro h2 l2) (And.intro h3 l3))
 have HD := hid (And.intro d0 d1)
 clear hr hmf HTAB hM hok ok1 ok2 ok3 ok4 ok5 h2 l2 h3 l3 d0 d1
 go_enter Tryz.func45, Tryz.ntmps45
 go_upto_region 1 with (first
  | ((with_reducible refine gate_dst (N := 2) rfl ?_); refine box_event ?hg (N := 2) ?hd (cs := #[.int .i64 a.f0, .string a.f1, .slice A2 a.f2.length c2, .slice A3 a.f3.length c3]) (t := 28) ?hr ?_; (case hd => rfl); (case hg => rfl); (case hr => exact p9z); intro q xq wq bq hbq; have GQ := hid xq; have BQ := hid bq; have HQ := hid hbq; clear xq bq hbq)
  | ((with_reducible refine gate_dst (N := 3) rfl ?_); refine box_event ?hg (N := 3) ?hd (cs := #[.int .i64 deep]) (t := 3) ?hr ?_; (case hd => rfl); (case hg => rfl); (case hr => exact p9z); intro b xb wb bb hbb; have BB := hid bb; have HBB := hid hbb; clear xb bb hbb))
 have HW := hid (And.intro (below_step HQ.out HBB.out) (And.intro (blk_below BQ.out HBB.out) BB.out))
 clear HQ BQ GQ BB HBB
 obtain ⟨hz0, hz1, hz2, hz3, -⟩ := cells4 HW.out.2.1
 obtain ⟨leaf, hleaf⟩ : ∃ x, (decide (a.f2.length = 0) && decide (a.f3.length = 0)) = x := ⟨_, rfl⟩
 have HLF := hid hleaf
 clear hleaf
 go_cut [5] from 10 to 19 (fun v5 wc => v5 = .bool leaf ∧ wc = wb)
 case first =>
  by_cases e2 : a.f2.length = 0
  case neg =>
   have q2 : ((a.f2.length : Int) == 0) = false := beq_eq_false_iff_ne.mpr (by omega)
   have hl : leaf = false := by rw [← HLF.out, decide_eq_false e2, Bool.false_and]
   clear e2
   go_wp2
   go_meet
   case rel => exact ⟨by rw [hl], rfl⟩
  have q2 : ((a.f2.length : Int) == 0) = true := beq_iff_eq.mpr (by omega)
  by_cases e3 : a.f3.length = 0
  case pos =>
   have q3 : ((a.f3.length : Int) == 0) = true := beq_iff_eq.mpr (by omega)
   have hl : leaf = true := by rw [← HLF.out, decide_eq_true e2, decide_eq_true e3]; rfl
   clear e2 e3
   go_wp2
   go_meet
   case rel => exact ⟨by rw [hl], rfl⟩
  have q3 : ((a.f3.length : Int) == 0) = false := beq_eq_false_iff_ne.mpr (by omega)
  have hl : leaf = false := by rw [← HLF.out, decide_eq_false e3, Bool.and_false]
  clear e2 e3
  go_wp2
  go_meet
  case rel => exact ⟨by rw [hl], rfl⟩
 case rest =>
  obtain ⟨rfl, rfl⟩ := hcut
  obtain ⟨is, his⟩ : ∃ x, isF a.f0 a.f1 a.f2 a.f3.length = x := ⟨_, rfl⟩
  have HIS := hid his
  clear his
  go_upto_block 0 with (fail)
  go_cut [6] from 22 to 100 (fun v6 wc => v6 = .bool is ∧ Hid (Below w.heap.size w wc ∧ wc.heap[q]? = some (.cells #[.int .i64 a.f0, .string a.f1, .slice A2 a.f2.length c2, .slice A3 a.f3.length c3] 28 (0, 0)) ∧ wc.heap[b]? = some (.cells #[.int .i64 deep] 3 (0, 0))))
  case first =>
   have HWb := hid (And.intro HW.out.1 (And.intro HW.out.2.1 HW.out.2.2))
   by_cases k1 : a.f0 = 1
   case pos =>
    have q0 : (a.f0 == 1) = true := beq_iff_eq.mpr k1
    have e : ((decide (a.f2.length = 0) && decide (a.f3.length = 0)) && a.f1.toList.isEmpty) = is := by rw [← HIS.out, isF, if_pos (Or.inl k1)]
    clear k1
    rw [HLF.out] at e
    rcases leaf with _ | _
    ·rw [Bool.false_and] at e
     have HE := hid e
     clear e HIS
     go_wp2
     go_meet
     case rel => exact ⟨p104z, HWb⟩
    ·rw [Bool.true_and] at e
     have HE := hid e
     clear e HIS
     go_wp2
     go_meet
     case rel => exact ⟨p104z, HWb⟩
   have q11 : (a.f0 == 1) = false := beq_eq_false_iff_ne.mpr k1
   by_cases k2 : a.f0 = 2
   case pos =>
    have q0 : (a.f0 == 2) = true := beq_iff_eq.mpr k2
    have e : ((decide (a.f2.length = 0) && decide (a.f3.length = 0)) && a.f1.toList.isEmpty) = is := by rw [← HIS.out, isF, if_pos (Or.inr (Or.inl k2))]
    clear k1 k2
    rw [HLF.out] at e
    rcases leaf with _ | _
    ·rw [Bool.false_and] at e
     have HE := hid e
     clear e HIS
     go_wp2
     go_meet
     case rel => exact ⟨p104z, HWb⟩
    ·rw [Bool.true_and] at e
     have HE := hid e
     clear e HIS
     go_wp2
     go_meet
     case rel => exact ⟨p104z, HWb⟩
   have q12 : (a.f0 == 2) = false := beq_eq_false_iff_ne.mpr k2
   by_cases k3 : a.f0 = 3
   case pos =>
    have q0 : (a.f0 == 3) = true := beq_iff_eq.mpr k3
    have e : ((decide (a.f2.length = 0) && decide (a.f3.length = 0)) && a.f1.toList.isEmpty) = is := by rw [← HIS.out, isF, if_pos (Or.inr (Or.inr k3))]
    clear k1 k2 k3
    rw [HLF.out] at e
    rcases leaf with _ | _
    ·rw [Bool.false_and] at e
     have HE := hid e
     clear e HIS
     go_wp2
     go_meet
     case rel => exact ⟨p104z, HWb⟩
    ·rw [Bool.true_and] at e
     have HE := hid e
     clear e HIS
     go_wp2
     go_meet
     case rel => exact ⟨p104z, HWb⟩
   have q13 : (a.f0 == 3) = false := beq_eq_false_iff_ne.mpr k3
   by_cases k4 : a.f0 = 4
   case pos =>
    have q0 : (a.f0 == 4) = true := beq_iff_eq.mpr k4
    have e : ((decide (a.f2.length = 0) && decide (a.f3.length = 0)) && isNumF a.f1) = is := by rw [← HIS.out, isF, if_neg (by omega), if_pos k4]
    clear k1 k2 k3 k4
    rw [HLF.out] at e
    rcases leaf with _ | _
    ·rw [Bool.false_and] at e
     have HE := hid e
     clear e HIS
     go_wp2
     go_meet
     case rel => exact ⟨p104z, HWb⟩
    ·rw [Bool.true_and] at e
     have hcall := gJ a.f1 wc
     have HE := hid e
     clear e HIS
     go_wp2_with (go_at_call 72; refine hcall.mono ?_; rintro e w9 ⟨rfl, hb9⟩)
     go_meet
     case rel => exact ⟨p104z, hid ⟨below_step HWb.out.1 hb9, blk_below HWb.out.2.1 hb9, blk_below HWb.out.2.2 hb9⟩⟩
   have q14 : (a.f0 == 4) = false := beq_eq_false_iff_ne.mpr k4
   by_cases k5 : a.f0 = 5
   case pos =>
    have q0 : (a.f0 == 5) = true := beq_iff_eq.mpr k5
    have e : ((decide (a.f2.length = 0) && decide (a.f3.length = 0)) && !badF a.f1) = is := by rw [← HIS.out, isF, if_neg (by omega), if_neg k4, if_pos k5]
    clear k1 k2 k3 k4 k5
    rw [HLF.out] at e
    rcases leaf with _ | _
    ·rw [Bool.false_and] at e
     have HE := hid e
     clear e HIS
     go_wp2
     go_meet
     case rel => exact ⟨p104z, HWb⟩
    ·rw [Bool.true_and] at e
     have hcall := bad_calls a.f1 wc HOK.out.1 (HTB.out.below HW.out.1)
     have HE := hid e
     clear e HIS
     go_wp2_with (go_at_call 73; refine hcall.mono ?_; rintro e w9 ⟨rfl, hb9⟩)
     go_meet
     case rel => exact ⟨p104z, hid ⟨below_step HWb.out.1 hb9, blk_below HWb.out.2.1 hb9, blk_below HWb.out.2.2 hb9⟩⟩
   have q15 : (a.f0 == 5) = false := beq_eq_false_iff_ne.mpr k5
   by_cases k6 : a.f0 = 6
   case pos =>
    have q0 : (a.f0 == 6) = true := beq_iff_eq.mpr k6
    have e : (a.f1.toList.isEmpty && decide (a.f2.length = 0)) = is := by rw [← HIS.out, isF, if_neg (by omega), if_neg k4, if_neg k5, if_pos k6]
    clear k1 k2 k3 k4 k5 k6
    by_cases e2 : a.f2.length = 0
    case neg =>
     have q2 : ((a.f2.length : Int) == 0) = false := beq_eq_false_iff_ne.mpr (by omega)
     rw [decide_eq_false e2, Bool.and_false] at e
     have HE := hid e
     clear e HIS e2
     rcases e1 : a.f1.toList.isEmpty with _ | _
     ·go_wp2
      go_meet
      case rel => exact ⟨p104z, HWb⟩
     ·go_wp2
      go_meet
      case rel => exact ⟨p104z, HWb⟩
    have q2 : ((a.f2.length : Int) == 0) = true := beq_iff_eq.mpr (by omega)
    rw [decide_eq_true e2, Bool.and_true] at e
    have HE := hid e
    clear e HIS e2
    rcases e1 : a.f1.toList.isEmpty with _ | _
    ·rw [e1] at HE
     go_wp2
     go_meet
     case rel => exact ⟨p104z, HWb⟩
    ·rw [e1] at HE
     go_wp2
     go_meet
     case rel => exact ⟨p104z, HWb⟩
   have q16 : (a.f0 == 6) = false := beq_eq_false_iff_ne.mpr k6
   by_cases k7 : a.f0 = 7
   case neg =>
    have q17 : (a.f0 == 7) = false := beq_eq_false_iff_ne.mpr k7
    have HE := hid (show false = is by rw [← HIS.out, isF, if_neg (by omega), if_neg k4, if_neg k5, if_neg k6, if_neg k7])
    clear k1 k2 k3 k4 k5 k6 k7
    clear HIS
    go_wp2
    go_meet
    case rel => exact ⟨p104z, HWb⟩
   have q0 : (a.f0 == 7) = true := beq_iff_eq.mpr k7
   have e : (((a.f1.toList.isEmpty && decide (a.f2.length = a.f3.length)) && decide (dsz a.f2 = a.f2.length)) && !(a.f2.any badF)) = is := by rw [← HIS.out, isF, if_neg (by omega), if_neg k4, if_neg k5, if_neg k6, if_pos k7]
   have HE := hid e
   clear k1 k2 k3 k4 k5 k6 k7 e HIS
   have hok2 := HOK.out.2.1
   have hC := Kd.C_below HR.out.1.1 HW.out.1
   have hzm2 := cell_of (i := 2) (blk_alloc HWb.out.2.1 (.map #[] 0)) rfl
   go_wp2
   go_loopw [66] (fun v wr => ∃ i : Nat, v = .int .i64 i ∧ i ≤ a.f2.length ∧ wr.ownsMap Tryz.prog 9 intR wc.heap.size i (onceD (a.f2.take i)) ∧ Below wc.heap.size wc wr) (fun v _ => a.f2.length - (intOf v).toNat)
   case atStart => exact ⟨0, rfl, Nat.zero_le _, by rw [List.take_zero]; exact World.ownsMap_made _ _ _ _, (Below.refl _ _).alloc (Nat.le_refl _) _⟩
   case round =>
    obtain ⟨i, rfl, hi, hown, hb⟩ := hrel
    rcases Nat.lt_or_ge i a.f2.length with hlt | hge
    ·have hb0 : decide ((i : Int) < (a.f2.length : Int)) = true := decide_eq_true (by omega)
     have hc1 : ((i : Int) < (a.f2.length : Int)) = True := eq_true (by omega)
     have hc0 : (0 ≤ (i : Int)) = True := eq_true (by omega)
     have hlen0 : 0 < a.f2.length := by omega
     obtain ⟨ad, rfl, _⟩ := hC.2.2 hlen0
     have hcell := Kd.foot_string hC (i : Int) (by omega) (by omega)
     obtain ⟨x, hx⟩ : ∃ x, rdOf ByteArray.empty a.f2 (i : Int) = x := ⟨_, rfl⟩
     rw [hx, Int.toNat_natCast] at hcell
     replace hcell := (hb.cell (World.block_lt_of_cell? wc _ hcell)).trans hcell
     have hxe : a.f2[i] = x := by rw [← hx]; simp [rdOf, List.getD_eq_getElem?_getD, List.getElem?_eq_getElem hlt]
     have hxs : x.size ≤ 1073741824 := hok2 x (by rw [← hxe]; exact List.getElem_mem hlt)
     have htk : a.f2.take (i + 1) = a.f2.take i ++ [x] := by rw [List.take_add_one, List.getElem?_eq_getElem hlt, hxe]; rfl
     have hil : i ≤ 1099511627776 := by have := HOK.out.2.2.1; omega
     have HTK := hid htk
     clear hx hxe htk hlen0
     go_wp2_with (first
      | ((with_reducible refine eD rfl ?_); refine dj _ rfl _ _ 113 rfl 9 3 lawS Tryz.underlying113 intR (zero3 _) (.lit (.int .i64 0)) [] rfl wc.heap.size i (onceD (a.f2.take i)) rfl hown _ (keyL x) rfl (key_of x hxs) ?_; intro v ps hv; obtain ⟨z, rfl⟩ := intR_inv hv; clear hv)
      | (at_mapUpdate; refine wpList_mapUpdate_own _ rfl _ _ _ 113 rfl 9 3 lawS Tryz.underlying113 intR wc.heap.size i (onceD (a.f2.take i)) rfl hown p109z _ _ (keyL x) rfl rfl (key_of x hxs) (.lit (.int .i64 0)) [] rfl ?_; intro w2 hown2 hgrow2))
     exact ⟨⟨i + 1, p91z, hlt, by rw [HTK.out, dW]; exact hown2, hb.grown hgrow2 hb.size (fun j hj => p95z)⟩, p93z⟩
    ·have hb0 : decide ((i : Int) < (a.f2.length : Int)) = false := decide_eq_false (by omega)
     have hi2 : i = a.f2.length := by omega
     rw [List.take_of_length_le hge] at hown
     have hlm := hown.len Tryz.underlying113 3
     have hds : Maps.size (onceD a.f2) = dsz a.f2 := rfl
     rw [hds] at hlm
     have HBx := hid (below_step HWb.out.1 hb)
     have HQ2 := hid (And.intro (blk_below HWb.out.2.1 hb) (blk_below HWb.out.2.2 hb))
     obtain ⟨hz0, hz1, hz2, hz3, -⟩ := cells4 HQ2.out.1
     have hcall := gK a.f2 A2 c2 wr (Kd.C_below HR.out.1.1 HBx.out) HOK.out.2.2.1 hok2 (HTB.out.below HBx.out)
     clear hi2 hds hb hC hok2
     have he := HE.out
     clear HE
     rcases e1 : a.f1.toList.isEmpty with _ | _
     ·rw [e1, Bool.false_and, Bool.false_and, Bool.false_and] at he
      have HE := hid he
      clear he
      go_wp2
      go_meet
      case rel => exact ⟨p104z, hid ⟨HBx.out, HQ2.out.1, HQ2.out.2⟩⟩
     ·rw [e1, Bool.true_and] at he
      by_cases e2 : a.f2.length = a.f3.length
      case neg =>
       have q2 : ((a.f2.length : Int) == (a.f3.length : Int)) = false := beq_eq_false_iff_ne.mpr (by omega)
       rw [decide_eq_false e2, Bool.false_and, Bool.false_and] at he
       have HE := hid he
       clear he e2
       go_wp2
       go_meet
       case rel => exact ⟨p104z, hid ⟨HBx.out, HQ2.out.1, HQ2.out.2⟩⟩
      have q2 : ((a.f2.length : Int) == (a.f3.length : Int)) = true := beq_iff_eq.mpr (by omega)
      rw [decide_eq_true e2, Bool.true_and] at he
      clear e2
      by_cases e3 : dsz a.f2 = a.f2.length
      case neg =>
       have q3 : ((dsz a.f2 : Int) == (a.f2.length : Int)) = false := beq_eq_false_iff_ne.mpr (by omega)
       rw [decide_eq_false e3, Bool.false_and] at he
       have HE := hid he
       clear he e3
       go_wp2
       go_meet
       case rel => exact ⟨p104z, hid ⟨HBx.out, HQ2.out.1, HQ2.out.2⟩⟩
      have q3 : ((dsz a.f2 : Int) == (a.f2.length : Int)) = true := beq_iff_eq.mpr (by omega)
      rw [decide_eq_true e3, Bool.true_and] at he
      have HE := hid he
      clear he e3
      go_wp2_with (go_at_call 74; refine hcall.mono ?_; rintro e w9 ⟨rfl, hb9⟩)
      go_meet
      case rel => exact ⟨p104z, hid ⟨below_step HBx.out hb9, blk_below HQ2.out.1 hb9, blk_below HQ2.out.2 hb9⟩⟩
  case rest =>
   obtain ⟨rfl, HC⟩ := hcut
   have hmfn : ∀ (fn : Fn) (first cap : Array Value) (w : World), (Instr.makeFunc fn first cap).run Tryz.prog w = .ok (.func fn first cap) w := fun _ _ _ _ => rfl
   obtain ⟨hz0, hz1, hz2, hz3, -⟩ := cells4 HC.out.2.1
   have hzb := cell_of (i := 0) HC.out.2.2 rfl
   have hmf := HMF.out
   rw [HIS.out] at hmf
   rcases is with _ | _
   ·rw [Bool.false_and, Bool.false_and] at hmf
    have HE := hid hmf
    clear hmf HMF
    go_wp2
    go_ret
    exact ⟨by rw [HE.out]; rfl, HC.out.1⟩
   ·rw [Bool.true_and] at hmf
    by_cases hd : deep ≤ 60
    case neg =>
     have qd : decide (deep ≤ 60) = false := decide_eq_false hd
     rw [qd, Bool.false_and] at hmf
     have HE := hid hmf
     clear hmf HMF hd
     go_wp2
     go_ret
     exact ⟨by rw [HE.out]; rfl, HC.out.1⟩
    have qd : decide (deep ≤ 60) = true := decide_eq_true hd
    rw [qd, Bool.true_and] at hmf
    have hcall := gL a.f3 HOK.out.2.2.2.2.2 HOK.out.2.2.2.2.1 deep b A3 c3 wc HC.out.2.2 (Kd.C_below HR.out.2.1 HC.out.1) HOK.out.2.2.2.1 HD.out.1 hd (HTB.out.below HC.out.1)
    rcases hv : mayL a.f3 (deep + 1) with _ | _
    all_goals (
     rw [hv] at hmf hcall
     have HE := hid hmf
     clear hmf HMF hv hd
     go_wp2_with (go_at_call 75; refine hcall.mono ?_; rintro e w9 ⟨rfl, hb9⟩)
     go_ret
     exact ⟨by rw [HE.out]; rfl, below_step HC.out.1 hb9⟩)
theorem may_all (a : S28) : MayAt a := may_step a fun x hx => may_all x
termination_by SizeOf.sizeOf a
decreasing_by
  have := List.sizeOf_lt_of_mem hx
  have : SizeOf.sizeOf a.f3 < SizeOf.sizeOf a := by cases a; simp only [S28.mk.sizeOf_spec]; omega
  omega
def jtree_may.f (k : Nat) (a0_0 : Int) (a0_1 : ByteArray) (ab : List ByteArray) (aa : List S28) (a1 : Int) : Option Bool := if okM ⟨a0_0, a0_1, ab, aa⟩ = true ∧ 0 ≤ a1 ∧ a1 ≤ 61 then some (mayF ⟨a0_0, a0_1, ab, aa⟩ a1) else none
theorem jtree_may.calls (k : Nat) (a0_0 : Int) (a0_1 : ByteArray) (A0_2 : Option Addr) (c0_2 : Nat) (ab : List ByteArray) (A0_3 : Option Addr) (c0_3 : Nat) (aa : List S28) (a1 : Int) (r : Bool) (w : World) (hr0_2 : Kd.C Kd.string w A0_2 ab.length ab) (hc0_2 : ab.length ≤ c0_2) (hr0_3 : Kd.C k28 w A0_3 aa.length aa) (hc0_3 : aa.length ≤ c0_3) (h : jtree_may.f k a0_0 a0_1 ab aa a1 = some r) (HTB_ : Tabs w) :
 Calls Tryz.prog 45 #[.agg #[.int .i64 a0_0, .string a0_1, .slice A0_2 ab.length c0_2, .slice A0_3 aa.length c0_3], .int .i64 a1] w fun e w' => e = .returned (.bool r) ∧ Below w.heap.size w w' := by
 unfold jtree_may.f at h
 split at h
 ·rename_i hok
  obtain rfl := Option.some.inj h
  exact may_all ⟨a0_0, a0_1, ab, aa⟩ hok.1 a1 A0_2 c0_2 A0_3 c0_3 w hr0_2 hc0_2 hr0_3 hc0_3 hok.2.1 hok.2.2 HTB_
 ·cases h
end Go.Proofs.YtodnggilomanbaaGreatDoor.Hand
