/-
  jtree: bad, isNum, and slices.ContainsFunc of keys with bad: the walks.
-/
import Derived.Test.YtodnggilomanbaaGreatDoorAp
import Derived.Test.YtodnggilomanbaaGreatDoorGT
import Derived.Test.YtodnggilomanbaaGreatDoorHandSame
import Derived.Test.YtodnggilomanbaaGreatDoorHandVz
import Derived.Test.YtodnggilomanbaaGreatDoorHandBa
import Derived.Test.YtodnggilomanbaaGreatDoorHandStr
set_option maxRecDepth 100000
set_option maxHeartbeats 4000000
namespace Go.Proofs.YtodnggilomanbaaGreatDoor.Hand
open Go.RowKit Go.Lib Go.Proofs.YtodnggilomanbaaGreatDoorW.PrintWords Go.Proofs.YtodnggilomanbaaGreatDoorW.PrintLast Go.Proofs.YtodnggilomanbaaGreatDoorW.PrintMore Go.Proofs.YtodnggilomanbaaGreatDoor.PAll
set_option linter.unusedVariables false
set_option linter.unusedSimpArgs false

def badF (s : ByteArray) : Bool := !(Lib.validD (u8s (bytesOf s)))
theorem im (s : ByteArray) : isBy (bytesOf s) = true := by
  unfold isBy bytesOf
  rw [List.all_eq_true]
  intro x hx
  obtain ⟨b, _, rfl⟩ := List.mem_map.1 hx
  have := b.toNat_lt
  simp only [Bool.and_eq_true, decide_eq_true_eq]
  omega
theorem bad_calls (s : ByteArray) (w : World) (hs : s.size ≤ 1073741824) (HTAB : Tabs w) :
    Calls Tryz.prog 73 #[.string s] w fun e w' => e = .returned (.bool (badF s)) ∧ Below w.heap.size w w' := by
  have hf : bI.f s = some (bytesOf s) := by unfold bI.f; rw [if_pos (by omega)]
  have HTB := hid HTAB
  unfold badF
  obtain ⟨r, hr⟩ : ∃ r, Lib.validD (u8s (bytesOf s)) = r := ⟨_, rfl⟩
  rw [hr]
  have hv : cL.f (bytesOf s) = some r := by unfold cL.f; rw [if_pos ⟨by rw [bytesOf_length]; exact hs, im s⟩, hr]
  clear hr
  go_enter Tryz.func73, Tryz.ntmps73
  go_wp2_with (first
    | ((with_reducible refine gate_conv rfl ?_); refine bN rfl hf p10z ?_; intro v w1 hV hb1; obtain ⟨A, c, rfl, hc, hF⟩ := hV; have hC := hF w1 (fun _ _ _ => rfl); clear hF)
    | (go_at_call 95; refine (ej A c (bytesOf s) r w1 hC hc hv (HTB.out.below hb1)).mono ?_; rintro e w2 ⟨rfl, hb2⟩))
  go_ret
  exact ⟨rfl, below_step hb1 hb2⟩

/-! ### isNum -/
def trimF (s : ByteArray) : ByteArray := if 1 ≤ s.size ∧ (s.extract 0 1).toList = [45] then s.extract 1 s.size else s
theorem trim_eq (s : ByteArray) : bS.f s (⟨#[45]⟩ : ByteArray) = some (trimF s) := by
 have e1 : ((⟨#[45]⟩ : ByteArray).size : Int) = 1 := rfl
 have e2 : (⟨#[45]⟩ : ByteArray).toList = [45] := by rw [ByteArray.toList_eq]
 unfold bS.f bh.f b9.f
 rw [e1, e2]
 by_cases h : 1 ≤ s.size
 case neg =>
  have h4 : trimF s = s := by rw [trimF, if_neg (fun q => h q.1)]
  rw [if_neg (by omega), h4]
  simp
 rw [if_pos (by omega), if_pos (by omega), if_pos (by omega)]
 by_cases h2 : (s.extract 0 1).toList = [45]
 case neg =>
  have h3 : ((s.extract 0 (1 : Int).toNat).toList == [45]) = false := beq_eq_false_iff_ne.mpr h2
  have h4 : trimF s = s := by rw [trimF, if_neg (fun q => h2 q.2)]
  rw [h3, h4]
  simp
 have h3 : ((s.extract 0 (1 : Int).toNat).toList == [45]) = true := beq_iff_eq.mpr h2
 have h4 : trimF s = s.extract 1 s.size := by rw [trimF, if_pos ⟨h, h2⟩]
 rw [h3, h4]
 simp only [Option.bind_some, if_true]
 rw [if_pos (by omega), if_pos (by omega)]
 rfl
def numOk (t : ByteArray) : Bool := decide ((ndg (bytesOf t) : Int) = (t.size : Int)) && (decide (1 ≤ ndg (bytesOf t)) && (decide (ndg (bytesOf t) ≤ 40) && (decide (ndg (bytesOf t) = 1) || decide (bt t 0 ≠ 48))))
def isNumF (s : ByteArray) : Bool := numOk (trimF s)
theorem gJ (s : ByteArray) (w : World) :
 Calls Tryz.prog 72 #[.string s] w fun e w' => e = .returned (.bool (isNumF s)) ∧ Below w.heap.size w w' := by
 have htp := fun W => bS.calls s (⟨#[45]⟩ : ByteArray) (trimF s) W (trim_eq s)
 unfold isNumF numOk
 obtain ⟨t, ht⟩ : ∃ t, trimF s = t := ⟨_, rfl⟩
 rw [ht] at htp ⊢
 obtain ⟨n, hn⟩ : ∃ n, ndg (bytesOf t) = n := ⟨_, rfl⟩
 have hdg := fun W => ee t W
 rw [hn] at hdg ⊢
 have HT := hid (And.intro ht hn)
 have hnl := ndg_le (bytesOf t)
 rw [bytesOf_length, hn] at hnl
 clear ht hn
 by_cases e1 : (n : Int) = (t.size : Int)
 case neg =>
  have q1 : ((n : Int) == (t.size : Int)) = false := beq_eq_false_iff_ne.mpr e1
  rw [decide_eq_false e1]
  clear e1 hnl
  go_enter Tryz.func72, Tryz.ntmps72
  go_wp2_with (first
   | (go_at_call 94; refine (htp _).mono ?_; rintro e w1 ⟨rfl, m, rfl⟩)
   | (go_at_call 87; refine (hdg _).mono ?_; rintro e w2 ⟨rfl, hb2⟩))
  go_ret
  exact ⟨rfl, below_step (pw_below_drewN (Below.refl _ _) _) hb2⟩

 have q1 : ((n : Int) == (t.size : Int)) = true := beq_iff_eq.mpr e1
 rw [decide_eq_true e1]
 by_cases e2 : 1 ≤ n
 case neg =>
  have q2 : decide (1 ≤ (n : Int)) = false := decide_eq_false (by omega)
  rw [decide_eq_false e2]
  clear e1 e2 hnl
  go_enter Tryz.func72, Tryz.ntmps72
  go_wp2_with (first
   | (go_at_call 94; refine (htp _).mono ?_; rintro e w1 ⟨rfl, m, rfl⟩)
   | (go_at_call 87; refine (hdg _).mono ?_; rintro e w2 ⟨rfl, hb2⟩))
  go_ret
  exact ⟨rfl, below_step (pw_below_drewN (Below.refl _ _) _) hb2⟩
 have q2 : decide (1 ≤ (n : Int)) = true := decide_eq_true (by omega)
 rw [decide_eq_true e2]
 by_cases e3 : n ≤ 40
 case neg =>
  have q3 : decide ((n : Int) ≤ 40) = false := decide_eq_false (by omega)
  rw [decide_eq_false e3]
  clear e1 e2 e3 hnl
  go_enter Tryz.func72, Tryz.ntmps72
  go_wp2_with (first
   | (go_at_call 94; refine (htp _).mono ?_; rintro e w1 ⟨rfl, m, rfl⟩)
   | (go_at_call 87; refine (hdg _).mono ?_; rintro e w2 ⟨rfl, hb2⟩))
  go_ret
  exact ⟨rfl, below_step (pw_below_drewN (Below.refl _ _) _) hb2⟩
 have q3 : decide ((n : Int) ≤ 40) = true := decide_eq_true (by omega)
 rw [decide_eq_true e3]
 by_cases e4 : n = 1
 case pos =>
  have q4 : ((n : Int) == 1) = true := beq_iff_eq.mpr (by omega)
  rw [decide_eq_true e4]
  clear e1 e2 e3 e4 hnl
  go_enter Tryz.func72, Tryz.ntmps72
  go_wp2_with (first
   | (go_at_call 94; refine (htp _).mono ?_; rintro e w1 ⟨rfl, m, rfl⟩)
   | (go_at_call 87; refine (hdg _).mono ?_; rintro e w2 ⟨rfl, hb2⟩))
  go_ret
  exact ⟨rfl, below_step (pw_below_drewN (Below.refl _ _) _) hb2⟩
 have q4 : ((n : Int) == 1) = false := beq_eq_false_iff_ne.mpr (by omega)
 rw [decide_eq_false e4]
 have p6 := eq_true (show 0 < t.size by omega)
 have hx := bt_at t 0 (show (0 : Int).toNat < t.size by show 0 < t.size; omega)
 obtain ⟨d, hd⟩ : ∃ d, bt t 0 = d := ⟨_, rfl⟩
 rw [hd] at hx ⊢
 have hpos : 0 < t.size := by omega
 have hx0 : ((t[0]'hpos).toNat : Int) = d := hx
 by_cases e5 : d ≠ 48
 case pos =>
  have q5 : (d != 48) = true := bne_iff_ne.mpr e5
  rw [decide_eq_true e5]
  clear e1 e2 e3 e4 e5 hnl hd hx
  go_enter Tryz.func72, Tryz.ntmps72
  go_wp2_with (first
   | (go_at_call 94; refine (htp _).mono ?_; rintro e w1 ⟨rfl, m, rfl⟩)
   | (go_at_call 87; refine (hdg _).mono ?_; rintro e w2 ⟨rfl, hb2⟩))
  go_ret
  exact ⟨rfl, below_step (pw_below_drewN (Below.refl _ _) _) hb2⟩
 have q5 : (d != 48) = false := bne_eq_false_iff_eq.mpr (by omega)
 rw [decide_eq_false e5]
 clear e1 e2 e3 e4 e5 hnl hd hx
 go_enter Tryz.func72, Tryz.ntmps72
 go_wp2_with (first
  | (go_at_call 94; refine (htp _).mono ?_; rintro e w1 ⟨rfl, m, rfl⟩)
  | (go_at_call 87; refine (hdg _).mono ?_; rintro e w2 ⟨rfl, hb2⟩))
 go_ret
 exact ⟨rfl, below_step (pw_below_drewN (Below.refl _ _) _) hb2⟩
/-! ### keys -/
def idxBad : List ByteArray → Int → Int
  | [], _ => -1
  | x :: l, i => if badF x = true then i else idxBad l (i + 1)
theorem fe : ∀ (l : List ByteArray) (i : Int), 0 ≤ i → decide (0 ≤ idxBad l i) = l.any badF
 | [], i, h => by rw [idxBad]; rfl
 | x :: l, i, h => by
  rw [idxBad, List.any_cons]
  by_cases hb : badF x = true
  case pos =>
   rw [if_pos hb, hb, Bool.true_or]
   exact decide_eq_true h
  rw [if_neg hb, Bool.eq_false_iff.mpr hb, Bool.false_or]
  exact fe l (i + 1) (by omega)
theorem io (l : List ByteArray) (A : Option Addr) (c : Nat) (w : World) (hC : Kd.C Kd.string w A l.length l) (hl : l.length ≤ 1099511627776) (hs : ∀ x ∈ l, x.size ≤ 1073741824) (HTAB : Tabs w) :
 Calls Tryz.prog 96 #[.slice A l.length c, .func (.func 73) #[] #[]] w fun e w' => e = .returned (.int .i64 (idxBad l 0)) ∧ Below w.heap.size w w' := by
 have HTB := hid HTAB
 have HS := hid hs
 go_enter Tryz.func96, Tryz.ntmps96
 go_wp2
 go_loopw [8] (fun v wr => ∃ i : Nat, v = .int .i64 i ∧ i ≤ l.length ∧ idxBad (l.drop i) i = idxBad l 0 ∧ Below w.heap.size w wr) (fun v _ => l.length - (intOf v).toNat)
 case atStart => exact ⟨0, rfl, Nat.zero_le _, rfl, Below.refl _ _⟩
 case round =>
  obtain ⟨i, rfl, hi, hix, hb⟩ := hrel
  rcases Nat.lt_or_ge i l.length with hlt | hge
  ·have hb0 : decide ((i : Int) < (l.length : Int)) = true := decide_eq_true (by omega)
   have hc1 : ((i : Int) < (l.length : Int)) = True := eq_true (by omega)
   have hc0 : (0 ≤ (i : Int)) = True := eq_true (by omega)
   obtain ⟨ad, rfl, _⟩ := hC.2.2 (by omega)
   have hcell := Kd.foot_string hC (i : Int) (by omega) (by omega)
   obtain ⟨x, hx⟩ : ∃ x, rdOf ByteArray.empty l (i : Int) = x := ⟨_, rfl⟩
   rw [hx, Int.toNat_natCast] at hcell
   replace hcell := (hb.cell (World.block_lt_of_cell? w _ hcell)).trans hcell
   have hxe : l[i] = x := by rw [← hx]; simp [rdOf, List.getD_eq_getElem?_getD, List.getElem?_eq_getElem hlt]
   have hin : x ∈ l := by rw [← hxe]; exact List.getElem_mem hlt
   have hdr : l.drop i = x :: l.drop (i + 1) := by rw [List.drop_eq_getElem_cons hlt, hxe]
   rw [hdr, idxBad] at hix
   have HIX := hid hix
   have HB := hid hb
   clear hx hix hdr hxe hb
   have hcall := fun W (hW : Below w.heap.size w W) => bad_calls x W (HS.out x hin) (HTB.out.below hW)
   rcases hv : badF x with _ | _
   ·have hix := HIX.out
    rw [hv, if_neg (by decide)] at hix
    have HI2 := hid hix
    rw [hv] at hcall
    clear hix HIX hv
    go_wp2_with (go_at_call 73; refine (hcall _ HB.out).mono ?_; rintro e w1 ⟨rfl, hb1⟩; have HB1 := hid (below_step HB.out hb1); clear hb1)
    exact ⟨⟨i + 1, p91z, hlt, by first | exact HI2.out | (rw [← HI2.out]; simp; done), HB1.out⟩, p93z⟩
   ·have hix := HIX.out
    rw [hv, if_pos rfl] at hix
    have HI2 := hid hix
    rw [hv] at hcall
    clear hix HIX hv
    go_wp2_with (go_at_call 73; refine (hcall _ HB.out).mono ?_; rintro e w1 ⟨rfl, hb1⟩; have HB1 := hid (below_step HB.out hb1); clear hb1)
    go_ret
    exact ⟨by rw [← HI2.out]; rfl, HB1.out⟩
  ·have hb0 : decide ((i : Int) < (l.length : Int)) = false := decide_eq_false (by omega)
   rw [List.drop_eq_nil_iff.2 hge, idxBad] at hix
   have HI2 := hid hix
   clear hix
   go_wp2
   go_ret
   exact ⟨by rw [← HI2.out]; rfl, hb⟩
theorem gK (l : List ByteArray) (A : Option Addr) (c : Nat) (w : World) (hC : Kd.C Kd.string w A l.length l) (hl : l.length ≤ 1099511627776) (hs : ∀ x ∈ l, x.size ≤ 1073741824) (HTAB : Tabs w) :
    Calls Tryz.prog 74 #[.slice A l.length c, .func (.func 73) #[] #[]] w fun e w' => e = .returned (.bool (l.any badF)) ∧ Below w.heap.size w w' := by
  have h := io l A c w hC hl hs HTAB
  have he := fe l 0 (by omega)
  rw [← he]
  generalize idxBad l 0 = r at h
  go_enter Tryz.func74, Tryz.ntmps74
  go_wp2_with (go_at_call 96; refine h.mono ?_; rintro e w1 ⟨rfl, hb1⟩)
  go_ret
  exact ⟨rfl, hb1⟩
end Go.Proofs.YtodnggilomanbaaGreatDoor.Hand
