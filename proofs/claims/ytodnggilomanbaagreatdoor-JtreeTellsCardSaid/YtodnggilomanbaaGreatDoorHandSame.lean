/-
  jtree: Same, and slices.EqualFunc with it: what they come to, and the walks.
-/
import Derived.Test.YtodnggilomanbaaGreatDoorAp
import Derived.Test.YtodnggilomanbaaGreatDoorHandStep
import Derived.Test.YtodnggilomanbaaGreatDoorGS
import Derived.Test.YtodnggilomanbaaGreatDoorHandBa
import Derived.Deep.CutBlock
set_option maxRecDepth 100000
set_option maxHeartbeats 8000000
namespace Go.Proofs.YtodnggilomanbaaGreatDoor.Hand
open Go.RowKit Go.Lib Go.Proofs.YtodnggilomanbaaGreatDoorW.PrintWords Go.Proofs.YtodnggilomanbaaGreatDoorW.PrintLast Go.Proofs.YtodnggilomanbaaGreatDoorW.PrintMore Go.Proofs.YtodnggilomanbaaGreatDoor.PAll
set_option linter.unusedVariables false
set_option linter.unusedSimpArgs false

mutual
def sameF : S28 → S28 → Bool
  | ⟨a, b, c, d⟩, ⟨a', b', c', d'⟩ => decide (a = a') && decide (b = b') && decide (c = c') && sameL d d'
def sameL : List S28 → List S28 → Bool
  | [], [] => true
  | x :: l, y :: m => sameF x y && sameL l m
  | _, _ => false
end
theorem sameF_eq (x y : S28) : sameF x y = (decide (x.f0 = y.f0) && decide (x.f1 = y.f1) && decide (x.f2 = y.f2) && sameL x.f3 y.f3) := by
  cases x; cases y; rw [sameF]
theorem sameL_len : ∀ {l m : List S28}, l.length ≠ m.length → sameL l m = false
  | [], [], h => absurd rfl h
  | [], _ :: _, _ => by simp [sameL]
  | _ :: _, [], _ => by simp [sameL]
  | x :: l, y :: m, h => by
    rw [sameL, sameL_len (by simpa using h), Bool.and_false]
mutual
def okN : S28 → Bool
  | ⟨_, _, c, d⟩ => decide (c.length ≤ 1099511627776) && decide (d.length ≤ 1099511627776) && okL d
def okL : List S28 → Bool
  | [] => true
  | x :: l => okN x && okL l
end
theorem okL_mem : ∀ {l : List S28}, okL l = true → ∀ x ∈ l, okN x = true
 | [], _, x, hx => by cases hx
 | y :: l, h, x, hx => by
  rw [okL, Bool.and_eq_true] at h
  rcases List.mem_cons.1 hx with rfl | hx
  ·exact h.1
  ·exact okL_mem h.2 x hx
theorem okN_at {x : S28} (h : okN x = true) : x.f2.length ≤ 1099511627776 ∧ x.f3.length ≤ 1099511627776 ∧ okL x.f3 = true := by
  cases x
  rw [okN] at h
  simp only [Bool.and_eq_true, decide_eq_true_eq] at h
  exact ⟨h.1.1, h.1.2, h.2⟩
/-- A node, as it is handed over. -/
abbrev nodeV (x : S28) (A2 : Option Addr) (c2 : Nat) (A3 : Option Addr) (c3 : Nat) : Value := .agg #[.int .i64 x.f0, .string x.f1, .slice A2 x.f2.length c2, .slice A3 x.f3.length c3]
theorem stored4 {W : World} {b : Nat} (h : W.heap[b]? = some (.cells zcells 28 (0, 0))) (v0 v1 v2 v3 : Value) : ((((W.setCell ⟨b, 0, none⟩ v0).setCell ⟨b, 1, none⟩ v1).setCell ⟨b, 2, none⟩ v2).setCell ⟨b, 3, none⟩ v3).heap[b]? = some (.cells #[v0, v1, v2, v3] 28 (0, 0)) :=
  blk_put (cs := #[v0, v1, v2, .slice none 0 0]) (blk_put (cs := #[v0, v1, .slice none 0 0, .slice none 0 0]) (blk_put (cs := #[v0, .string ⟨#[]⟩, .slice none 0 0, .slice none 0 0]) (blk_put (cs := zcells) h 0 _ rfl) 1 _ rfl) 2 _ rfl) 3 _ rfl
theorem below4 {w0 W : World} {b : Nat} (hb : Below w0.heap.size w0 W) (hw0 : w0.heap.size ≤ b) (v0 v1 v2 v3 : Value) : Below w0.heap.size w0 ((((W.setCell ⟨b, 0, none⟩ v0).setCell ⟨b, 1, none⟩ v1).setCell ⟨b, 2, none⟩ v2).setCell ⟨b, 3, none⟩ v3) := below_set (below_set (below_set (below_set hb hw0) hw0) hw0) hw0
theorem far4 {W : World} {b g : Nat} {cs : Array Value} {t : TypeId} (h : W.heap[g]? = some (.cells cs t (0, 0))) (hne : g ≠ b) (v0 v1 v2 v3 : Value) : ((((W.setCell ⟨b, 0, none⟩ v0).setCell ⟨b, 1, none⟩ v1).setCell ⟨b, 2, none⟩ v2).setCell ⟨b, 3, none⟩ v3).heap[g]? = some (.cells cs t (0, 0)) := blk_far (blk_far (blk_far (blk_far h hne _) hne _) hne _) hne _
def SameAt (a : S28) : Prop := okN a = true → ∀ (b : S28) (A2 : Option Addr) (c2 : Nat) (A3 : Option Addr) (c3 : Nat) (B2 : Option Addr) (d2 : Nat) (B3 : Option Addr) (d3 : Nat) (w : World),
  Kd.C Kd.string w A2 a.f2.length a.f2 → a.f2.length ≤ c2 → Kd.C k28 w A3 a.f3.length a.f3 → a.f3.length ≤ c3 → Kd.C Kd.string w B2 b.f2.length b.f2 → b.f2.length ≤ d2 → Kd.C k28 w B3 b.f3.length b.f3 → b.f3.length ≤ d3 →
  Calls Tryz.prog 21 #[nodeV a A2 c2 A3 c3, nodeV b B2 d2 B3 d3] w fun e w' => e = .returned (.bool (sameF a b)) ∧ Below w.heap.size w w'
theorem fX (la lb : List S28) (hS : ∀ a ∈ la, SameAt a) (A : Option Addr) (c : Nat) (B : Option Addr) (d : Nat) (w : World) (hA : Kd.C k28 w A la.length la) (hB : Kd.C k28 w B lb.length lb) (hl : la.length ≤ 1099511627776) (hok : okL la = true) :
 Calls Tryz.prog 49 #[.slice A la.length c, .slice B lb.length d, .func (.func 21) #[] #[]] w fun e w' => e = .returned (.bool (sameL la lb)) ∧ Below w.heap.size w w' := by
 by_cases hlen : (la.length : Int) = (lb.length : Int)
 case neg =>
  have hq1 : ((la.length : Int) != (lb.length : Int)) = true := bne_iff_ne.mpr hlen
  go_enter Tryz.func49, Tryz.ntmps49
  go_wp2
  go_ret
  exact ⟨by rw [sameL_len (by omega)]; rfl, Below.refl _ _⟩
 have hq1 : ((la.length : Int) != (lb.length : Int)) = false := bne_eq_false_iff_eq.mpr hlen
 have HLEN := hid hlen
 clear hlen
 go_enter Tryz.func49, Tryz.ntmps49
 go_wp2
 go_loopw [17] (fun v wr => ∃ i : Nat, v = .int .i64 i ∧ i ≤ la.length ∧ sameL (la.drop i) (lb.drop i) = sameL la lb ∧ Below w.heap.size w wr) (fun v _ => la.length - (intOf v).toNat)
 case atStart => exact ⟨0, rfl, Nat.zero_le _, rfl, Below.refl _ _⟩
 case round =>
  obtain ⟨i, rfl, hi, hsm, hb⟩ := hrel
  rcases Nat.lt_or_ge i la.length with hlt | hge
  ·have hc1 : ((i : Int) < (la.length : Int)) = True := eq_true (by omega)
   have hc2 : ((i : Int) < (lb.length : Int)) = True := eq_true (by have := HLEN.out; omega)
   have hc0 : (0 ≤ (i : Int)) = True := eq_true (by omega)
   have hb0 : decide ((i : Int) < (la.length : Int)) = true := decide_eq_true (by omega)
   obtain ⟨ad, A2, cA2, A3, cA3, eA, xA0, xA1, xA2, xA3, lA2, iA2, lA3, iA3⟩ := at_T28 hA i (by omega) (by omega)
   obtain ⟨bd, B2, cB2, B3, cB3, eB, xB0, xB1, xB2, xB3, lB2, iB2, lB3, iB3⟩ := at_T28 hB i (by omega) (by have := HLEN.out; omega)
   cases eA
   cases eB
   rw [Int.toNat_natCast] at xA0 xA1 xA2 xA3 xB0 xB1 xB2 xB3
   obtain ⟨a, ha⟩ : ∃ a, rd_T28 la i = a := ⟨_, rfl⟩
   obtain ⟨b, hbb⟩ : ∃ b, rd_T28 lb i = b := ⟨_, rfl⟩
   rw [ha] at xA0 xA1 xA2 xA3 lA2 iA2 lA3 iA3
   rw [hbb] at xB0 xB1 xB2 xB3 lB2 iB2 lB3 iB3
   have XB := hid (And.intro xB0 (And.intro xB1 (And.intro xB2 xB3)))
   replace xA0 := (hb.cell (World.block_lt_of_cell? w _ xA0)).trans xA0
   replace xA1 := (hb.cell (World.block_lt_of_cell? w _ xA1)).trans xA1
   replace xA2 := (hb.cell (World.block_lt_of_cell? w _ xA2)).trans xA2
   replace xA3 := (hb.cell (World.block_lt_of_cell? w _ xA3)).trans xA3
   have HIA := hid (And.intro iA2 (And.intro lA2 (And.intro iA3 lA3)))
   have HIB := hid (And.intro iB2 (And.intro lB2 (And.intro iB3 lB3)))
   have HB := hid hb
   have HSM := hid hsm
   clear iA2 lA2 iA3 lA3 iB2 lB2 iB3 lB3 hsm xB0 xB1 xB2 xB3 hb
   go_upto_region 6 with (((with_reducible refine gate_dst (N := 8) rfl ?_); refine box_event ?hg (N := 8) ?hd (cs := zcells) (t := 28) ?hr ?_; (case hd => rfl); (case hg => rfl); (case hr => exact p9z); intro g8 hg w8 hbox hbw; have BK8 := hid hbox; have HB8 := hid (below_step HB.out hbw); have GE8 := hid (by rw [hg]; exact HB.out.size : w.heap.size ≤ g8); have hcz0 := cell_of (i := 0) hbox rfl; have hcz1 := cell_of (i := 1) hbox rfl; have hcz2 := cell_of (i := 2) hbox rfl; have hcz3 := cell_of (i := 3) hbox rfl; have hfz0 := blk_frozen hbox 0; have hfz1 := blk_frozen hbox 1; have hfz2 := blk_frozen hbox 2; have hfz3 := blk_frozen hbox 3; clear hbox hbw hg))
   have BK8' := hid (stored4 BK8.out (.int .i64 a.f0) (.string a.f1) (.slice A2 a.f2.length cA2) (.slice A3 a.f3.length cA3))
   have HB8' := hid (below4 HB8.out GE8.out (.int .i64 a.f0) (.string a.f1) (.slice A2 a.f2.length cA2) (.slice A3 a.f3.length cA3))
   revert BK8' HB8'
   generalize World.setCell (World.setCell _ _ _) _ _ = W5
   intro BK8c HB8c
   obtain ⟨xB0, xB1, xB2, xB3⟩ := XB.out
   replace xB0 := (HB8c.out.cell (World.block_lt_of_cell? w _ xB0)).trans xB0
   replace xB1 := (HB8c.out.cell (World.block_lt_of_cell? w _ xB1)).trans xB1
   replace xB2 := (HB8c.out.cell (World.block_lt_of_cell? w _ xB2)).trans xB2
   replace xB3 := (HB8c.out.cell (World.block_lt_of_cell? w _ xB3)).trans xB3
   clear hcz0 hcz1 hcz2 hcz3 hfz0 hfz1 hfz2 hfz3 xA0 xA1 xA2 xA3 BK8 HB8 HB
   go_upto_region 7 with (((with_reducible refine gate_dst (N := 9) rfl ?_); refine box_event ?hg (N := 9) ?hd (cs := zcells) (t := 28) ?hr ?_; (case hd => rfl); (case hg => rfl); (case hr => exact p9z); intro g9 hg w9 hbox hbw; have BK9 := hid hbox; have BK8b := hid (blk_below BK8c.out hbw); have NE := hid (by rw [hg]; exact Nat.ne_of_lt (blk_lt BK8c.out) : g8 ≠ g9); have HB9 := hid (below_step HB8c.out hbw); have GE9 := hid (by rw [hg]; exact HB8c.out.size : w.heap.size ≤ g9); have hcz0 := cell_of (i := 0) hbox rfl; have hcz1 := cell_of (i := 1) hbox rfl; have hcz2 := cell_of (i := 2) hbox rfl; have hcz3 := cell_of (i := 3) hbox rfl; have hfz0 := blk_frozen hbox 0; have hfz1 := blk_frozen hbox 1; have hfz2 := blk_frozen hbox 2; have hfz3 := blk_frozen hbox 3; clear hbox hbw hg))
   have BK9' := hid (stored4 BK9.out (.int .i64 b.f0) (.string b.f1) (.slice B2 b.f2.length cB2) (.slice B3 b.f3.length cB3))
   have BK8d := hid (far4 BK8b.out NE.out (.int .i64 b.f0) (.string b.f1) (.slice B2 b.f2.length cB2) (.slice B3 b.f3.length cB3))
   have HB9' := hid (below4 HB9.out GE9.out (.int .i64 b.f0) (.string b.f1) (.slice B2 b.f2.length cB2) (.slice B3 b.f3.length cB3))
   revert BK9' HB9' BK8d
   generalize World.setCell (World.setCell _ _ _) _ _ = W6
   intro BK9c BK8d HB9c
   clear hcz0 hcz1 hcz2 hcz3 hfz0 hfz1 hfz2 hfz3 xB0 xB1 xB2 xB3 BK8b BK8c HB8c BK9 HB9
   obtain ⟨ya0, ya1, ya2, ya3, -⟩ := cells4 BK8d.out
   obtain ⟨yb0, yb1, yb2, yb3, -⟩ := cells4 BK9c.out
   have hin : a ∈ la := by
    rw [← ha, rd_T28, Int.toNat_natCast, List.getD_eq_getElem?_getD, List.getElem?_eq_getElem hlt]
    exact List.getElem_mem hlt
   have hltb : i < lb.length := by have := HLEN.out; omega
   have eda : la.drop i = a :: la.drop (i + 1) := by
    rw [List.drop_eq_getElem_cons hlt, ← ha]
    simp [rd_T28, List.getD_eq_getElem?_getD, List.getElem?_eq_getElem hlt]
   have edb : lb.drop i = b :: lb.drop (i + 1) := by
    rw [List.drop_eq_getElem_cons hltb, ← hbb]
    simp [rd_T28, List.getD_eq_getElem?_getD, List.getElem?_eq_getElem hltb]
   have hsm := HSM.out
   rw [eda, edb, sameL] at hsm
   have hcall := hS a hin (okL_mem hok a hin) b A2 cA2 A3 cA3 B2 cB2 B3 cB3 W6 (Kd.C_below HIA.out.1 HB9c.out) HIA.out.2.1 (Kd.C_below HIA.out.2.2.1 HB9c.out) HIA.out.2.2.2 (Kd.C_below HIB.out.1 HB9c.out) HIB.out.2.1 (Kd.C_below HIB.out.2.2.1 HB9c.out) HIB.out.2.2.2
   have HSM2 := hid hsm
   clear hsm eda edb HIA HIB XB
   rcases hv : sameF a b with _ | _
   ·rw [hv] at hcall
    have hs2 := HSM2.out
    rw [hv, Bool.false_and] at hs2
    have HSM3 := hid hs2
    clear HSM2 hs2
    go_wp2_with (go_at_call 21; refine hcall.mono ?_; rintro e w11 ⟨rfl, hb11⟩; have HB11 := hid (below_step HB9c.out hb11); clear hb11)
    go_ret
    exact ⟨by rw [← HSM3.out]; rfl, HB11.out⟩
   ·rw [hv] at hcall
    have hs2 := HSM2.out
    rw [hv, Bool.true_and] at hs2
    have HSM3 := hid hs2
    clear HSM2 hs2
    go_wp2_with (go_at_call 21; refine hcall.mono ?_; rintro e w11 ⟨rfl, hb11⟩; have HB11 := hid (below_step HB9c.out hb11); clear hb11)
    exact ⟨⟨i + 1, p91z, hlt, HSM3.out, HB11.out⟩, p93z⟩
  ·have hb0 : decide ((i : Int) < (la.length : Int)) = false := decide_eq_false (by omega)
   have e1 : sameL (la.drop i) (lb.drop i) = true := by
    rw [List.drop_eq_nil_iff.2 hge, List.drop_eq_nil_iff.2 (by have := HLEN.out; omega), sameL]
   go_wp2
   go_ret
   exact ⟨by rw [← hsm, e1]; rfl, hb⟩
theorem equalK {l m : List ByteArray} (hl : l.length ≤ 1099511627776) (he : l.length = m.length) : ∀ (n i : Nat), i + n = l.length → ap.l0 (n + 1) l m (l.length : Int) (i : Int) = some (decide (l.drop i = m.drop i))
 | 0, i, h => by
  rw [ap.l0, if_neg (by omega), List.drop_eq_nil_iff.2 (by omega), List.drop_eq_nil_iff.2 (by omega)]
  rfl
 | n + 1, i, h => by
  have h1 : i < l.length := by omega
  have h2 : i < m.length := by omega
  have e1 : rdOf ByteArray.empty l (i : Int) = l[i] := by simp [rdOf, List.getD_eq_getElem?_getD, List.getElem?_eq_getElem h1]
  have e2 : rdOf ByteArray.empty m (i : Int) = m[i] := by simp [rdOf, List.getD_eq_getElem?_getD, List.getElem?_eq_getElem h2]
  rw [ap.l0, if_pos (by omega), if_pos (by omega), if_pos (by omega), if_pos (by omega), e1, e2]
  have ed : decide (l.drop i = m.drop i) = (decide (l[i] = m[i]) && decide (l.drop (i + 1) = m.drop (i + 1))) := by
   have e3 := List.drop_eq_getElem_cons h1
   have e4 := List.drop_eq_getElem_cons h2
   rw [e3, e4]
   simp only [List.cons.injEq, Bool.decide_and]
  rw [ed]
  have hw : wrap64 ((i : Int) + 1) = ((i + 1 : Nat) : Int) := p76z
  by_cases hx : l[i] = m[i]
  case pos =>
   rw [hx, if_pos rfl, hw, equalK hl he n (i + 1) (by omega)]
   simp
  have hx2 : l[i].toList ≠ m[i].toList := fun h => hx (by
   apply ByteArray.ext
   apply Array.toList_inj.1
   rw [← ByteArray.toList_eq, ← ByteArray.toList_eq, h])
  rw [if_neg hx2]
  simp [hx]
theorem gz (A : Option Addr) (c : Nat) (l : List ByteArray) (B : Option Addr) (d : Nat) (m : List ByteArray) (w : World) (h0 : Kd.C Kd.string w A l.length l) (h1 : l.length ≤ c) (h2 : Kd.C Kd.string w B m.length m) (h3 : m.length ≤ d) (hl : l.length ≤ 1099511627776) :
 Calls Tryz.prog 48 #[.slice A l.length c, .slice B m.length d] w fun e w' => e = .returned (.bool (decide (l = m))) ∧ Drawn0 w w' := by
 by_cases he : l.length = m.length
 case neg =>
  refine ap.calls 0 A c l B d m (decide (l = m)) w h0 h1 h2 h3 ?_
  rw [ap.f, if_neg (by omega)]
  rw [decide_eq_false (fun h => he (by rw [h]))]
 refine ap.calls (l.length + 1) A c l B d m (decide (l = m)) w h0 h1 h2 h3 ?_
 rw [ap.f, if_pos (by omega)]
 exact equalK hl he l.length 0 (by omega)
theorem same_step (a : S28) (hS : ∀ x ∈ a.f3, SameAt x) : SameAt a := by
 intro hok b A2 c2 A3 c3 B2 d2 B3 d3 w h2 l2 h3 l3 k2 m2 k3 m3
 obtain ⟨ok2, ok3, ok4⟩ := okN_at hok
 have hsf := sameF_eq a b
 go_enter Tryz.func21, Tryz.ntmps21
 go_upto_region 1 with (first
  | ((with_reducible refine gate_dst (N := 2) rfl ?_); refine box_event ?hg (N := 2) ?hd (cs := #[.int .i64 a.f0, .string a.f1, .slice A2 a.f2.length c2, .slice A3 a.f3.length c3]) (t := 28) ?hr ?_; (case hd => rfl); (case hg => rfl); (case hr => exact p9z); intro g8 hg w8 hbox hbw; have BK8 := hid hbox; have HB8 := hid hbw; clear hbox hbw hg)
  | ((with_reducible refine gate_dst (N := 3) rfl ?_); refine box_event ?hg (N := 3) ?hd (cs := #[.int .i64 b.f0, .string b.f1, .slice B2 b.f2.length d2, .slice B3 b.f3.length d3]) (t := 28) ?hr ?_; (case hd => rfl); (case hg => rfl); (case hr => exact p9z); intro g9 hg w9 hbox hbw; have BK9 := hid hbox; have BK8b := hid (blk_below BK8.out hbw); have HB9 := hid (below_step HB8.out hbw); clear hbox hbw hg))
 obtain ⟨ya0, ya1, ya2, ya3, -⟩ := cells4 BK8b.out
 obtain ⟨yb0, yb1, yb2, yb3, -⟩ := cells4 BK9.out
 have HQ2 := hid (And.intro (And.intro (Kd.C_below h2 HB9.out) l2) (And.intro (Kd.C_below k2 HB9.out) m2))
 have HQ3 := hid (And.intro (And.intro h3 l3) (And.intro k3 m3))
 clear h2 l2 h3 l3 k2 m2 k3 m3 BK8 BK9 BK8b HB8
 by_cases e0 : a.f0 = b.f0
 case neg =>
  have q0 : (a.f0 == b.f0) = false := beq_eq_false_iff_ne.mpr e0
  rw [decide_eq_false e0, Bool.false_and, Bool.false_and, Bool.false_and] at hsf
  have HSF := hid hsf
  clear hsf e0
  go_wp2
  go_ret
  exact ⟨by rw [HSF.out]; rfl, HB9.out⟩
 have q0 : (a.f0 == b.f0) = true := beq_iff_eq.mpr e0
 rw [decide_eq_true e0] at hsf
 clear e0
 by_cases e1 : a.f1 = b.f1
 case neg =>
  have q1 : (a.f1.toList == b.f1.toList) = false := beq_eq_false_iff_ne.mpr (fun h => e1 (by
   apply ByteArray.ext
   apply Array.toList_inj.1
   rw [← ByteArray.toList_eq, ← ByteArray.toList_eq, h]))
  rw [decide_eq_false e1, Bool.and_false, Bool.false_and, Bool.false_and] at hsf
  have HSF := hid hsf
  clear hsf e1
  go_wp2
  go_ret
  exact ⟨by rw [HSF.out]; rfl, HB9.out⟩
 have q1 : (a.f1.toList == b.f1.toList) = true := by rw [e1]; simp
 rw [decide_eq_true e1] at hsf
 clear e1
 have heq := gz A2 c2 a.f2 B2 d2 b.f2 w9 HQ2.out.1.1 HQ2.out.1.2 HQ2.out.2.1 HQ2.out.2.2 ok2
 have hef := fun m => fX a.f3 b.f3 hS A3 c3 B3 d3 (w9.drewN m) (Kd.C_below HQ3.out.1.1 (pw_below_drewN HB9.out m)) (Kd.C_below HQ3.out.2.1 (pw_below_drewN HB9.out m)) ok3 ok4
 by_cases e2 : a.f2 = b.f2
 case neg =>
  rw [decide_eq_false e2] at hsf heq
  clear e2
  rw [Bool.and_false, Bool.false_and] at hsf
  have HSF := hid hsf
  clear hsf
  go_wp2_with (go_at_call 48; refine heq.mono ?_; rintro e w10 ⟨rfl, m, rfl⟩)
  go_ret
  exact ⟨by rw [HSF.out]; rfl, pw_below_drewN HB9.out _⟩
 rw [decide_eq_true e2] at hsf heq
 clear e2
 rcases hv : sameL a.f3 b.f3 with _ | _
 all_goals (
  rw [hv] at hsf hef
  have HSF := hid hsf
  clear hsf hv
  go_wp2_with (first
   | (go_at_call 48; refine heq.mono ?_; rintro e w10 ⟨rfl, m, rfl⟩)
   | (go_at_call 49; refine (hef _).mono ?_; rintro e w11 ⟨rfl, hb11⟩; have HB11 := hid (below_step (pw_below_drewN HB9.out _) hb11); clear hb11))
  go_ret
  exact ⟨by rw [HSF.out]; rfl, HB11.out⟩)
theorem same_all (a : S28) : SameAt a := same_step a fun x hx => same_all x
termination_by SizeOf.sizeOf a
decreasing_by
  have := List.sizeOf_lt_of_mem hx
  have : SizeOf.sizeOf a.f3 < SizeOf.sizeOf a := by cases a; simp only [S28.mk.sizeOf_spec]; omega
  omega
def cS.f (k : Nat) (a0_0 : Int) (a0_1 : ByteArray) (ab : List ByteArray) (aa : List S28) (a1_0 : Int) (a1_1 : ByteArray) (cg : List ByteArray) (bs : List S28) : Option Bool := if okN ⟨a0_0, a0_1, ab, aa⟩ = true then some (sameF ⟨a0_0, a0_1, ab, aa⟩ ⟨a1_0, a1_1, cg, bs⟩) else none
theorem cS.calls (k : Nat) (a0_0 : Int) (a0_1 : ByteArray) (A0_2 : Option Addr) (c0_2 : Nat) (ab : List ByteArray) (A0_3 : Option Addr) (c0_3 : Nat) (aa : List S28) (a1_0 : Int) (a1_1 : ByteArray) (A1_2 : Option Addr) (c1_2 : Nat) (cg : List ByteArray) (A1_3 : Option Addr) (c1_3 : Nat) (bs : List S28) (r : Bool) (w : World)
 (hr0_2 : Kd.C Kd.string w A0_2 ab.length ab) (hc0_2 : ab.length ≤ c0_2) (hr0_3 : Kd.C k28 w A0_3 aa.length aa) (hc0_3 : aa.length ≤ c0_3) (hr1_2 : Kd.C Kd.string w A1_2 cg.length cg) (hc1_2 : cg.length ≤ c1_2) (hr1_3 : Kd.C k28 w A1_3 bs.length bs) (hc1_3 : bs.length ≤ c1_3)
 (h : cS.f k a0_0 a0_1 ab aa a1_0 a1_1 cg bs = some r) :
 Calls Tryz.prog 21 #[.agg #[.int .i64 a0_0, .string a0_1, .slice A0_2 ab.length c0_2, .slice A0_3 aa.length c0_3], .agg #[.int .i64 a1_0, .string a1_1, .slice A1_2 cg.length c1_2, .slice A1_3 bs.length c1_3]] w fun e w' => e = .returned (.bool r) ∧ Below w.heap.size w w' := by
 unfold cS.f at h
 split at h
 ·rename_i hok
  obtain rfl := Option.some.inj h
  exact same_all ⟨a0_0, a0_1, ab, aa⟩ hok ⟨a1_0, a1_1, cg, bs⟩ A0_2 c0_2 A0_3 c0_3 A1_2 c1_2 A1_3 c1_3 w hr0_2 hc0_2 hr0_3 hc0_3 hr1_2 hc1_2 hr1_3 hc1_3
 ·cases h
end Go.Proofs.YtodnggilomanbaaGreatDoor.Hand
