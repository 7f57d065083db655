-- Written by this repo's program wip/tools/pr.py (over the kit's print) out of the translation. Not trusted: Lean checks it.
import Derived.Test.YtodnggilomanbaaGreatDoorAp
import Derived.Test.YtodnggilomanbaaGreatDoorHandStep
import Derived.Test.YtodnggilomanbaaGreatDoorGTz
set_option maxHeartbeats 8000000
set_option maxRecDepth 100000
namespace Go.Proofs.YtodnggilomanbaaGreatDoor.PAll
open Go.RowKit Go.Proofs.YtodnggilomanbaaGreatDoorW.PrintWords Go.Proofs.YtodnggilomanbaaGreatDoorW.PrintLast Go.Proofs.YtodnggilomanbaaGreatDoorW.PrintMore
attribute [local go_sem] max2_int min2_int max_two min_two max_three min_three max_four min_four   -- for this text's walks alone
set_option linter.unusedVariables false
set_option linter.unusedSimpArgs false

/-! ### ae: function 20 -/
mutual
def ae.j0 : Nat → Bool → Int → ByteArray → List ByteArray → List (S37) → Int → ByteArray → List ByteArray → List (S37) → Option (Bool)
  | 0, _, _, _, _, _, _, _, _, _ => none
  | k + 1, x34, fM, fN, fO, dv, fP, fQ, fR, dw => if x34 = true then (some false) else (ae.l0 k 0 fM fN fO dv fP fQ fR dw)
def ae.l0 : Nat → Int → Int → ByteArray → List ByteArray → List (S37) → Int → ByteArray → List ByteArray → List (S37) → Option (Bool)
  | 0, _, _, _, _, _, _, _, _, _ => none
  | k + 1, x5, fM, fN, fO, dv, fP, fQ, fR, dw => if x5 < (dv.length : Int) then (if 0 ≤ x5 then (if x5 < (dw.length : Int) then ((ae.f k ((rd_T37 dv x5).f0) ((rd_T37 dv x5).f1) ((rd_T37 dv x5).f2) ((rd_T37 dv x5).f3) ((rd_T37 dw x5).f0) ((rd_T37 dw x5).f1) ((rd_T37 dw x5).f2) ((rd_T37 dw x5).f3)).bind fun f9 => (if f9 = true then (ae.l0 k (wrap64 (x5 + 1)) fM fN fO dv fP fQ fR dw) else (some false))) else (none)) else (none)) else (some true)
def ae.f : Nat → Int → ByteArray → List ByteArray → List (S37) → Int → ByteArray → List ByteArray → List (S37) → Option (Bool)
  | 0, _, _, _, _, _, _, _, _ => none
  | k + 1, a0_0, a0_1, ab, aa, a1_0, a1_1, cg, bs => if a0_0 = a1_0 then (if a0_1.toList = a1_1.toList then ((au.f k ab cg).bind fun t105 => (if t105 = true then (ae.j0 k ((aa.length : Int) != (bs.length : Int)) a0_0 a0_1 ab aa a1_0 a1_1 cg bs) else (ae.j0 k true a0_0 a0_1 ab aa a1_0 a1_1 cg bs))) else (ae.j0 k true a0_0 a0_1 ab aa a1_0 a1_1 cg bs)) else (ae.j0 k true a0_0 a0_1 ab aa a1_0 a1_1 cg bs)
end
def ae.T6 : Bool × List (List Nat × List Nat) := (true, [([], []), ([0], [0]), ([], []), ([1, 2], [1, 2]), ([3], [3]), ([], []), ([5], [5]), ([], []), ([6, 7], [6, 7]), ([8], [8]), ([4, 9], [4, 9]), ([10], [10])])
def ae.B6 : List Nat := [0, 1, 0, 7, 15, 0, 32, 0, 224, 480, 1023, 2047]
theorem ae.tab6 : rtab .any (opsOf Tryz.f20 6) = ae.T6 := p12z
theorem ae.bits6 : waitsOk ae.T6.2 ae.B6 = true := p12z
theorem ae.calls (k : Nat) : ∀ (a0_0 : Int) (a0_1 : ByteArray) (A0_2 : Option Addr) (c0_2 : Nat) (ab : List ByteArray) (A0_3 : Option Addr) (c0_3 : Nat) (aa : List (S37)) (a1_0 : Int) (a1_1 : ByteArray) (A1_2 : Option Addr) (c1_2 : Nat) (cg : List ByteArray) (A1_3 : Option Addr) (c1_3 : Nat) (bs : List (S37)) (r : Bool) (w : World) (hr0_2 : Kd.C Kd.string w A0_2 ab.length ab) (hc0_2 : ab.length ≤ c0_2) (hr0_3 : Kd.C k37 w A0_3 aa.length aa) (hc0_3 : aa.length ≤ c0_3) (hr1_2 : Kd.C Kd.string w A1_2 cg.length cg) (hc1_2 : cg.length ≤ c1_2) (hr1_3 : Kd.C k37 w A1_3 bs.length bs) (hc1_3 : bs.length ≤ c1_3) (h : ae.f k a0_0 a0_1 ab aa a1_0 a1_1 cg bs = some r),
 Calls Tryz.prog 20 #[.agg #[.int .i64 a0_0, .string a0_1, .slice A0_2 ab.length c0_2, .slice A0_3 aa.length c0_3], .agg #[.int .i64 a1_0, .string a1_1, .slice A1_2 cg.length c1_2, .slice A1_3 bs.length c1_3]] w fun e w' => e = .returned (.bool r) ∧ Below w.heap.size w w' := by
 induction k using Nat.strongRecOn with
 | _ k ih =>
 intro a0_0 a0_1 A0_2 c0_2 ab A0_3 c0_3 aa a1_0 a1_1 A1_2 c1_2 cg A1_3 c1_3 bs r w hr0_2 hc0_2 hr0_3 hc0_3 hr1_2 hc1_2 hr1_3 hc1_3 h
 cases k with
 | zero => exact absurd h (by simp [ae.f])
 | succ k =>
 simp only [ae.f] at h
 have hu37 := Tryz.underlying37
 have cU := Aside0.mk hr0_2
 have bZ := Aside0.mk hc0_2
 clear hr0_2 hc0_2
 have cP := Aside0.mk hr0_3
 have cn := Aside0.mk hc0_3
 clear hr0_3 hc0_3
 have HR1_2 := Aside0.mk hr1_2
 have HC1_2 := Aside0.mk hc1_2
 clear hr1_2 hc1_2
 have HR1_3 := Aside0.mk hr1_3
 have HC1_3 := Aside0.mk hc1_3
 clear hr1_3 hc1_3
 have HB := Aside0.mk (Below.refl w.heap.size w)
 have H : (if a0_0 = a1_0 then (if a0_1.toList = a1_1.toList then ((au.f k ab cg).bind fun t105 => (if t105 = true then (ae.j0 k ((aa.length : Int) != (bs.length : Int)) a0_0 a0_1 ab aa a1_0 a1_1 cg bs) else (ae.j0 k true a0_0 a0_1 ab aa a1_0 a1_1 cg bs))) else (ae.j0 k true a0_0 a0_1 ab aa a1_0 a1_1 cg bs)) else (ae.j0 k true a0_0 a0_1 ab aa a1_0 a1_1 cg bs)) = some r := h
 clear h
 have HC3 := Aside0.mk H
 clear H
 go_enter Tryz.func20, Tryz.ntmps20
 go_upto_region 1 with (first | ((with_reducible refine gate_dst (N := 2) rfl ?_); (try (refine gate_guard (by rfl) ?_; dsimp only)); refine box_event ?hg (N := 2) ?hd (cs := #[.int .i64 a0_0, .string a0_1, .slice A0_2 ab.length c0_2, .slice A0_3 aa.length c0_3]) (t := 37) ?hr ?_; (case hd => rfl); (case hg => rfl); (case hr => exact p9z); intro cz hg w4 hbox hb; have z_ := asi4 (below_step p0z hb) (hbox) ((p21z : w.heap.size ≤ cz)) ((p21z : w.heap.size ≤ cz)); clear HB; obtain ⟨HB, bD, GW103, iQ⟩ := z_; clear hb hbox hg) | ((with_reducible refine gate_dst (N := 3) rfl ?_); (try (refine gate_guard (by rfl) ?_; dsimp only)); refine box_event ?hg (N := 3) ?hd (cs := #[.int .i64 a1_0, .string a1_1, .slice A1_2 cg.length c1_2, .slice A1_3 bs.length c1_3]) (t := 37) ?hr ?_; (case hd => rfl); (case hg => rfl); (case hr => exact p9z); intro db hg w5 hbox hb; have z_ := asi7 (blk_below (g := cz) (o := .cells #[.int .i64 a0_0, .string a0_1, .slice A0_2 ab.length c0_2, .slice A0_3 aa.length c0_3] 37 (0, 0)) p31z hb) (below_step p86z hb) (hbox) ((by rw [hg]; exact (below_size p86z) : w.heap.size ≤ db)) ((by rw [hg]; exact (below_size p86z) : w.heap.size ≤ db)) ((by rw [hg]; exact Nat.ne_of_lt (blk_lt (g := cz) (o := .cells #[.int .i64 a0_0, .string a0_1, .slice A0_2 ab.length c0_2, .slice A0_3 aa.length c0_3] 37 (0, 0)) p31z) : cz ≠ db)) ((by rw [hg]; exact Nat.ne_of_gt (blk_lt (g := cz) (o := .cells #[.int .i64 a0_0, .string a0_1, .slice A0_2 ab.length c0_2, .slice A0_3 aa.length c0_3] 37 (0, 0)) p31z) : db ≠ cz)); clear bD HB; obtain ⟨bD, HB, bT, GW104, GE104, NB103_104, NB104_103⟩ := z_; clear hb hbox hg))
 (try simp only [Act.put, List.setIfInBounds_toArray, List.set_cons_zero, List.set_cons_succ])
 go_cut [34] (fun v34 wc => ∃ (kq : Nat) (iR : Bool), v34 = .bool iR ∧ Aside0 (ae.j0 kq iR a0_0 a0_1 ab aa a1_0 a1_1 cg bs = some r) ∧ Aside0 (kq ≤ k) ∧ Aside0 (wc.heap[cz]? = some (.cells #[.int .i64 a0_0, .string a0_1, (.slice A0_2 ab.length c0_2), (.slice A0_3 aa.length c0_3)] 37 (0, 0))) ∧ Aside0 (wc.heap[db]? = some (.cells #[.int .i64 a1_0, .string a1_1, (.slice A1_2 cg.length c1_2), (.slice A1_3 bs.length c1_3)] 37 (0, 0))) ∧ Aside0 (Below w.heap.size w wc))
 case first =>
  have H := HC3.out
  clear HC3
  by_cases c6 : a0_0 = a1_0
  case neg =>
   rw [if_neg c6] at H
   have df : (a0_0 == a1_0) = false := beq_eq_false_iff_ne.mpr c6
   have i5 : (a0_0 != a1_0) = true := bne_iff_ne.mpr c6
   (first | rw [df] | (simp only [i64_w, i32_w]; rw [df]) | skip)
   have H' := Aside0.mk H
   clear H
   have hnb19 := NB103_104.out
   have hnc19 := NB104_103.out
   obtain ⟨hcz20_0, hcz20_1, hcz20_2, hcz20_3, hfz20_0, hfz20_1, hfz20_2, hfz20_3⟩ := cells4 bD.out
   obtain ⟨hcz21_0, hcz21_1, hcz21_2, hcz21_3, hfz21_0, hfz21_1, hfz21_2, hfz21_3⟩ := cells4 bT.out
   go_wp2
   go_meet
   case rel => exact ⟨_, (true), p5z, H', ⟨p81z⟩, ⟨p31z⟩, ⟨p47z⟩, ⟨p19z⟩⟩
  rw [if_pos c6] at H
  have df : (a0_0 == a1_0) = true := beq_iff_eq.mpr c6
  have i5 : (a0_0 != a1_0) = false := bne_eq_false_iff_eq.mpr c6
  clear c6
  (first | rw [df] | (simp only [i64_w, i32_w]; rw [df]) | skip)
  by_cases c7 : a0_1.toList = a1_1.toList
  case neg =>
   rw [if_neg c7] at H
   have fm : (a0_1.toList == a1_1.toList) = false := beq_eq_false_iff_ne.mpr c7
   have c7b1 : (a0_1.toList != a1_1.toList) = true := bne_iff_ne.mpr c7
   have H' := Aside0.mk H
   clear H
   have hnb16 := NB103_104.out
   have hnc16 := NB104_103.out
   obtain ⟨hcz17_0, hcz17_1, hcz17_2, hcz17_3, hfz17_0, hfz17_1, hfz17_2, hfz17_3⟩ := cells4 bD.out
   obtain ⟨hcz18_0, hcz18_1, hcz18_2, hcz18_3, hfz18_0, hfz18_1, hfz18_2, hfz18_3⟩ := cells4 bT.out
   go_wp2
   go_meet
   case rel => exact ⟨_, (true), p5z, H', ⟨p81z⟩, ⟨p31z⟩, ⟨p47z⟩, ⟨p19z⟩⟩
  rw [if_pos c7] at H
  have fm : (a0_1.toList == a1_1.toList) = true := beq_iff_eq.mpr c7
  have c7b1 : (a0_1.toList != a1_1.toList) = false := bne_eq_false_iff_eq.mpr c7
  clear c7
  replace H := Option.bind_eq_some_iff.mp H
  obtain ⟨t105, A80, H⟩ := H
  replace H : (if t105 = true then (ae.j0 k ((aa.length : Int) != (bs.length : Int)) a0_0 a0_1 ab aa a1_0 a1_1 cg bs) else (ae.j0 k true a0_0 a0_1 ab aa a1_0 a1_1 cg bs)) = some r := H
  have A8 := Aside0.mk A80
  clear A80
  by_cases c9 : t105 = true
  case neg =>
   replace c9 := Bool.eq_false_iff.mpr c9
   subst c9
   have H1 : (ae.j0 k true a0_0 a0_1 ab aa a1_0 a1_1 cg bs) = some r := p39z
   clear H
   have H := H1
   clear H1
   have H' := Aside0.mk H
   clear H
   have hnb13 := NB103_104.out
   have hnc13 := NB104_103.out
   obtain ⟨hcz14_0, hcz14_1, hcz14_2, hcz14_3, hfz14_0, hfz14_1, hfz14_2, hfz14_3⟩ := cells4 bD.out
   obtain ⟨hcz15_0, hcz15_1, hcz15_2, hcz15_3, hfz15_0, hfz15_1, hfz15_2, hfz15_3⟩ := cells4 bT.out
   go_wp2_with (first | (go_at_call 47; (with_reducible refine (au.calls k _ _ ab _ _ cg false _ ?side1 ?side2 ?side3 ?side4 A8.out).mono ?_); (case side1 => exact p8z); (case side2 => exact bZ.out); (case side3 => exact p121z); (case side4 => exact HC1_2.out); rintro e w' ⟨rfl, ⟨nd, rfl⟩⟩))
   go_meet
   case rel => exact ⟨_, (true), p5z, H', ⟨p81z⟩, ⟨p31z⟩, ⟨p47z⟩, ⟨p19z⟩⟩
  subst c9
  have H1 : (ae.j0 k ((aa.length : Int) != (bs.length : Int)) a0_0 a0_1 ab aa a1_0 a1_1 cg bs) = some r := p72z
  clear H
  have H := H1
  clear H1
  have H' := Aside0.mk H
  clear H
  have hnb10 := NB103_104.out
  have hnc10 := NB104_103.out
  obtain ⟨hcz11_0, hcz11_1, hcz11_2, hcz11_3, hfz11_0, hfz11_1, hfz11_2, hfz11_3⟩ := cells4 bD.out
  obtain ⟨hcz12_0, hcz12_1, hcz12_2, hcz12_3, hfz12_0, hfz12_1, hfz12_2, hfz12_3⟩ := cells4 bT.out
  go_wp2_with (first | (go_at_call 47; (with_reducible refine (au.calls k _ _ ab _ _ cg true _ ?side1 ?side2 ?side3 ?side4 A8.out).mono ?_); (case side1 => exact p8z); (case side2 => exact bZ.out); (case side3 => exact p121z); (case side4 => exact HC1_2.out); rintro e w' ⟨rfl, ⟨nd, rfl⟩⟩))
  go_meet
  case rel => exact ⟨_, (((aa.length : Int) != (bs.length : Int))), p5z, H', ⟨p81z⟩, ⟨p31z⟩, ⟨p47z⟩, ⟨p19z⟩⟩
 case rest =>
  clear HC3
  obtain ⟨kq, iR, rfl, HA, HJ2, bD, bT, HB⟩ := hcut
  cases kq with
  | zero => exact absurd HA.out (by simp [ae.j0])
  | succ kj2 =>
   have H := HA.out
   clear HA
   simp only [ae.j0] at H
   by_cases c22 : iR = true
   case pos =>
    subst c22
    have H1 : (some false) = some r := p72z
    clear H
    have H := H1
    clear H1
    obtain rfl := Option.some.inj H
    go_wp2
    go_ret
    exact ⟨p7z, p19z⟩
   replace c22 := Bool.eq_false_iff.mpr c22
   subst c22
   have H1 : (ae.l0 kj2 0 a0_0 a0_1 ab aa a1_0 a1_1 cg bs) = some r := p39z
   clear H
   have H := H1
   clear H1
   have H' := Aside0.mk H
   clear H
   go_wp2
   go_loopg [5] kj2 (fun kq v5 w' => ∃ (aM : Int), v5 = .int .i64 aM ∧ Aside0 (ae.l0 kq aM a0_0 a0_1 ab aa a1_0 a1_1 cg bs = some r) ∧ Aside0 (kq ≤ kj2) ∧ Aside0 (w'.heap[cz]? = some (.cells #[.int .i64 a0_0, .string a0_1, (.slice A0_2 ab.length c0_2), (.slice A0_3 aa.length c0_3)] 37 (0, 0))) ∧ Aside0 (w'.heap[db]? = some (.cells #[.int .i64 a1_0, .string a1_1, (.slice A1_2 cg.length c1_2), (.slice A1_3 bs.length c1_3)] 37 (0, 0))) ∧ Aside0 (Below w.heap.size w w'))
   case atStart => exact ⟨(0), p5z, H', ⟨Nat.le_refl _⟩, ⟨p31z⟩, ⟨p47z⟩, ⟨p19z⟩⟩
   case round =>
    clear H'
    try clear c22
    obtain ⟨aM, rfl, HA, HK2, bD, bT, HB⟩ := hrel
    cases gk with
    | zero => exact absurd HA.out (by simp [ae.l0])
    | succ k2 =>
     have H := HA.out
     clear HA
     simp only [ae.l0] at H
     by_cases c23 : aM < (aa.length : Int)
     case neg =>
      rw [if_neg c23] at H
      have jB : decide (aM < (aa.length : Int)) = false := decide_eq_false c23
      clear c23
      obtain rfl := Option.some.inj H
      have hnb36 := NB103_104.out
      have hnc36 := NB104_103.out
      obtain ⟨hcz37_0, hcz37_1, hcz37_2, hcz37_3, hfz37_0, hfz37_1, hfz37_2, hfz37_3⟩ := cells4 bD.out
      go_wp2
      go_ret
      exact ⟨p7z, p19z⟩
     rw [if_pos c23] at H
     have jB : decide (aM < (aa.length : Int)) = true := decide_eq_true c23
     clear c23
     by_cases c24 : 0 ≤ aM
     case neg =>
      rw [if_neg c24] at H
      exact absurd H (by simp)
     rw [if_pos c24] at H
     have ec : decide (0 ≤ aM) = true := decide_eq_true c24
     clear c24
     by_cases c25 : aM < (bs.length : Int)
     case neg =>
      rw [if_neg c25] at H
      exact absurd H (by simp)
     rw [if_pos c25] at H
     have c25b0 : decide (aM < (bs.length : Int)) = true := decide_eq_true c25
     clear c25
     replace H := Option.bind_eq_some_iff.mp H
     obtain ⟨f9, A260, H⟩ := H
     replace H : (if f9 = true then (ae.l0 k2 (wrap64 (aM + 1)) a0_0 a0_1 ab aa a1_0 a1_1 cg bs) else (some false)) = some r := H
     have A26 := Aside0.mk A260
     clear A260
     by_cases c27 : f9 = true
     case neg =>
      replace c27 := Bool.eq_false_iff.mpr c27
      subst c27
      have H1 : (some false) = some r := p39z
      clear H
      have H := H1
      clear H1
      obtain rfl := Option.some.inj H
      have hnb32 := NB103_104.out
      have hnc32 := NB104_103.out
      obtain ⟨hcz33_0, hcz33_1, hcz33_2, hcz33_3, hfz33_0, hfz33_1, hfz33_2, hfz33_3⟩ := cells4 bD.out
      try go_wp2
      have n0_ := Aside0.mk (blk_drew bD.out)
      have n1_ := Aside0.mk (blk_drew bT.out)
      have n2_ := Aside0.mk (below_drew1 HB.out)
      clear bD
      clear bT
      clear HB
      have bD := n0_
      have bT := n1_
      have HB := n2_
      clear n0_ n1_ n2_
      have p106 : 0 ≤ (aM : Int) := of_decide_eq_true p4z
      have q106 : aM < (aa.length : Int) := of_decide_eq_true p4z
      obtain ⟨ad106, A106_2, c106_2, A106_3, c106_3, e106, hx106_0, hx106_1, hx106_2, hx106_3, hl106_2, hi106_2, hl106_3, hi106_3⟩ := at_T37 cP.out aM p106 q106
      have hw106_3 := hx106_3
      have hw106_2 := hx106_2
      have hw106_1 := hx106_1
      have hw106_0 := hx106_0
      cases e106
      replace hx106_0 := (HB.out.cell (World.block_lt_of_cell? w _ hx106_0)).trans hx106_0
      replace hx106_1 := (HB.out.cell (World.block_lt_of_cell? w _ hx106_1)).trans hx106_1
      replace hx106_2 := (HB.out.cell (World.block_lt_of_cell? w _ hx106_2)).trans hx106_2
      replace hx106_3 := (HB.out.cell (World.block_lt_of_cell? w _ hx106_3)).trans hx106_3
      have eT := Aside0.mk hi106_2
      have fS := Aside0.mk hl106_2
      clear hi106_2 hl106_2
      have eU := Aside0.mk hi106_3
      have fT := Aside0.mk hl106_3
      clear hi106_3 hl106_3
      replace p106 := eq_true p106
      replace q106 := eq_true q106
      have p107 : 0 ≤ (aM : Int) := of_decide_eq_true p4z
      have q107 : aM < (bs.length : Int) := of_decide_eq_true p4z
      obtain ⟨ad107, A107_2, c107_2, A107_3, c107_3, e107, hx107_0, hx107_1, hx107_2, hx107_3, hl107_2, hi107_2, hl107_3, hi107_3⟩ := at_T37 HR1_3.out aM p107 q107
      have hw107_3 := hx107_3
      have hw107_2 := hx107_2
      have hw107_1 := hx107_1
      have hw107_0 := hx107_0
      cases e107
      replace hx107_0 := (HB.out.cell (World.block_lt_of_cell? w _ hx107_0)).trans hx107_0
      replace hx107_1 := (HB.out.cell (World.block_lt_of_cell? w _ hx107_1)).trans hx107_1
      replace hx107_2 := (HB.out.cell (World.block_lt_of_cell? w _ hx107_2)).trans hx107_2
      replace hx107_3 := (HB.out.cell (World.block_lt_of_cell? w _ hx107_3)).trans hx107_3
      have eV := Aside0.mk hi107_2
      have fU := Aside0.mk hl107_2
      clear hi107_2 hl107_2
      have eX := Aside0.mk hi107_3
      have fV := Aside0.mk hl107_3
      clear hi107_3 hl107_3
      replace p107 := eq_true p107
      replace q107 := eq_true q107
      refine start_ (n := 12) (S := fun w' => w'.cell? ⟨cz, 0, none⟩ = some (.int .i64 a0_0) ∧ w'.cell? ⟨cz, 1, none⟩ = some (.string a0_1) ∧ w'.cell? ⟨cz, 2, none⟩ = some (.slice A0_2 ab.length c0_2) ∧ w'.cell? ⟨cz, 3, none⟩ = some (.slice (some ad106) aa.length c0_3) ∧ w'.cell? ⟨db, 0, none⟩ = some (.int .i64 a1_0) ∧ w'.cell? ⟨db, 1, none⟩ = some (.string a1_1) ∧ w'.cell? ⟨db, 2, none⟩ = some (.slice A1_2 cg.length c1_2) ∧ w'.cell? ⟨db, 3, none⟩ = some (.slice (some ad107) bs.length c1_3) ∧ w'.cell? (ad106.add ((aM).toNat * 4)) = some (.int .i64 ((rd_T37 aa aM).f0)) ∧ w'.cell? ⟨(ad106.add ((aM).toNat * 4)).block, (ad106.add ((aM).toNat * 4)).off + 1, none⟩ = some (.string ((rd_T37 aa aM).f1)) ∧ w'.cell? ⟨(ad106.add ((aM).toNat * 4)).block, (ad106.add ((aM).toNat * 4)).off + 2, none⟩ = some (.slice A106_2 ((rd_T37 aa aM).f2).length c106_2) ∧ w'.cell? ⟨(ad106.add ((aM).toNat * 4)).block, (ad106.add ((aM).toNat * 4)).off + 3, none⟩ = some (.slice A106_3 ((rd_T37 aa aM).f3).length c106_3) ∧ w'.cell? (ad107.add ((aM).toNat * 4)) = some (.int .i64 ((rd_T37 bs aM).f0)) ∧ w'.cell? ⟨(ad107.add ((aM).toNat * 4)).block, (ad107.add ((aM).toNat * 4)).off + 1, none⟩ = some (.string ((rd_T37 bs aM).f1)) ∧ w'.cell? ⟨(ad107.add ((aM).toNat * 4)).block, (ad107.add ((aM).toNat * 4)).off + 2, none⟩ = some (.slice A107_2 ((rd_T37 bs aM).f2).length c107_2) ∧ w'.cell? ⟨(ad107.add ((aM).toNat * 4)).block, (ad107.add ((aM).toNat * 4)).off + 3, none⟩ = some (.slice A107_3 ((rd_T37 bs aM).f3).length c107_3)) (ds := []) (tf 0 12) p12z rfl rfl ⟨(blk_cell bD.out 0).trans rfl, (blk_cell bD.out 1).trans rfl, (blk_cell bD.out 2).trans rfl, (blk_cell bD.out 3).trans rfl, (blk_cell bT.out 0).trans rfl, (blk_cell bT.out 1).trans rfl, (blk_cell bT.out 2).trans rfl, (blk_cell bT.out 3).trans rfl, ((HB.out.cell (World.block_lt_of_cell? w _ hw106_0)).trans hw106_0), ((HB.out.cell (World.block_lt_of_cell? w _ hw106_1)).trans hw106_1), ((HB.out.cell (World.block_lt_of_cell? w _ hw106_2)).trans hw106_2), ((HB.out.cell (World.block_lt_of_cell? w _ hw106_3)).trans hw106_3), ((HB.out.cell (World.block_lt_of_cell? w _ hw107_0)).trans hw107_0), ((HB.out.cell (World.block_lt_of_cell? w _ hw107_1)).trans hw107_1), ((HB.out.cell (World.block_lt_of_cell? w _ hw107_2)).trans hw107_2), ((HB.out.cell (World.block_lt_of_cell? w _ hw107_3)).trans hw107_3)⟩ (fun hHeld => ?_); refine with_tabW ae.tab6 ae.bits6 (fun HT_ HW_ => ?_)
      generalize wr.drew = w34 at bD bT HB eT eU eV eX hx106_0 hx106_1 hx106_2 hx106_3 hx107_0 hx107_1 hx107_2 hx107_3 hHeld ⊢
      refine pzz 0 (some 42) (tf 1 11) ?_
      refine pzz 2 (some 44) (tfs true [1, 1, 1, 9]) ?_
      refine pzz 5 (some 47) (tfs true [1, 1, 1, 2, 1, 6]) ?_
      refine pzz 7 (some 49) (tfs true [1, 1, 1, 2, 1, 1, 1, 4]) ?_
      refine tzz 1 (some 43) (tfs true [3, 2, 1, 1, 1, 4]) ?_
      refine pzz 3 (some 45) (tfs true [4, 1, 1, 1, 1, 4]) ?_
      refine tzz 4 (some 46) (tfs true [6, 1, 1, 4]) ?_
      refine tzz 6 (some 48) (tf 8 4) ?_
      refine pzz 8 (some 50) (tf 9 3) ?_
      refine tzz 9 (some 51) (tf 10 2) ?_
      refine ozz 10 (some 52) (tf 11 1) #[.agg #[.int .i64 ((rd_T37 aa aM).f0), .string ((rd_T37 aa aM).f1), .slice A106_2 ((rd_T37 aa aM).f2).length c106_2, .slice A106_3 ((rd_T37 aa aM).f3).length c106_3], .agg #[.int .i64 ((rd_T37 bs aM).f0), .string ((rd_T37 bs aM).f1), .slice A107_2 ((rd_T37 bs aM).f2).length c107_2, .slice A107_3 ((rd_T37 bs aM).f3).length c107_3]] Tryz.func20 (fun K hK => ?_)
      with_reducible refine (ih k2 (by have := HJ2.out; have := HK2.out; omega) ((rd_T37 aa aM).f0) ((rd_T37 aa aM).f1) _ _ ((rd_T37 aa aM).f2) _ _ ((rd_T37 aa aM).f3) ((rd_T37 bs aM).f0) ((rd_T37 bs aM).f1) _ _ ((rd_T37 bs aM).f2) _ _ ((rd_T37 bs aM).f3) false _ ?side1 ?side2 ?side3 ?side4 ?side5 ?side6 ?side7 ?side8 A26.out).mono ?_
      (case side1 => exact p115z)
      (case side2 => exact fS.out)
      (case side3 => exact p116z)
      (case side4 => exact fT.out)
      (case side5 => exact p117z)
      (case side6 => exact fU.out)
      (case side7 => exact p118z)
      (case side8 => exact fV.out)
      rintro e w35 ⟨rfl, hb⟩
      refine ⟨_, rfl, ?_⟩
      have n0_ := Aside0.mk (blk_below (g := cz) (o := .cells #[.int .i64 a0_0, .string a0_1, .slice A0_2 ab.length c0_2, .slice (some ad106) aa.length c0_3] 37 (0, 0)) p31z hb)
      have n1_ := Aside0.mk (blk_below (g := db) (o := .cells #[.int .i64 a1_0, .string a1_1, .slice A1_2 cg.length c1_2, .slice (some ad107) bs.length c1_3] 37 (0, 0)) p47z hb)
      have n2_ := Aside0.mk (below_step p19z hb)
      clear bD
      clear bT
      clear HB
      have bD := n0_
      have bT := n1_
      have HB := n2_
      clear n0_ n1_ n2_
      (try clear hb)
      (try clear hb2)
      (try clear hk)
      (try clear hi)
      refine hK.out _ _ ⟨(blk_cell bD.out 0).trans rfl, (blk_cell bD.out 1).trans rfl, (blk_cell bD.out 2).trans rfl, (blk_cell bD.out 3).trans rfl, (blk_cell bT.out 0).trans rfl, (blk_cell bT.out 1).trans rfl, (blk_cell bT.out 2).trans rfl, (blk_cell bT.out 3).trans rfl, ((HB.out.cell (World.block_lt_of_cell? w _ hw106_0)).trans hw106_0), ((HB.out.cell (World.block_lt_of_cell? w _ hw106_1)).trans hw106_1), ((HB.out.cell (World.block_lt_of_cell? w _ hw106_2)).trans hw106_2), ((HB.out.cell (World.block_lt_of_cell? w _ hw106_3)).trans hw106_3), ((HB.out.cell (World.block_lt_of_cell? w _ hw107_0)).trans hw107_0), ((HB.out.cell (World.block_lt_of_cell? w _ hw107_1)).trans hw107_1), ((HB.out.cell (World.block_lt_of_cell? w _ hw107_2)).trans hw107_2), ((HB.out.cell (World.block_lt_of_cell? w _ hw107_3)).trans hw107_3)⟩ (fun hHeld => ?_)
      clear hK K
      refine nzz (some 52) ?_
      refine pzz 11 (some 53) (tf 12 0) ?_
      refine done_ (done_of HT_.out p12z) ?_
      try go_wp2
      go_ret
      exact ⟨p7z, p19z⟩
     subst c27
     have H1 : (ae.l0 k2 (wrap64 (aM + 1)) a0_0 a0_1 ab aa a1_0 a1_1 cg bs) = some r := p72z
     clear H
     have H := H1
     clear H1
     have H' := Aside0.mk H
     clear H
     have hnb28 := NB103_104.out
     have hnc28 := NB104_103.out
     obtain ⟨hcz29_0, hcz29_1, hcz29_2, hcz29_3, hfz29_0, hfz29_1, hfz29_2, hfz29_3⟩ := cells4 bD.out
     try go_wp2
     have n0_ := Aside0.mk (blk_drew bD.out)
     have n1_ := Aside0.mk (blk_drew bT.out)
     have n2_ := Aside0.mk (below_drew1 HB.out)
     clear bD
     clear bT
     clear HB
     have bD := n0_
     have bT := n1_
     have HB := n2_
     clear n0_ n1_ n2_
     have p106 : 0 ≤ (aM : Int) := of_decide_eq_true p4z
     have q106 : aM < (aa.length : Int) := of_decide_eq_true p4z
     obtain ⟨ad106, A106_2, c106_2, A106_3, c106_3, e106, hx106_0, hx106_1, hx106_2, hx106_3, hl106_2, hi106_2, hl106_3, hi106_3⟩ := at_T37 cP.out aM p106 q106
     have hw106_3 := hx106_3
     have hw106_2 := hx106_2
     have hw106_1 := hx106_1
     have hw106_0 := hx106_0
     cases e106
     replace hx106_0 := (HB.out.cell (World.block_lt_of_cell? w _ hx106_0)).trans hx106_0
     replace hx106_1 := (HB.out.cell (World.block_lt_of_cell? w _ hx106_1)).trans hx106_1
     replace hx106_2 := (HB.out.cell (World.block_lt_of_cell? w _ hx106_2)).trans hx106_2
     replace hx106_3 := (HB.out.cell (World.block_lt_of_cell? w _ hx106_3)).trans hx106_3
     have eT := Aside0.mk hi106_2
     have fS := Aside0.mk hl106_2
     clear hi106_2 hl106_2
     have eU := Aside0.mk hi106_3
     have fT := Aside0.mk hl106_3
     clear hi106_3 hl106_3
     replace p106 := eq_true p106
     replace q106 := eq_true q106
     have p107 : 0 ≤ (aM : Int) := of_decide_eq_true p4z
     have q107 : aM < (bs.length : Int) := of_decide_eq_true p4z
     obtain ⟨ad107, A107_2, c107_2, A107_3, c107_3, e107, hx107_0, hx107_1, hx107_2, hx107_3, hl107_2, hi107_2, hl107_3, hi107_3⟩ := at_T37 HR1_3.out aM p107 q107
     have hw107_3 := hx107_3
     have hw107_2 := hx107_2
     have hw107_1 := hx107_1
     have hw107_0 := hx107_0
     cases e107
     replace hx107_0 := (HB.out.cell (World.block_lt_of_cell? w _ hx107_0)).trans hx107_0
     replace hx107_1 := (HB.out.cell (World.block_lt_of_cell? w _ hx107_1)).trans hx107_1
     replace hx107_2 := (HB.out.cell (World.block_lt_of_cell? w _ hx107_2)).trans hx107_2
     replace hx107_3 := (HB.out.cell (World.block_lt_of_cell? w _ hx107_3)).trans hx107_3
     have eV := Aside0.mk hi107_2
     have fU := Aside0.mk hl107_2
     clear hi107_2 hl107_2
     have eX := Aside0.mk hi107_3
     have fV := Aside0.mk hl107_3
     clear hi107_3 hl107_3
     replace p107 := eq_true p107
     replace q107 := eq_true q107
     refine start_ (n := 12) (S := fun w' => w'.cell? ⟨cz, 0, none⟩ = some (.int .i64 a0_0) ∧ w'.cell? ⟨cz, 1, none⟩ = some (.string a0_1) ∧ w'.cell? ⟨cz, 2, none⟩ = some (.slice A0_2 ab.length c0_2) ∧ w'.cell? ⟨cz, 3, none⟩ = some (.slice (some ad106) aa.length c0_3) ∧ w'.cell? ⟨db, 0, none⟩ = some (.int .i64 a1_0) ∧ w'.cell? ⟨db, 1, none⟩ = some (.string a1_1) ∧ w'.cell? ⟨db, 2, none⟩ = some (.slice A1_2 cg.length c1_2) ∧ w'.cell? ⟨db, 3, none⟩ = some (.slice (some ad107) bs.length c1_3) ∧ w'.cell? (ad106.add ((aM).toNat * 4)) = some (.int .i64 ((rd_T37 aa aM).f0)) ∧ w'.cell? ⟨(ad106.add ((aM).toNat * 4)).block, (ad106.add ((aM).toNat * 4)).off + 1, none⟩ = some (.string ((rd_T37 aa aM).f1)) ∧ w'.cell? ⟨(ad106.add ((aM).toNat * 4)).block, (ad106.add ((aM).toNat * 4)).off + 2, none⟩ = some (.slice A106_2 ((rd_T37 aa aM).f2).length c106_2) ∧ w'.cell? ⟨(ad106.add ((aM).toNat * 4)).block, (ad106.add ((aM).toNat * 4)).off + 3, none⟩ = some (.slice A106_3 ((rd_T37 aa aM).f3).length c106_3) ∧ w'.cell? (ad107.add ((aM).toNat * 4)) = some (.int .i64 ((rd_T37 bs aM).f0)) ∧ w'.cell? ⟨(ad107.add ((aM).toNat * 4)).block, (ad107.add ((aM).toNat * 4)).off + 1, none⟩ = some (.string ((rd_T37 bs aM).f1)) ∧ w'.cell? ⟨(ad107.add ((aM).toNat * 4)).block, (ad107.add ((aM).toNat * 4)).off + 2, none⟩ = some (.slice A107_2 ((rd_T37 bs aM).f2).length c107_2) ∧ w'.cell? ⟨(ad107.add ((aM).toNat * 4)).block, (ad107.add ((aM).toNat * 4)).off + 3, none⟩ = some (.slice A107_3 ((rd_T37 bs aM).f3).length c107_3)) (ds := []) (tf 0 12) p12z rfl rfl ⟨(blk_cell bD.out 0).trans rfl, (blk_cell bD.out 1).trans rfl, (blk_cell bD.out 2).trans rfl, (blk_cell bD.out 3).trans rfl, (blk_cell bT.out 0).trans rfl, (blk_cell bT.out 1).trans rfl, (blk_cell bT.out 2).trans rfl, (blk_cell bT.out 3).trans rfl, ((HB.out.cell (World.block_lt_of_cell? w _ hw106_0)).trans hw106_0), ((HB.out.cell (World.block_lt_of_cell? w _ hw106_1)).trans hw106_1), ((HB.out.cell (World.block_lt_of_cell? w _ hw106_2)).trans hw106_2), ((HB.out.cell (World.block_lt_of_cell? w _ hw106_3)).trans hw106_3), ((HB.out.cell (World.block_lt_of_cell? w _ hw107_0)).trans hw107_0), ((HB.out.cell (World.block_lt_of_cell? w _ hw107_1)).trans hw107_1), ((HB.out.cell (World.block_lt_of_cell? w _ hw107_2)).trans hw107_2), ((HB.out.cell (World.block_lt_of_cell? w _ hw107_3)).trans hw107_3)⟩ (fun hHeld => ?_); refine with_tabW ae.tab6 ae.bits6 (fun HT_ HW_ => ?_)
     generalize wr.drew = w30 at bD bT HB eT eU eV eX hx106_0 hx106_1 hx106_2 hx106_3 hx107_0 hx107_1 hx107_2 hx107_3 hHeld ⊢
     refine pzz 0 (some 42) (tf 1 11) ?_
     refine pzz 2 (some 44) (tfs true [1, 1, 1, 9]) ?_
     refine pzz 5 (some 47) (tfs true [1, 1, 1, 2, 1, 6]) ?_
     refine pzz 7 (some 49) (tfs true [1, 1, 1, 2, 1, 1, 1, 4]) ?_
     refine tzz 1 (some 43) (tfs true [3, 2, 1, 1, 1, 4]) ?_
     refine pzz 3 (some 45) (tfs true [4, 1, 1, 1, 1, 4]) ?_
     refine tzz 4 (some 46) (tfs true [6, 1, 1, 4]) ?_
     refine tzz 6 (some 48) (tf 8 4) ?_
     refine pzz 8 (some 50) (tf 9 3) ?_
     refine tzz 9 (some 51) (tf 10 2) ?_
     refine ozz 10 (some 52) (tf 11 1) #[.agg #[.int .i64 ((rd_T37 aa aM).f0), .string ((rd_T37 aa aM).f1), .slice A106_2 ((rd_T37 aa aM).f2).length c106_2, .slice A106_3 ((rd_T37 aa aM).f3).length c106_3], .agg #[.int .i64 ((rd_T37 bs aM).f0), .string ((rd_T37 bs aM).f1), .slice A107_2 ((rd_T37 bs aM).f2).length c107_2, .slice A107_3 ((rd_T37 bs aM).f3).length c107_3]] Tryz.func20 (fun K hK => ?_)
     with_reducible refine (ih k2 (by have := HJ2.out; have := HK2.out; omega) ((rd_T37 aa aM).f0) ((rd_T37 aa aM).f1) _ _ ((rd_T37 aa aM).f2) _ _ ((rd_T37 aa aM).f3) ((rd_T37 bs aM).f0) ((rd_T37 bs aM).f1) _ _ ((rd_T37 bs aM).f2) _ _ ((rd_T37 bs aM).f3) true _ ?side1 ?side2 ?side3 ?side4 ?side5 ?side6 ?side7 ?side8 A26.out).mono ?_
     (case side1 => exact p115z)
     (case side2 => exact fS.out)
     (case side3 => exact p116z)
     (case side4 => exact fT.out)
     (case side5 => exact p117z)
     (case side6 => exact fU.out)
     (case side7 => exact p118z)
     (case side8 => exact fV.out)
     rintro e w31 ⟨rfl, hb⟩
     refine ⟨_, rfl, ?_⟩
     have n0_ := Aside0.mk (blk_below (g := cz) (o := .cells #[.int .i64 a0_0, .string a0_1, .slice A0_2 ab.length c0_2, .slice (some ad106) aa.length c0_3] 37 (0, 0)) p31z hb)
     have n1_ := Aside0.mk (blk_below (g := db) (o := .cells #[.int .i64 a1_0, .string a1_1, .slice A1_2 cg.length c1_2, .slice (some ad107) bs.length c1_3] 37 (0, 0)) p47z hb)
     have n2_ := Aside0.mk (below_step p19z hb)
     clear bD
     clear bT
     clear HB
     have bD := n0_
     have bT := n1_
     have HB := n2_
     clear n0_ n1_ n2_
     (try clear hb)
     (try clear hb2)
     (try clear hk)
     (try clear hi)
     refine hK.out _ _ ⟨(blk_cell bD.out 0).trans rfl, (blk_cell bD.out 1).trans rfl, (blk_cell bD.out 2).trans rfl, (blk_cell bD.out 3).trans rfl, (blk_cell bT.out 0).trans rfl, (blk_cell bT.out 1).trans rfl, (blk_cell bT.out 2).trans rfl, (blk_cell bT.out 3).trans rfl, ((HB.out.cell (World.block_lt_of_cell? w _ hw106_0)).trans hw106_0), ((HB.out.cell (World.block_lt_of_cell? w _ hw106_1)).trans hw106_1), ((HB.out.cell (World.block_lt_of_cell? w _ hw106_2)).trans hw106_2), ((HB.out.cell (World.block_lt_of_cell? w _ hw106_3)).trans hw106_3), ((HB.out.cell (World.block_lt_of_cell? w _ hw107_0)).trans hw107_0), ((HB.out.cell (World.block_lt_of_cell? w _ hw107_1)).trans hw107_1), ((HB.out.cell (World.block_lt_of_cell? w _ hw107_2)).trans hw107_2), ((HB.out.cell (World.block_lt_of_cell? w _ hw107_3)).trans hw107_3)⟩ (fun hHeld => ?_)
     clear hK K
     refine nzz (some 52) ?_
     refine pzz 11 (some 53) (tf 12 0) ?_
     refine done_ (done_of HT_.out p12z) ?_
     try go_wp2
     go_roundg k2
     case measure => have := HJ2.out; have := HK2.out; omega
     case rel => exact ⟨(wrap64 (aM + 1)), p5z, H', ⟨by have := HJ2.out; have := HK2.out; omega⟩, ⟨p31z⟩, ⟨p47z⟩, ⟨p19z⟩⟩
end Go.Proofs.YtodnggilomanbaaGreatDoor.PAll
