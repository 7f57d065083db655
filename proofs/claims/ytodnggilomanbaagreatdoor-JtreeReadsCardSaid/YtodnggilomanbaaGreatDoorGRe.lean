-- Written by this repo's program wip/tools/pr.py (over the kit's print) out of the translation. Not trusted: Lean checks it.
import Derived.Test.YtodnggilomanbaaGreatDoorAp
import Derived.Test.YtodnggilomanbaaGreatDoorGRz
set_option maxHeartbeats 8000000
set_option maxRecDepth 100000
namespace Go.Proofs.YtodnggilomanbaaGreatDoor.PAll
open Go.Proofs.YtodnggilomanbaaGreatDoor.Hand
open Go.RowKit Go.Proofs.YtodnggilomanbaaGreatDoorW.PrintWords Go.Proofs.YtodnggilomanbaaGreatDoorW.PrintLast Go.Proofs.YtodnggilomanbaaGreatDoorW.PrintMore
attribute [local go_sem] max2_int min2_int max_two min_two max_three min_three max_four min_four   -- for this text's walks alone
set_option linter.unusedVariables false
set_option linter.unusedSimpArgs false
attribute [-simp] List.length_take List.length_drop ByteArray.size_extract

/-! ### signetryref14_Reader_word: function 80 -/
mutual
def signetryref14_Reader_word.l0 : Nat → ByteArray → Int → ByteArray → Int → Int → Int → Int → Option (ByteArray × Int × Int × Int × Int)
  | 0, _, _, _, _, _, _, _ => none
  | k + 1, x1, x4, ao, ap, aU, aV, aQ => if x4 < (x1.size : Int) then (signetryref14_Reader_word.j1 k x1 x4 (aQ == 0) ao ap aU aV aQ) else (signetryref14_Reader_word.j1 k x1 x4 false ao ap aU aV aQ)
def signetryref14_Reader_word.j1 : Nat → ByteArray → Int → Bool → ByteArray → Int → Int → Int → Int → Option (ByteArray × Int × Int × Int × Int)
  | 0, _, _, _, _, _, _, _, _ => none
  | k + 1, x1, x4, x15, ao, ap, aU, aV, aQ => if x15 = true then (if ap ≥ (ao.size : Int) then ((signetryref14_Reader_fail.f ao ap aU aV aQ ap 140).bind fun bm => (some (bm.1, bm.2.1, bm.2.2.1, bm.2.2.2.1, bm.2.2.2.2))) else (if 0 ≤ ap then (if ap < (ao.size : Int) then (if 0 ≤ x4 then (if x4 < (x1.size : Int) then (if (bt ao ap) = (bt x1 x4) then (signetryref14_Reader_word.l0 k x1 (wrap64 (x4 + 1)) ao (wrap64 (ap + 1)) aU aV aQ) else ((signetryref14_Reader_fail.f ao ap aU aV aQ ap 140).bind fun cZ => (some (cZ.1, cZ.2.1, cZ.2.2.1, cZ.2.2.2.1, cZ.2.2.2.2)))) else (none)) else (none)) else (none)) else (none))) else (some (ao, ap, aU, aV, aQ))
end
def signetryref14_Reader_word.f (k : Nat) (ag : ByteArray) (ae : Int) (aT : Int) (aX : Int) (aK : Int) (a1 : ByteArray) : Option (ByteArray × Int × Int × Int × Int) := signetryref14_Reader_word.l0 k a1 0 ag ae aT aX aK
theorem signetryref14_Reader_word.mono_l : ∀ k, (∀ y0 y1 y2 y3 y4 y5 y6, LeO (signetryref14_Reader_word.l0 k y0 y1 y2 y3 y4 y5 y6) (signetryref14_Reader_word.l0 (k + 1) y0 y1 y2 y3 y4 y5 y6)) ∧ (∀ y0 y1 y2 y3 y4 y5 y6 y7, LeO (signetryref14_Reader_word.j1 k y0 y1 y2 y3 y4 y5 y6 y7) (signetryref14_Reader_word.j1 (k + 1) y0 y1 y2 y3 y4 y5 y6 y7))
 | 0 => ⟨fun _ _ _ _ _ _ _ r h => by simp [signetryref14_Reader_word.l0] at h, fun _ _ _ _ _ _ _ _ r h => by simp [signetryref14_Reader_word.j1] at h⟩
 | k + 1 => by
  obtain ⟨ih0, ih1⟩ := signetryref14_Reader_word.mono_l k
  refine ⟨?_, ?_⟩
  ·intro y0 y1 y2 y3 y4 y5 y6
   unfold signetryref14_Reader_word.l0
   exact moz
  ·intro y0 y1 y2 y3 y4 y5 y6 y7
   unfold signetryref14_Reader_word.j1
   exact moz
theorem signetryref14_Reader_word.mono : ∀ a0 a1 a2 a3 a4 a5 k, LeO (signetryref14_Reader_word.f k a0 a1 a2 a3 a4 a5) (signetryref14_Reader_word.f (k + 1) a0 a1 a2 a3 a4 a5) := by
  intro a0 a1 a2 a3 a4 a5 k
  obtain ⟨ih0, ih1⟩ := signetryref14_Reader_word.mono_l k
  unfold signetryref14_Reader_word.f
  exact moz
theorem signetryref14_Reader_word.calls (k : Nat) (g : Nat) (ag : ByteArray) (ae : Int) (aT : Int) (aX : Int) (aK : Int) (a1 : ByteArray) (r1 : ByteArray) (r2 : Int) (r3 : Int) (r4 : Int) (r5 : Int) (w0 w : World) (hI : IsS95 w0 w g ag ae aT aX aK) (hB : Below w0.heap.size w0 w) (h : signetryref14_Reader_word.f k ag ae aT aX aK a1 = some (r1, r2, r3, r4, r5)) :
 Calls Tryz.prog 80 #[.pointer (some ⟨g, 0, none⟩), .string a1] w fun e w' => e = .returned (.tuple #[]) ∧ IsS95 w0 w' g r1 r2 r3 r4 r5 ∧ Below w0.heap.size w0 w' ∧ KeepBut w w' g none := by
 have HI0 := Aside0.mk hI
 have HK := Aside0.mk (KeepBut.refl w g none)
 have HL := Aside0.mk hB.size
 clear hI
 have HW0 := Aside0.mk hB.size
 have HB := Aside0.mk hB
 clear hB
 have H : (signetryref14_Reader_word.l0 k a1 0 ag ae aT aX aK) = some (r1, r2, r3, r4, r5) := h
 clear h
 have H' := Aside0.mk H
 clear H
 go_enter Tryz.func80, Tryz.ntmps80
 go_wp2
 repeat (go_quiet (fail); try go_wp2)
 go_loopg [4] k (fun kq v4 w' => ∃ (aG : Int) (ar : ByteArray) (aa : Int) (bE : Int) (bF : Int) (bx : Int), v4 = .int .i64 aG ∧ Aside0 (signetryref14_Reader_word.l0 kq a1 aG ar aa bE bF bx = some (r1, r2, r3, r4, r5)) ∧ Aside0 (kq ≤ k) ∧ Aside0 (IsS95 w0 w' g ar aa bE bF bx) ∧ Aside0 (KeepBut w w' g none) ∧ Aside0 (Below w0.heap.size w0 w'))
 case atStart => exact ⟨(0), (ag), (ae), (aT), (aX), (aK), p7z, H', ⟨Nat.le_refl _⟩, ⟨p1z⟩, ⟨p3z⟩, ⟨p2z⟩⟩
 case round =>
  clear H'
  try clear p2
  obtain ⟨aG, ar, aa, bE, bF, bx, rfl, HA, HK1, HI0, HK, HB⟩ := hrel
  cases gk with
  | zero => exact absurd HA.out (by simp [signetryref14_Reader_word.l0])
  | succ k1 =>
   have H := HA.out
   clear HA
   simp only [signetryref14_Reader_word.l0] at H
   have HC3 := Aside0.mk H
   clear H
   go_upto_region 1 with (fail)
   repeat (go_quiet (fail); go_upto_region 1 with (fail))
   go_cut [15] (fun v15 wc => ∃ (kq : Nat) (fh : Bool), v15 = .bool fh ∧ Aside0 (signetryref14_Reader_word.j1 kq a1 aG fh ar aa bE bF bx = some (r1, r2, r3, r4, r5)) ∧ Aside0 (kq ≤ k1) ∧ Aside0 (IsS95 w0 wc g ar aa bE bF bx) ∧ Aside0 (KeepBut w wc g none) ∧ Aside0 (Below w0.heap.size w0 wc))
   case first =>
    have H := HC3.out
    clear HC3
    by_cases c4 : aG < (a1.size : Int)
    case neg =>
     rw [if_neg c4] at H
     have bC : decide (aG < (a1.size : Int)) = false := decide_eq_false c4
     clear c4
     (first | rw [bC] | (simp only [i64_w, i32_w]; rw [bC]) | skip)
     have H' := Aside0.mk H
     clear H
     go_wp2
     repeat (go_quiet (fail); try go_wp2)
     go_meet
     case rel => exact ⟨_, (false), p7z, H', ⟨by have := HK1.out; first | omega | exact Nat.le_refl _⟩, ⟨p1z⟩, ⟨p3z⟩, ⟨p2z⟩⟩
    rw [if_pos c4] at H
    have bC : decide (aG < (a1.size : Int)) = true := decide_eq_true c4
    clear c4
    (first | rw [bC] | (simp only [i64_w, i32_w]; rw [bC]) | skip)
    have H' := Aside0.mk H
    clear H
    obtain ⟨HGz5, hgz5⟩ := HI0.out
    have hcz5_0 := cellS95_0 HGz5
    have hcz5_1 := cellS95_1 HGz5
    have hcz5_2 := cellS95_2 HGz5
    have hcz5_3 := cellS95_3 HGz5
    have hcz5_4 := cellS95_4 HGz5
    have hfz5_0 := blk_frozen HGz5 0
    have hfz5_1 := blk_frozen HGz5 1
    have hfz5_2 := blk_frozen HGz5 2
    have hfz5_3 := blk_frozen HGz5 3
    have hfz5_4 := blk_frozen HGz5 4
    clear HGz5 hgz5
    go_wp2
    repeat (go_quiet (fail); try go_wp2)
    go_meet
    case rel => exact ⟨_, ((bx == 0)), p7z, H', ⟨by have := HK1.out; first | omega | exact Nat.le_refl _⟩, ⟨p1z⟩, ⟨p3z⟩, ⟨p2z⟩⟩
   case rest =>
    clear HC3
    try clear p2
    try clear c4
    try clear bC
    try clear hcz5_0
    try clear hcz5_1
    try clear hcz5_2
    try clear hcz5_3
    try clear hcz5_4
    try clear hfz5_0
    try clear hfz5_1
    try clear hfz5_2
    try clear hfz5_3
    try clear hfz5_4
    try clear p2
    obtain ⟨kq, fh, rfl, HA, HJ2, HI0, HK, HB⟩ := hcut
    cases kq with
    | zero => exact absurd HA.out (by simp [signetryref14_Reader_word.j1])
    | succ kj2 =>
     have H := HA.out
     clear HA
     simp only [signetryref14_Reader_word.j1] at H
     by_cases c6 : fh = true
     case neg =>
      replace c6 := Bool.eq_false_iff.mpr c6
      subst c6
      have H1 : (some (ar, aa, bE, bF, bx)) = some (r1, r2, r3, r4, r5) := p27z
      clear H
      have H := H1
      clear H1
      simp only [Option.some.injEq, Prod.mk.injEq] at H
      obtain ⟨rfl, rfl, rfl, rfl, rfl⟩ := H
      go_wp2
      repeat (go_quiet (fail); try go_wp2)
      first | go_end0 | ((try simp only [Exit.inBlock, Exit.then]); refine bodyPost_ret (results_none rfl _ _ _) rfl ?_)
      exact ⟨p6z, p1z, p2z, p3z⟩

     subst c6
     have H1 : (if aa ≥ (ar.size : Int) then ((signetryref14_Reader_fail.f ar aa bE bF bx aa 140).bind fun bm => (some (bm.1, bm.2.1, bm.2.2.1, bm.2.2.2.1, bm.2.2.2.2))) else (if 0 ≤ aa then (if aa < (ar.size : Int) then (if 0 ≤ aG then (if aG < (a1.size : Int) then (if (bt ar aa) = (bt a1 aG) then (signetryref14_Reader_word.l0 kj2 a1 (wrap64 (aG + 1)) ar (wrap64 (aa + 1)) bE bF bx) else ((signetryref14_Reader_fail.f ar aa bE bF bx aa 140).bind fun cZ => (some (cZ.1, cZ.2.1, cZ.2.2.1, cZ.2.2.2.1, cZ.2.2.2.2)))) else (none)) else (none)) else (none)) else (none))) = some (r1, r2, r3, r4, r5) := p53z
     clear H
     have H := H1
     clear H1
     by_cases c7 : aa ≥ (ar.size : Int)
     case pos =>
      rw [if_pos c7] at H
      have dj : decide ((ar.size : Int) ≤ aa) = true := decide_eq_true c7
      clear c7
      replace H := Option.bind_eq_some_iff.mp H
      obtain ⟨⟨cn, cr, t203, t204, t205⟩, A80, H⟩ := H
      replace H : (some (cn, cr, t203, t204, t205)) = some (r1, r2, r3, r4, r5) := H
      have A8 := Aside0.mk A80
      clear A80
      simp only [Option.some.injEq, Prod.mk.injEq] at H
      obtain ⟨rfl, rfl, rfl, rfl, rfl⟩ := H
      obtain ⟨HGz9, hgz9⟩ := HI0.out
      have hcz9_0 := cellS95_0 HGz9
      have hcz9_1 := cellS95_1 HGz9
      have hcz9_2 := cellS95_2 HGz9
      have hcz9_3 := cellS95_3 HGz9
      have hcz9_4 := cellS95_4 HGz9
      have hfz9_0 := blk_frozen HGz9 0
      have hfz9_1 := blk_frozen HGz9 1
      have hfz9_2 := blk_frozen HGz9 2
      have hfz9_3 := blk_frozen HGz9 3
      have hfz9_4 := blk_frozen HGz9 4
      clear HGz9 hgz9
      go_wp2_with (first | (go_at_call 52; (with_reducible refine (signetryref14_Reader_fail.calls g ar aa bE bF bx aa 140 cn cr t203 t204 t205 w0 _ ?side1 ?side2 A8.out).mono ?_); (case side1 => exact p1z); (case side2 => exact p2z); rintro e w10 ⟨rfl, hi, hb, hk⟩; have z_ := asi3 (KeepBut.trans p3z hk (.inl rfl)) (hb) (hi); clear HK HB HI0; obtain ⟨HK, HB, HI0⟩ := z_; (try clear hb hk hi)))
      repeat (go_quiet (first | (go_at_call 52; (with_reducible refine (signetryref14_Reader_fail.calls g ar aa bE bF bx aa 140 cn cr t203 t204 t205 w0 _ ?side1 ?side2 A8.out).mono ?_); (case side1 => exact p1z); (case side2 => exact p2z); rintro e w10 ⟨rfl, hi, hb, hk⟩; have z_ := asi3 (KeepBut.trans p3z hk (.inl rfl)) (hb) (hi); clear HK HB HI0; obtain ⟨HK, HB, HI0⟩ := z_; (try clear hb hk hi))); try go_wp2_with (first | (go_at_call 52; (with_reducible refine (signetryref14_Reader_fail.calls g ar aa bE bF bx aa 140 cn cr t203 t204 t205 w0 _ ?side1 ?side2 A8.out).mono ?_); (case side1 => exact p1z); (case side2 => exact p2z); rintro e w10 ⟨rfl, hi, hb, hk⟩; have z_ := asi3 (KeepBut.trans p3z hk (.inl rfl)) (hb) (hi); clear HK HB HI0; obtain ⟨HK, HB, HI0⟩ := z_; (try clear hb hk hi))))
      first | go_end0 | ((try simp only [Exit.inBlock, Exit.then]); refine bodyPost_ret (results_none rfl _ _ _) rfl ?_)
      exact ⟨p6z, p1z, p2z, p3z⟩
     rw [if_neg c7] at H
     have dj : decide ((ar.size : Int) ≤ aa) = false := decide_eq_false c7
     clear c7
     by_cases c11 : 0 ≤ aa
     case neg =>
      rw [if_neg c11] at H
      exact absurd H (by simp)
     rw [if_pos c11] at H
     have cR : decide (0 ≤ aa) = true := decide_eq_true c11
     clear c11
     by_cases c12 : aa < (ar.size : Int)
     case neg =>
      rw [if_neg c12] at H
      exact absurd H (by simp)
     rw [if_pos c12] at H
     have cF : decide (aa < (ar.size : Int)) = true := decide_eq_true c12
     clear c12
     by_cases c14 : 0 ≤ aG
     case neg =>
      rw [if_neg c14] at H
      exact absurd H (by simp)
     rw [if_pos c14] at H
     have dV : decide (0 ≤ aG) = true := decide_eq_true c14
     clear c14
     by_cases c15 : aG < (a1.size : Int)
     case neg =>
      rw [if_neg c15] at H
      exact absurd H (by simp)
     rw [if_pos c15] at H
     have fc : decide (aG < (a1.size : Int)) = true := decide_eq_true c15
     clear c15
     by_cases c17 : (bt ar aa) = (bt a1 aG)
     case pos =>
      rw [if_pos c17] at H
      have fJ : ((bt ar aa) == (bt a1 aG)) = true := beq_iff_eq.mpr c17
      have c17b1 : ((bt ar aa) != (bt a1 aG)) = false := bne_eq_false_iff_eq.mpr c17
      clear c17
      have H' := Aside0.mk H
      clear H
      obtain ⟨HGz18, hgz18⟩ := HI0.out
      have hcz18_0 := cellS95_0 HGz18
      have hcz18_1 := cellS95_1 HGz18
      have hcz18_2 := cellS95_2 HGz18
      have hcz18_3 := cellS95_3 HGz18
      have hcz18_4 := cellS95_4 HGz18
      have hfz18_0 := blk_frozen HGz18 0
      have hfz18_1 := blk_frozen HGz18 1
      have hfz18_2 := blk_frozen HGz18 2
      have hfz18_3 := blk_frozen HGz18 3
      have hfz18_4 := blk_frozen HGz18 4
      clear HGz18 hgz18
      have p13 : 0 ≤ (aa : Int) := of_decide_eq_true p4z
      have q13 : aa < (ar.size : Int) := of_decide_eq_true p4z
      have hx13 := bt_at ar aa
      replace p13 := eq_true p13
      replace q13 := eq_true q13
      have p16 : 0 ≤ (aG : Int) := of_decide_eq_true p4z
      have q16 : aG < (a1.size : Int) := of_decide_eq_true p4z
      have hx16 := bt_at a1 aG
      replace p16 := eq_true p16
      replace q16 := eq_true q16
      go_wp2
      repeat (go_quiet (fail); try go_wp2)
      go_roundg kj2
      case measure => have := HK1.out; have := HJ2.out; omega
      case rel => exact ⟨(wrap64 (aG + 1)), (ar), (wrap64 (aa + 1)), (bE), (bF), (bx), p7z, H', ⟨by have := HK1.out; have := HJ2.out; omega⟩, ⟨p1z⟩, ⟨p3z⟩, ⟨p2z⟩⟩
     rw [if_neg c17] at H
     have fJ : ((bt ar aa) == (bt a1 aG)) = false := beq_eq_false_iff_ne.mpr c17
     have c17b1 : ((bt ar aa) != (bt a1 aG)) = true := bne_iff_ne.mpr c17
     replace H := Option.bind_eq_some_iff.mp H
     obtain ⟨⟨t206, t207, t208, dm, dn⟩, A190, H⟩ := H
     replace H : (some (t206, t207, t208, dm, dn)) = some (r1, r2, r3, r4, r5) := H
     have A19 := Aside0.mk A190
     clear A190
     simp only [Option.some.injEq, Prod.mk.injEq] at H
     obtain ⟨rfl, rfl, rfl, rfl, rfl⟩ := H
     obtain ⟨HGz20, hgz20⟩ := HI0.out
     have hcz20_0 := cellS95_0 HGz20
     have hcz20_1 := cellS95_1 HGz20
     have hcz20_2 := cellS95_2 HGz20
     have hcz20_3 := cellS95_3 HGz20
     have hcz20_4 := cellS95_4 HGz20
     have hfz20_0 := blk_frozen HGz20 0
     have hfz20_1 := blk_frozen HGz20 1
     have hfz20_2 := blk_frozen HGz20 2
     have hfz20_3 := blk_frozen HGz20 3
     have hfz20_4 := blk_frozen HGz20 4
     clear HGz20 hgz20
     have p13 : 0 ≤ (aa : Int) := of_decide_eq_true p4z
     have q13 : aa < (ar.size : Int) := of_decide_eq_true p4z
     have hx13 := bt_at ar aa
     replace p13 := eq_true p13
     replace q13 := eq_true q13
     have p16 : 0 ≤ (aG : Int) := of_decide_eq_true p4z
     have q16 : aG < (a1.size : Int) := of_decide_eq_true p4z
     have hx16 := bt_at a1 aG
     replace p16 := eq_true p16
     replace q16 := eq_true q16
     go_wp2_with (first | (go_at_call 52; (with_reducible refine (signetryref14_Reader_fail.calls g ar aa bE bF bx aa 140 t206 t207 t208 dm dn w0 _ ?side1 ?side2 A19.out).mono ?_); (case side1 => exact p1z); (case side2 => exact p2z); rintro e w21 ⟨rfl, hi, hb, hk⟩; have z_ := asi3 (KeepBut.trans p3z hk (.inl rfl)) (hb) (hi); clear HK HB HI0; obtain ⟨HK, HB, HI0⟩ := z_; (try clear hb hk hi)))
     repeat (go_quiet (first | (go_at_call 52; (with_reducible refine (signetryref14_Reader_fail.calls g ar aa bE bF bx aa 140 t206 t207 t208 dm dn w0 _ ?side1 ?side2 A19.out).mono ?_); (case side1 => exact p1z); (case side2 => exact p2z); rintro e w21 ⟨rfl, hi, hb, hk⟩; have z_ := asi3 (KeepBut.trans p3z hk (.inl rfl)) (hb) (hi); clear HK HB HI0; obtain ⟨HK, HB, HI0⟩ := z_; (try clear hb hk hi))); try go_wp2_with (first | (go_at_call 52; (with_reducible refine (signetryref14_Reader_fail.calls g ar aa bE bF bx aa 140 t206 t207 t208 dm dn w0 _ ?side1 ?side2 A19.out).mono ?_); (case side1 => exact p1z); (case side2 => exact p2z); rintro e w21 ⟨rfl, hi, hb, hk⟩; have z_ := asi3 (KeepBut.trans p3z hk (.inl rfl)) (hb) (hi); clear HK HB HI0; obtain ⟨HK, HB, HI0⟩ := z_; (try clear hb hk hi))))
     first | go_end0 | ((try simp only [Exit.inBlock, Exit.then]); refine bodyPost_ret (results_none rfl _ _ _) rfl ?_)
     exact ⟨p6z, p1z, p2z, p3z⟩
/-! ### signetryref14_digits: function 98 -/
def signetryref14_digits.l0 : Nat → ByteArray → Int → Int → Option (Int)
  | 0, _, _, _ => none
  | k + 1, x0, x1, x5 => if (wrap64 (x1 + x5)) < (x0.size : Int) then (if 0 ≤ (wrap64 (x1 + x5)) then (if (bt x0 (wrap64 (x1 + x5))) ≥ 48 then (if (bt x0 (wrap64 (x1 + x5))) ≤ 57 then (signetryref14_digits.l0 k x0 x1 (wrap64 (x5 + 1))) else (some x5)) else (some x5)) else (none)) else (some x5)
def signetryref14_digits.f (k : Nat) (a0 : ByteArray) (a1 : Int) : Option (Int) := signetryref14_digits.l0 k a0 a1 0
theorem signetryref14_digits.mono_l : ∀ k, (∀ y0 y1 y2, LeO (signetryref14_digits.l0 k y0 y1 y2) (signetryref14_digits.l0 (k + 1) y0 y1 y2))
 | 0 => fun _ _ _ r h => by simp [signetryref14_digits.l0] at h
 | k + 1 => by
  have ih0 := signetryref14_digits.mono_l k
  ·intro y0 y1 y2
   unfold signetryref14_digits.l0
   exact moz
theorem signetryref14_digits.mono : ∀ a0 a1 k, LeO (signetryref14_digits.f k a0 a1) (signetryref14_digits.f (k + 1) a0 a1) := by
  intro a0 a1 k
  have ih0 := signetryref14_digits.mono_l k
  unfold signetryref14_digits.f
  exact moz
theorem signetryref14_digits.calls (k : Nat) (a0 : ByteArray) (a1 : Int) (r : Int) (w : World) (h : signetryref14_digits.f k a0 a1 = some r) :
 Calls Tryz.prog 98 #[.string a0, .int .i64 a1] w fun e w' => e = .returned (.int .i64 r) ∧ Drawn0 w w' := by
 have H : (signetryref14_digits.l0 k a0 a1 0) = some r := h
 clear h
 have H' := Aside0.mk H
 clear H
 go_enter Tryz.func98, Tryz.ntmps98
 go_wp2
 go_loopg [5] k (fun kq v5 w' => ∃ (aI : Int), v5 = .int .i64 aI ∧ Aside0 (signetryref14_digits.l0 kq a0 a1 aI = some r) ∧ Aside0 (kq ≤ k) ∧ Drawn0 w w')
 case atStart => exact ⟨(0), p7z, H', ⟨Nat.le_refl _⟩, p9z⟩
 case round =>
  clear H'
  try clear p2
  obtain ⟨aI, rfl, HA, HK1, ⟨m1, rfl⟩⟩ := hrel
  cases gk with
  | zero => exact absurd HA.out (by simp [signetryref14_digits.l0])
  | succ k1 =>
   have H := HA.out
   clear HA
   simp only [signetryref14_digits.l0] at H
   by_cases c3 : (wrap64 (a1 + aI)) < (a0.size : Int)
   case neg =>
    rw [if_neg c3] at H
    have bQ : decide ((wrap64 (a1 + aI)) < (a0.size : Int)) = false := decide_eq_false c3
    clear c3
    obtain rfl := Option.some.inj H
    go_wp2
    go_ret
    exact ⟨p7z, p9z⟩

   rw [if_pos c3] at H
   have bQ : decide ((wrap64 (a1 + aI)) < (a0.size : Int)) = true := decide_eq_true c3
   clear c3
   obtain ⟨ji4, hji4⟩ : ∃ j_ : Int, (wrap64 (a1 + aI)) = j_ := ⟨_, rfl⟩
   replace H : (if 0 ≤ (ji4) then (if (bt a0 (ji4)) ≥ 48 then (if (bt a0 (ji4)) ≤ 57 then (signetryref14_digits.l0 k1 a0 a1 (wrap64 (aI + 1))) else (some aI)) else (some aI)) else (none)) = some r := by first | (rw [hji4] at H; exact H) | (simp only [hji4] at H ⊢; exact H)
   (try rw [hji4] at bQ)
   have hji4w : (IntKind.i64.wrap (a1 + aI)) = ji4 := (i64_w _).trans hji4
   by_cases c5 : 0 ≤ (ji4)
   case neg =>
    rw [if_neg c5] at H
    exact absurd H (by simp)
   rw [if_pos c5] at H
   have cH : decide (0 ≤ (ji4)) = true := decide_eq_true c5
   clear c5
   by_cases c7 : (bt a0 (ji4)) ≥ 48
   case neg =>
    rw [if_neg c7] at H
    have dj : decide (48 ≤ (bt a0 (ji4))) = false := decide_eq_false c7
    clear c7
    obtain rfl := Option.some.inj H
    have p6 : 0 ≤ ((ji4) : Int) := of_decide_eq_true p4z
    have q6 : (ji4) < (a0.size : Int) := of_decide_eq_true p4z
    have hx6 := bt_at a0 (ji4)
    replace p6 := eq_true p6
    replace q6 := eq_true q6
    go_wp2
    go_ret
    exact ⟨by first | rfl | (simp; done) | (simp only [← hji4] <;> (first | rfl | simp)) | (simp [*]; done), p9z⟩
   rw [if_pos c7] at H
   have dj : decide (48 ≤ (bt a0 (ji4))) = true := decide_eq_true c7
   clear c7
   by_cases c9 : (bt a0 (ji4)) ≤ 57
   case neg =>
    rw [if_neg c9] at H
    have ew : decide ((bt a0 (ji4)) ≤ 57) = false := decide_eq_false c9
    clear c9
    obtain rfl := Option.some.inj H
    have p6 : 0 ≤ ((ji4) : Int) := of_decide_eq_true p4z
    have q6 : (ji4) < (a0.size : Int) := of_decide_eq_true p4z
    have hx6 := bt_at a0 (ji4)
    replace p6 := eq_true p6
    replace q6 := eq_true q6
    have p8 : 0 ≤ ((ji4) : Int) := of_decide_eq_true p4z
    have q8 : (ji4) < (a0.size : Int) := of_decide_eq_true p4z
    have hx8 := bt_at a0 (ji4)
    replace p8 := eq_true p8
    replace q8 := eq_true q8
    go_wp2
    go_ret
    exact ⟨by first | rfl | (simp; done) | (simp only [← hji4] <;> (first | rfl | simp)) | (simp [*]; done), p9z⟩
   rw [if_pos c9] at H
   have ew : decide ((bt a0 (ji4)) ≤ 57) = true := decide_eq_true c9
   clear c9
   have H' := Aside0.mk H
   clear H
   have p6 : 0 ≤ ((ji4) : Int) := of_decide_eq_true p4z
   have q6 : (ji4) < (a0.size : Int) := of_decide_eq_true p4z
   have hx6 := bt_at a0 (ji4)
   replace p6 := eq_true p6
   replace q6 := eq_true q6
   have p8 : 0 ≤ ((ji4) : Int) := of_decide_eq_true p4z
   have q8 : (ji4) < (a0.size : Int) := of_decide_eq_true p4z
   have hx8 := bt_at a0 (ji4)
   replace p8 := eq_true p8
   replace q8 := eq_true q8
   go_wp2
   go_roundg k1
   case measure => have := HK1.out; omega
   case rel => exact ⟨(wrap64 (aI + 1)), p7z, H', ⟨p61z⟩, p9z⟩
/-! ### signetryref14_Reader_number: function 83 -/
mutual
def signetryref14_Reader_number.j0 : Nat → Int → ByteArray → Int → Int → Int → Int → Option (ByteArray × ByteArray × Int × Int × Int × Int)
  | 0, _, _, _, _, _, _ => none
  | k + 1, x3, ao, ap, aU, aV, aQ => (signetryref14_digits.f k ao ap).bind fun dc => (if dc > 1 then (if 0 ≤ ap then (if ap < (ao.size : Int) then (signetryref14_Reader_number.j1 k x3 dc ((bt ao ap) == 48) ao ap aU aV aQ) else (none)) else (none)) else (signetryref14_Reader_number.j1 k x3 dc false ao ap aU aV aQ))
def signetryref14_Reader_number.j1 : Nat → Int → Int → Bool → ByteArray → Int → Int → Int → Int → Option (ByteArray × ByteArray × Int × Int × Int × Int)
  | 0, _, _, _, _, _, _, _, _ => none
  | k + 1, x3, x4, x42, ao, ap, aU, aV, aQ => if x42 = true then (signetryref14_Reader_number.j2 k x3 1 ao ap aU aV aQ) else (signetryref14_Reader_number.j2 k x3 x4 ao ap aU aV aQ)
def signetryref14_Reader_number.j2 : Nat → Int → Int → ByteArray → Int → Int → Int → Int → Option (ByteArray × ByteArray × Int × Int × Int × Int)
  | 0, _, _, _, _, _, _, _ => none
  | k + 1, x3, x4, ao, ap, aU, aV, aQ => if x4 > 40 then ((signetryref14_Reader_fail.f ao ap aU aV aQ x3 140).bind fun eH => (some ((⟨#[]⟩ : ByteArray), eH.1, eH.2.1, eH.2.2.1, eH.2.2.2.1, eH.2.2.2.2))) else (if x4 = 0 then ((signetryref14_Reader_fail.f ao (wrap64 (ap + x4)) aU aV aQ (wrap64 (ap + x4)) 140).bind fun eI => (some ((⟨#[]⟩ : ByteArray), eI.1, eI.2.1, eI.2.2.1, eI.2.2.2.1, eI.2.2.2.2))) else (if 0 ≤ x3 then (if x3 ≤ (wrap64 (ap + x4)) then (if (wrap64 (ap + x4)) ≤ (ao.size : Int) then (some (ao.extract (x3 : Int).toNat ((wrap64 (ap + x4)) : Int).toNat, ao, wrap64 (ap + x4), aU, aV, aQ)) else (none)) else (none)) else (none)))
end
def signetryref14_Reader_number.f (k : Nat) (ag : ByteArray) (ae : Int) (aT : Int) (aX : Int) (aK : Int) : Option (ByteArray × ByteArray × Int × Int × Int × Int) := (signetryref14_Reader_now.f ag ae aT aX aK).bind fun bU => (if bU.1 = 45 then (signetryref14_Reader_number.j0 k ae bU.2.1 (wrap64 (bU.2.2.1 + 1)) bU.2.2.2.1 bU.2.2.2.2.1 bU.2.2.2.2.2) else (signetryref14_Reader_number.j0 k ae bU.2.1 bU.2.2.1 bU.2.2.2.1 bU.2.2.2.2.1 bU.2.2.2.2.2))
theorem signetryref14_Reader_number.mono_l : ∀ k, (∀ y0 y1 y2 y3 y4 y5, LeO (signetryref14_Reader_number.j0 k y0 y1 y2 y3 y4 y5) (signetryref14_Reader_number.j0 (k + 1) y0 y1 y2 y3 y4 y5)) ∧ (∀ y0 y1 y2 y3 y4 y5 y6 y7, LeO (signetryref14_Reader_number.j1 k y0 y1 y2 y3 y4 y5 y6 y7) (signetryref14_Reader_number.j1 (k + 1) y0 y1 y2 y3 y4 y5 y6 y7)) ∧ (∀ y0 y1 y2 y3 y4 y5 y6, LeO (signetryref14_Reader_number.j2 k y0 y1 y2 y3 y4 y5 y6) (signetryref14_Reader_number.j2 (k + 1) y0 y1 y2 y3 y4 y5 y6))
 | 0 => ⟨fun _ _ _ _ _ _ r h => by simp [signetryref14_Reader_number.j0] at h, fun _ _ _ _ _ _ _ _ r h => by simp [signetryref14_Reader_number.j1] at h, fun _ _ _ _ _ _ _ r h => by simp [signetryref14_Reader_number.j2] at h⟩
 | k + 1 => by
  obtain ⟨ih0, ih1, ih2⟩ := signetryref14_Reader_number.mono_l k
  refine ⟨?_, ?_, ?_⟩
  ·intro y0 y1 y2 y3 y4 y5
   unfold signetryref14_Reader_number.j0
   have m0 := @signetryref14_digits.mono
   exact moz
  ·intro y0 y1 y2 y3 y4 y5 y6 y7
   unfold signetryref14_Reader_number.j1
   have m0 := @signetryref14_digits.mono
   exact moz
  ·intro y0 y1 y2 y3 y4 y5 y6
   unfold signetryref14_Reader_number.j2
   have m0 := @signetryref14_digits.mono
   exact moz
theorem signetryref14_Reader_number.mono : ∀ a0 a1 a2 a3 a4 k, LeO (signetryref14_Reader_number.f k a0 a1 a2 a3 a4) (signetryref14_Reader_number.f (k + 1) a0 a1 a2 a3 a4) := by
  intro a0 a1 a2 a3 a4 k
  obtain ⟨ih0, ih1, ih2⟩ := signetryref14_Reader_number.mono_l k
  unfold signetryref14_Reader_number.f
  have m0 := @signetryref14_digits.mono
  exact moz
theorem signetryref14_Reader_number.calls (k : Nat) (g : Nat) (ag : ByteArray) (ae : Int) (aT : Int) (aX : Int) (aK : Int) (r1 : ByteArray) (r2 : ByteArray) (r3 : Int) (r4 : Int) (r5 : Int) (r6 : Int) (w0 w : World) (hI : IsS95 w0 w g ag ae aT aX aK) (hB : Below w0.heap.size w0 w) (h : signetryref14_Reader_number.f k ag ae aT aX aK = some (r1, r2, r3, r4, r5, r6)) :
 Calls Tryz.prog 83 #[.pointer (some ⟨g, 0, none⟩)] w fun e w' => e = .returned (.string r1) ∧ IsS95 w0 w' g r2 r3 r4 r5 r6 ∧ Below w0.heap.size w0 w' ∧ KeepBut w w' g none := by
 have HI0 := Aside0.mk hI
 have HK := Aside0.mk (KeepBut.refl w g none)
 have HL := Aside0.mk hB.size
 clear hI
 have HW0 := Aside0.mk hB.size
 have HB := Aside0.mk hB
 clear hB
 have H : ((signetryref14_Reader_now.f ag ae aT aX aK).bind fun bU => (if bU.1 = 45 then (signetryref14_Reader_number.j0 k ae bU.2.1 (wrap64 (bU.2.2.1 + 1)) bU.2.2.2.1 bU.2.2.2.2.1 bU.2.2.2.2.2) else (signetryref14_Reader_number.j0 k ae bU.2.1 bU.2.2.1 bU.2.2.2.1 bU.2.2.2.2.1 bU.2.2.2.2.2))) = some (r1, r2, r3, r4, r5, r6) := h
 clear h
 replace H := Option.bind_eq_some_iff.mp H
 obtain ⟨⟨ex, ca, eR, cI, cJ, cK⟩, A20, H⟩ := H
 replace H : (if ex = 45 then (signetryref14_Reader_number.j0 k ae ca (wrap64 (eR + 1)) cI cJ cK) else (signetryref14_Reader_number.j0 k ae ca eR cI cJ cK)) = some (r1, r2, r3, r4, r5, r6) := H
 have A2 := Aside0.mk A20
 clear A20
 have HC3 := Aside0.mk H
 clear H
 obtain ⟨HGz4, hgz4⟩ := HI0.out
 have hcz4_0 := cellS95_0 HGz4
 have hcz4_1 := cellS95_1 HGz4
 have hcz4_2 := cellS95_2 HGz4
 have hcz4_3 := cellS95_3 HGz4
 have hcz4_4 := cellS95_4 HGz4
 have hfz4_0 := blk_frozen HGz4 0
 have hfz4_1 := blk_frozen HGz4 1
 have hfz4_2 := blk_frozen HGz4 2
 have hfz4_3 := blk_frozen HGz4 3
 have hfz4_4 := blk_frozen HGz4 4
 clear HGz4 hgz4
 go_enter Tryz.func83, Tryz.ntmps83
 go_upto_if 11 with (first | (go_at_call 79; (with_reducible refine (signetryref14_Reader_now.calls g ag ae aT aX aK ex ca eR cI cJ cK w0 _ ?side1 ?side2 A2.out).mono ?_); (case side1 => exact p1z); (case side2 => exact p2z); rintro e w5 ⟨rfl, hi, hb, hk⟩; have z_ := asi3 (KeepBut.trans p3z hk (.inl rfl)) (hb) (hi); clear HK HB HI0; obtain ⟨HK, HB, HI0⟩ := z_; (try clear hb hk hi)))
 repeat (go_quiet (first | (go_at_call 79; (with_reducible refine (signetryref14_Reader_now.calls g ag ae aT aX aK ex ca eR cI cJ cK w0 _ ?side1 ?side2 A2.out).mono ?_); (case side1 => exact p1z); (case side2 => exact p2z); rintro e w5 ⟨rfl, hi, hb, hk⟩; have z_ := asi3 (KeepBut.trans p3z hk (.inl rfl)) (hb) (hi); clear HK HB HI0; obtain ⟨HK, HB, HI0⟩ := z_; (try clear hb hk hi))); go_upto_if 11 with (first | (go_at_call 79; (with_reducible refine (signetryref14_Reader_now.calls g ag ae aT aX aK ex ca eR cI cJ cK w0 _ ?side1 ?side2 A2.out).mono ?_); (case side1 => exact p1z); (case side2 => exact p2z); rintro e w5 ⟨rfl, hi, hb, hk⟩; have z_ := asi3 (KeepBut.trans p3z hk (.inl rfl)) (hb) (hi); clear HK HB HI0; obtain ⟨HK, HB, HI0⟩ := z_; (try clear hb hk hi))))
 (try simp only [Act.put, List.setIfInBounds_toArray, List.set_cons_zero, List.set_cons_succ])
 go_cut [] (fun wc => ∃ (kq : Nat) (af : Int), Aside0 (signetryref14_Reader_number.j0 kq ae ca af cI cJ cK = some (r1, r2, r3, r4, r5, r6)) ∧ Aside0 (kq ≤ k) ∧ Aside0 (IsS95 w0 wc g ca af cI cJ cK) ∧ Aside0 (KeepBut w wc g none) ∧ Aside0 (Below w0.heap.size w0 wc))
 case first =>
  have H := HC3.out
  clear HC3
  by_cases c6 : ex = 45
  case neg =>
   rw [if_neg c6] at H
   have cd : (ex == 45) = false := beq_eq_false_iff_ne.mpr c6
   have di : (ex != 45) = true := bne_iff_ne.mpr c6
   (first | rw [cd] | (simp only [i64_w, i32_w]; rw [cd]) | skip)
   have H' := Aside0.mk H
   clear H
   go_wp2
   repeat (go_quiet (fail); try go_wp2)
   go_meet
   case rel => exact ⟨_, (eR), H', ⟨p66z⟩, ⟨p1z⟩, ⟨p3z⟩, ⟨p2z⟩⟩
  rw [if_pos c6] at H
  have cd : (ex == 45) = true := beq_iff_eq.mpr c6
  have di : (ex != 45) = false := bne_eq_false_iff_eq.mpr c6
  clear c6
  (first | rw [cd] | (simp only [i64_w, i32_w]; rw [cd]) | skip)
  have H' := Aside0.mk H
  clear H
  obtain ⟨HGz7, hgz7⟩ := HI0.out
  have hcz7_0 := cellS95_0 HGz7
  have hcz7_1 := cellS95_1 HGz7
  have hcz7_2 := cellS95_2 HGz7
  have hcz7_3 := cellS95_3 HGz7
  have hcz7_4 := cellS95_4 HGz7
  have hfz7_0 := blk_frozen HGz7 0
  have hfz7_1 := blk_frozen HGz7 1
  have hfz7_2 := blk_frozen HGz7 2
  have hfz7_3 := blk_frozen HGz7 3
  have hfz7_4 := blk_frozen HGz7 4
  clear HGz7 hgz7
  go_wp2
  repeat (go_quiet (fail); try go_wp2)
  go_meet
  case rel => exact ⟨_, (wrap64 (eR + 1)), H', ⟨p66z⟩, ⟨p1z⟩, ⟨p3z⟩, ⟨p2z⟩⟩
 case rest =>
  clear HC3
  try clear p2
  try clear c6
  try clear cd
  try clear di
  try clear p6
  try clear hcz4_0
  try clear hcz4_1
  try clear hcz4_2
  try clear hcz4_3
  try clear hcz4_4
  try clear hcz7_0
  try clear hcz7_1
  try clear hcz7_2
  try clear hcz7_3
  try clear hcz7_4
  try clear hfz4_0
  try clear hfz4_1
  try clear hfz4_2
  try clear hfz4_3
  try clear hfz4_4
  try clear hfz7_0
  try clear hfz7_1
  try clear hfz7_2
  try clear hfz7_3
  try clear hfz7_4
  obtain ⟨kq, af, HA, HJ2, HI0, HK, HB⟩ := hcut
  cases kq with
  | zero => exact absurd HA.out (by simp [signetryref14_Reader_number.j0])
  | succ kj2 =>
   have H := HA.out
   clear HA
   simp only [signetryref14_Reader_number.j0] at H
   replace H := Option.bind_eq_some_iff.mp H
   obtain ⟨dc, A80, H⟩ := H
   replace H : (if dc > 1 then (if 0 ≤ af then (if af < (ca.size : Int) then (signetryref14_Reader_number.j1 kj2 ae dc ((bt ca af) == 48) ca af cI cJ cK) else (none)) else (none)) else (signetryref14_Reader_number.j1 kj2 ae dc false ca af cI cJ cK)) = some (r1, r2, r3, r4, r5, r6) := H
   have A8 := Aside0.mk A80
   clear A80
   have HC9 := Aside0.mk H
   clear H
   obtain ⟨HGz10, hgz10⟩ := HI0.out
   have hcz10_0 := cellS95_0 HGz10
   have hcz10_1 := cellS95_1 HGz10
   have hcz10_2 := cellS95_2 HGz10
   have hcz10_3 := cellS95_3 HGz10
   have hcz10_4 := cellS95_4 HGz10
   have hfz10_0 := blk_frozen HGz10 0
   have hfz10_1 := blk_frozen HGz10 1
   have hfz10_2 := blk_frozen HGz10 2
   have hfz10_3 := blk_frozen HGz10 3
   have hfz10_4 := blk_frozen HGz10 4
   clear HGz10 hgz10
   go_upto_region 5 with (first | (go_at_call 98; (with_reducible refine (signetryref14_digits.calls kj2 ca af dc _ A8.out).mono ?_); rintro e w' ⟨rfl, ⟨nd, rfl⟩⟩; (try first | exact ⟨rfl, _, World.drewN_drewN _ _ _⟩ | exact ⟨rfl, _, Eq.trans (World.drewN_drewN _ _ _) (congrArg (World.drewN _) (Nat.add_assoc _ _ _))⟩)))
   repeat (go_quiet (first | (go_at_call 98; (with_reducible refine (signetryref14_digits.calls kj2 ca af dc _ A8.out).mono ?_); rintro e w' ⟨rfl, ⟨nd, rfl⟩⟩; (try first | exact ⟨rfl, _, World.drewN_drewN _ _ _⟩ | exact ⟨rfl, _, Eq.trans (World.drewN_drewN _ _ _) (congrArg (World.drewN _) (Nat.add_assoc _ _ _))⟩))); go_upto_region 5 with (first | (go_at_call 98; (with_reducible refine (signetryref14_digits.calls kj2 ca af dc _ A8.out).mono ?_); rintro e w' ⟨rfl, ⟨nd, rfl⟩⟩; (try first | exact ⟨rfl, _, World.drewN_drewN _ _ _⟩ | exact ⟨rfl, _, Eq.trans (World.drewN_drewN _ _ _) (congrArg (World.drewN _) (Nat.add_assoc _ _ _))⟩))))
   (try simp only [Act.put, List.setIfInBounds_toArray, List.set_cons_zero, List.set_cons_succ])
   go_cut [42] (fun v42 wc => ∃ (kq : Nat) (fi : Bool), v42 = .bool fi ∧ Aside0 (signetryref14_Reader_number.j1 kq ae dc fi ca af cI cJ cK = some (r1, r2, r3, r4, r5, r6)) ∧ Aside0 (kq ≤ kj2) ∧ Aside0 (IsS95 w0 wc g ca af cI cJ cK) ∧ Aside0 (KeepBut w wc g none) ∧ Aside0 (Below w0.heap.size w0 wc))
   case first =>
    have H := HC9.out
    clear HC9
    by_cases c11 : dc > 1
    case neg =>
     rw [if_neg c11] at H
     have cR : decide (1 < dc) = false := decide_eq_false c11
     clear c11
     (first | rw [cR] | (simp only [i64_w, i32_w]; rw [cR]) | skip)
     have H' := Aside0.mk H
     clear H
     go_wp2
     repeat (go_quiet (fail); try go_wp2)
     go_meet
     case rel => exact ⟨_, (false), p7z, H', ⟨by have := HJ2.out; first | omega | exact Nat.le_refl _⟩, ⟨p1z⟩, ⟨p3z⟩, ⟨p2z⟩⟩
    rw [if_pos c11] at H
    have cR : decide (1 < dc) = true := decide_eq_true c11
    clear c11
    (first | rw [cR] | (simp only [i64_w, i32_w]; rw [cR]) | skip)
    by_cases c12 : 0 ≤ af
    case neg =>
     rw [if_neg c12] at H
     exact absurd H (by simp)
    rw [if_pos c12] at H
    have cF : decide (0 ≤ af) = true := decide_eq_true c12
    clear c12
    by_cases c13 : af < (ca.size : Int)
    case neg =>
     rw [if_neg c13] at H
     exact absurd H (by simp)
    rw [if_pos c13] at H
    have dY : decide (af < (ca.size : Int)) = true := decide_eq_true c13
    clear c13
    have H' := Aside0.mk H
    clear H
    obtain ⟨HGz15, hgz15⟩ := HI0.out
    have hcz15_0 := cellS95_0 HGz15
    have hcz15_1 := cellS95_1 HGz15
    have hcz15_2 := cellS95_2 HGz15
    have hcz15_3 := cellS95_3 HGz15
    have hcz15_4 := cellS95_4 HGz15
    have hfz15_0 := blk_frozen HGz15 0
    have hfz15_1 := blk_frozen HGz15 1
    have hfz15_2 := blk_frozen HGz15 2
    have hfz15_3 := blk_frozen HGz15 3
    have hfz15_4 := blk_frozen HGz15 4
    clear HGz15 hgz15
    have p14 : 0 ≤ (af : Int) := of_decide_eq_true p4z
    have q14 : af < (ca.size : Int) := of_decide_eq_true p4z
    have hx14 := bt_at ca af
    replace p14 := eq_true p14
    replace q14 := eq_true q14
    go_wp2
    repeat (go_quiet (fail); try go_wp2)
    go_meet
    case rel => exact ⟨_, (((bt ca af) == 48)), p7z, H', ⟨by have := HJ2.out; first | omega | exact Nat.le_refl _⟩, ⟨p1z⟩, ⟨p3z⟩, ⟨p2z⟩⟩
   case rest =>
    clear HC9
    try clear c1
    try clear p1
    try clear q1
    try clear hx1
    try clear p2
    try clear c6
    try clear cd
    try clear di
    try clear p6
    try clear c8
    try clear c11
    try clear cR
    try clear c12
    try clear cF
    try clear c13
    try clear dY
    try clear p14
    try clear q14
    try clear hx14
    try clear hcz10_0
    try clear hcz10_1
    try clear hcz10_2
    try clear hcz10_3
    try clear hcz10_4
    try clear hcz15_0
    try clear hcz15_1
    try clear hcz15_2
    try clear hcz15_3
    try clear hcz15_4
    try clear hcz4_0
    try clear hcz4_1
    try clear hcz4_2
    try clear hcz4_3
    try clear hcz4_4
    try clear hcz7_0
    try clear hcz7_1
    try clear hcz7_2
    try clear hcz7_3
    try clear hcz7_4
    try clear hfz10_0
    try clear hfz10_1
    try clear hfz10_2
    try clear hfz10_3
    try clear hfz10_4
    try clear hfz15_0
    try clear hfz15_1
    try clear hfz15_2
    try clear hfz15_3
    try clear hfz15_4
    try clear hfz4_0
    try clear hfz4_1
    try clear hfz4_2
    try clear hfz4_3
    try clear hfz4_4
    try clear hfz7_0
    try clear hfz7_1
    try clear hfz7_2
    try clear hfz7_3
    try clear hfz7_4
    try clear p14
    try clear p2
    try clear p6
    try clear q14
    obtain ⟨kq, fi, rfl, HA, HJ8, HI0, HK, HB⟩ := hcut
    cases kq with
    | zero => exact absurd HA.out (by simp [signetryref14_Reader_number.j1])
    | succ kj8 =>
     have H := HA.out
     clear HA
     simp only [signetryref14_Reader_number.j1] at H
     have HC16 := Aside0.mk H
     clear H
     go_upto_if 42 with (fail)
     repeat (go_quiet (fail); go_upto_if 42 with (fail))
     go_cut [4] (fun v4 wc => ∃ (kq : Nat) (ce : Int), v4 = .int .i64 ce ∧ Aside0 (signetryref14_Reader_number.j2 kq ae ce ca af cI cJ cK = some (r1, r2, r3, r4, r5, r6)) ∧ Aside0 (kq ≤ kj8) ∧ Aside0 (IsS95 w0 wc g ca af cI cJ cK) ∧ Aside0 (KeepBut w wc g none) ∧ Aside0 (Below w0.heap.size w0 wc))
     case first =>
      have H := HC16.out
      clear HC16
      by_cases c17 : fi = true
      case pos =>
       subst c17
       have H1 : (signetryref14_Reader_number.j2 kj8 ae 1 ca af cI cJ cK) = some (r1, r2, r3, r4, r5, r6) := p53z
       clear H
       have H := H1
       clear H1
       have H' := Aside0.mk H
       clear H
       go_wp2
       repeat (go_quiet (fail); try go_wp2)
       go_meet
       case rel => exact ⟨_, (1), p7z, H', ⟨by have := HJ2.out; have := HJ8.out; first | omega | exact Nat.le_refl _⟩, ⟨p1z⟩, ⟨p3z⟩, ⟨p2z⟩⟩
      replace c17 := Bool.eq_false_iff.mpr c17
      subst c17
      have H1 : (signetryref14_Reader_number.j2 kj8 ae dc ca af cI cJ cK) = some (r1, r2, r3, r4, r5, r6) := p27z
      clear H
      have H := H1
      clear H1
      have H' := Aside0.mk H
      clear H
      go_wp2
      repeat (go_quiet (fail); try go_wp2)
      go_meet
      case rel => exact ⟨_, (dc), p7z, H', ⟨by have := HJ2.out; have := HJ8.out; first | omega | exact Nat.le_refl _⟩, ⟨p1z⟩, ⟨p3z⟩, ⟨p2z⟩⟩
     case rest =>
      clear HC16
      try clear c1
      try clear p1
      try clear q1
      try clear hx1
      try clear p2
      try clear c6
      try clear cd
      try clear di
      try clear p6
      try clear c8
      try clear c11
      try clear cR
      try clear c12
      try clear cF
      try clear c13
      try clear dY
      try clear p14
      try clear q14
      try clear hx14
      try clear c17
      try clear hcz10_0
      try clear hcz10_1
      try clear hcz10_2
      try clear hcz10_3
      try clear hcz10_4
      try clear hcz15_0
      try clear hcz15_1
      try clear hcz15_2
      try clear hcz15_3
      try clear hcz15_4
      try clear hcz4_0
      try clear hcz4_1
      try clear hcz4_2
      try clear hcz4_3
      try clear hcz4_4
      try clear hcz7_0
      try clear hcz7_1
      try clear hcz7_2
      try clear hcz7_3
      try clear hcz7_4
      try clear hfz10_0
      try clear hfz10_1
      try clear hfz10_2
      try clear hfz10_3
      try clear hfz10_4
      try clear hfz15_0
      try clear hfz15_1
      try clear hfz15_2
      try clear hfz15_3
      try clear hfz15_4
      try clear hfz4_0
      try clear hfz4_1
      try clear hfz4_2
      try clear hfz4_3
      try clear hfz4_4
      try clear hfz7_0
      try clear hfz7_1
      try clear hfz7_2
      try clear hfz7_3
      try clear hfz7_4
      try clear p1
      try clear p14
      try clear p2
      try clear p6
      try clear q1
      try clear q14
      obtain ⟨kq, ce, rfl, HA, HJ15, HI0, HK, HB⟩ := hcut
      cases kq with
      | zero => exact absurd HA.out (by simp [signetryref14_Reader_number.j2])
      | succ kj15 =>
       have H := HA.out
       clear HA
       simp only [signetryref14_Reader_number.j2] at H
       by_cases c18 : ce > 40
       case pos =>
        rw [if_pos c18] at H
        have dO : decide (40 < ce) = true := decide_eq_true c18
        clear c18
        replace H := Option.bind_eq_some_iff.mp H
        obtain ⟨⟨t330, t331, t332, t333, t334⟩, A190, H⟩ := H
        replace H : (some ((⟨#[]⟩ : ByteArray), t330, t331, t332, t333, t334)) = some (r1, r2, r3, r4, r5, r6) := H
        have A19 := Aside0.mk A190
        clear A190
        simp only [Option.some.injEq, Prod.mk.injEq] at H
        obtain ⟨rfl, rfl, rfl, rfl, rfl, rfl⟩ := H
        go_wp2_with (first | (go_at_call 52; (with_reducible refine (signetryref14_Reader_fail.calls g ca af cI cJ cK ae 140 t330 t331 t332 t333 t334 w0 _ ?side1 ?side2 A19.out).mono ?_); (case side1 => exact p1z); (case side2 => exact p2z); rintro e w20 ⟨rfl, hi, hb, hk⟩; have z_ := asi3 (KeepBut.trans p3z hk (.inl rfl)) (hb) (hi); clear HK HB HI0; obtain ⟨HK, HB, HI0⟩ := z_; (try clear hb hk hi)))
        repeat (go_quiet (first | (go_at_call 52; (with_reducible refine (signetryref14_Reader_fail.calls g ca af cI cJ cK ae 140 t330 t331 t332 t333 t334 w0 _ ?side1 ?side2 A19.out).mono ?_); (case side1 => exact p1z); (case side2 => exact p2z); rintro e w20 ⟨rfl, hi, hb, hk⟩; have z_ := asi3 (KeepBut.trans p3z hk (.inl rfl)) (hb) (hi); clear HK HB HI0; obtain ⟨HK, HB, HI0⟩ := z_; (try clear hb hk hi))); try go_wp2_with (first | (go_at_call 52; (with_reducible refine (signetryref14_Reader_fail.calls g ca af cI cJ cK ae 140 t330 t331 t332 t333 t334 w0 _ ?side1 ?side2 A19.out).mono ?_); (case side1 => exact p1z); (case side2 => exact p2z); rintro e w20 ⟨rfl, hi, hb, hk⟩; have z_ := asi3 (KeepBut.trans p3z hk (.inl rfl)) (hb) (hi); clear HK HB HI0; obtain ⟨HK, HB, HI0⟩ := z_; (try clear hb hk hi))))
        go_ret
        exact ⟨p6z, p1z, p2z, p3z⟩
       rw [if_neg c18] at H
       have dO : decide (40 < ce) = false := decide_eq_false c18
       clear c18
       by_cases c21 : ce = 0
       case neg =>
        rw [if_neg c21] at H
        have dp : (ce == 0) = false := beq_eq_false_iff_ne.mpr c21
        have dq : (ce != 0) = true := bne_iff_ne.mpr c21
        by_cases c25 : 0 ≤ ae
        case neg =>
         rw [if_neg c25] at H
         exact absurd H (by simp)
        rw [if_pos c25] at H
        have fj := eq_true c25
        have c25b1 : decide (0 ≤ ae) = true := decide_eq_true c25
        clear c25
        by_cases c26 : ae ≤ (wrap64 (af + ce))
        case neg =>
         rw [if_neg c26] at H
         exact absurd H (by simp)
        rw [if_pos c26] at H
        have dC := eq_true c26
        have fK : decide (ae ≤ (wrap64 (af + ce))) = true := decide_eq_true c26
        by_cases c27 : (wrap64 (af + ce)) ≤ (ca.size : Int)
        case neg =>
         rw [if_neg c27] at H
         exact absurd H (by simp)
        rw [if_pos c27] at H
        have c27b0 := eq_true c27
        have c27b1 : decide ((wrap64 (af + ce)) ≤ (ca.size : Int)) = true := decide_eq_true c27
        simp only [Option.some.injEq, Prod.mk.injEq] at H
        obtain ⟨rfl, rfl, rfl, rfl, rfl, rfl⟩ := H
        obtain ⟨HGz28, hgz28⟩ := HI0.out
        have hcz28_0 := cellS95_0 HGz28
        have hcz28_1 := cellS95_1 HGz28
        have hcz28_2 := cellS95_2 HGz28
        have hcz28_3 := cellS95_3 HGz28
        have hcz28_4 := cellS95_4 HGz28
        have hfz28_0 := blk_frozen HGz28 0
        have hfz28_1 := blk_frozen HGz28 1
        have hfz28_2 := blk_frozen HGz28 2
        have hfz28_3 := blk_frozen HGz28 3
        have hfz28_4 := blk_frozen HGz28 4
        clear HGz28 hgz28
        go_wp2
        repeat (go_quiet (fail); try go_wp2)
        go_ret
        exact ⟨p6z, p1z, p2z, p3z⟩
       rw [if_pos c21] at H
       have dp : (ce == 0) = true := beq_iff_eq.mpr c21
       have dq : (ce != 0) = false := bne_eq_false_iff_eq.mpr c21
       clear c21
       replace H := Option.bind_eq_some_iff.mp H
       obtain ⟨⟨t335, t336, t337, t338, t339⟩, A220, H⟩ := H
       replace H : (some ((⟨#[]⟩ : ByteArray), t335, t336, t337, t338, t339)) = some (r1, r2, r3, r4, r5, r6) := H
       have A22 := Aside0.mk A220
       clear A220
       simp only [Option.some.injEq, Prod.mk.injEq] at H
       obtain ⟨rfl, rfl, rfl, rfl, rfl, rfl⟩ := H
       obtain ⟨HGz23, hgz23⟩ := HI0.out
       have hcz23_0 := cellS95_0 HGz23
       have hcz23_1 := cellS95_1 HGz23
       have hcz23_2 := cellS95_2 HGz23
       have hcz23_3 := cellS95_3 HGz23
       have hcz23_4 := cellS95_4 HGz23
       have hfz23_0 := blk_frozen HGz23 0
       have hfz23_1 := blk_frozen HGz23 1
       have hfz23_2 := blk_frozen HGz23 2
       have hfz23_3 := blk_frozen HGz23 3
       have hfz23_4 := blk_frozen HGz23 4
       clear HGz23 hgz23
       go_wp2_with (first | (go_at_call 52; (with_reducible refine (signetryref14_Reader_fail.calls g ca (wrap64 (af + ce)) cI cJ cK (wrap64 (af + ce)) 140 t335 t336 t337 t338 t339 w0 _ ?side1 ?side2 A22.out).mono ?_); (case side1 => exact p1z); (case side2 => exact p2z); rintro e w24 ⟨rfl, hi, hb, hk⟩; have z_ := asi3 (KeepBut.trans p3z hk (.inl rfl)) (hb) (hi); clear HK HB HI0; obtain ⟨HK, HB, HI0⟩ := z_; (try clear hb hk hi)))
       repeat (go_quiet (first | (go_at_call 52; (with_reducible refine (signetryref14_Reader_fail.calls g ca (wrap64 (af + ce)) cI cJ cK (wrap64 (af + ce)) 140 t335 t336 t337 t338 t339 w0 _ ?side1 ?side2 A22.out).mono ?_); (case side1 => exact p1z); (case side2 => exact p2z); rintro e w24 ⟨rfl, hi, hb, hk⟩; have z_ := asi3 (KeepBut.trans p3z hk (.inl rfl)) (hb) (hi); clear HK HB HI0; obtain ⟨HK, HB, HI0⟩ := z_; (try clear hb hk hi))); try go_wp2_with (first | (go_at_call 52; (with_reducible refine (signetryref14_Reader_fail.calls g ca (wrap64 (af + ce)) cI cJ cK (wrap64 (af + ce)) 140 t335 t336 t337 t338 t339 w0 _ ?side1 ?side2 A22.out).mono ?_); (case side1 => exact p1z); (case side2 => exact p2z); rintro e w24 ⟨rfl, hi, hb, hk⟩; have z_ := asi3 (KeepBut.trans p3z hk (.inl rfl)) (hb) (hi); clear HK HB HI0; obtain ⟨HK, HB, HI0⟩ := z_; (try clear hb hk hi))))
       go_ret
       exact ⟨p6z, p1z, p2z, p3z⟩
end Go.Proofs.YtodnggilomanbaaGreatDoor.PAll
