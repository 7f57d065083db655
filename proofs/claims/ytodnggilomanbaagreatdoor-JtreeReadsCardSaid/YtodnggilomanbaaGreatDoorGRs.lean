-- Written by this repo's program wip/tools/pr.py (over the kit's print) out of the translation. Not trusted: Lean checks it.
import Derived.Test.YtodnggilomanbaaGreatDoorAp
import Derived.Test.YtodnggilomanbaaGreatDoorGRz
import Derived.Test.YtodnggilomanbaaGreatDoorGRe
import Derived.Test.YtodnggilomanbaaGreatDoorGRv
import Derived.Test.YtodnggilomanbaaGreatDoorGRx
set_option maxHeartbeats 8000000
set_option maxRecDepth 100000
namespace Go.Proofs.YtodnggilomanbaaGreatDoor.PAll
open Go.Proofs.YtodnggilomanbaaGreatDoor.Hand
open Go.RowKit Go.Proofs.YtodnggilomanbaaGreatDoorW.PrintWords Go.Proofs.YtodnggilomanbaaGreatDoorW.PrintLast Go.Proofs.YtodnggilomanbaaGreatDoorW.PrintMore
attribute [local go_sem] max2_int min2_int max_two min_two max_three min_three max_four min_four   -- for this text's walks alone
set_option linter.unusedVariables false
set_option linter.unusedSimpArgs false
attribute [-simp] List.length_take List.length_drop ByteArray.size_extract

/-! ### signetryref14_Reader_str: function 81 -/
mutual
def signetryref14_Reader_str.j0 : Nat → Int → Int → Bool → ByteArray → Int → Int → Int → Int → Option (ByteArray × ByteArray × Int × Int × Int × Int)
  | 0, _, _, _, _, _, _, _, _ => none
  | k + 1, x3, x4, x5, ao, ap, aU, aV, aQ => signetryref14_Reader_str.l0 k x3 x4 x5 ([] : List Int) (wrap64 (x3 + 1)) ao ap aU aV aQ
def signetryref14_Reader_str.j2 : Nat → Int → Int → Bool → List Int → ByteArray → Int → Int → Int → Int → Option (ByteArray × ByteArray × Int × Int × Int × Int)
  | 0, _, _, _, _, _, _, _, _, _ => none
  | k + 1, x3, x4, x5, x6, ao, ap, aU, aV, aQ => if x5 = true then ((signetryref02_Valid.f k x6).bind fun fw => (if fw = true then (some (strOfNums x6, ao, wrap64 (x4 + 1), aU, aV, aQ)) else ((signetryref14_Reader_fail.f ao ap aU aV aQ x3 140).bind fun bV => (some ((⟨#[]⟩ : ByteArray), bV.1, bV.2.1, bV.2.2.1, bV.2.2.2.1, bV.2.2.2.2))))) else ((signetryref14_Reader_fail.f ao ap aU aV aQ (ao.size : Int) 140).bind fun d8 => (some ((⟨#[]⟩ : ByteArray), d8.1, d8.2.1, d8.2.2.1, d8.2.2.2.1, d8.2.2.2.2)))
def signetryref14_Reader_str.l0 : Nat → Int → Int → Bool → List Int → Int → ByteArray → Int → Int → Int → Int → Option (ByteArray × ByteArray × Int × Int × Int × Int)
  | 0, _, _, _, _, _, _, _, _, _, _ => none
  | k + 1, x3, x4, x5, x6, x7, ao, ap, aU, aV, aQ => if x7 < x4 then (if 0 ≤ x7 then (if x7 < (ao.size : Int) then (if (bt ao x7) < 32 then ((signetryref14_Reader_fail.f ao ap aU aV aQ x3 140).bind fun eM => (some ((⟨#[]⟩ : ByteArray), eM.1, eM.2.1, eM.2.2.1, eM.2.2.2.1, eM.2.2.2.2))) else (if (bt ao x7) = 92 then (if (wrap64 (x7 + 1)) = x4 then (signetryref14_Reader_str.j2 k x3 x4 x5 x6 ao ap aU aV aQ) else (if 0 ≤ x4 then (if x4 ≤ (ao.size : Int) then ((signetryref14_escape.f k (ao.extract 0 (x4 : Int).toNat) (wrap64 (x7 + 1))).bind fun fk => (if fk.2 = 0 then ((signetryref14_Reader_fail.f ao ap aU aV aQ x3 140).bind fun d9 => (some ((⟨#[]⟩ : ByteArray), d9.1, d9.2.1, d9.2.2.1, d9.2.2.2.1, d9.2.2.2.2))) else (if x6.length + fk.1.length < 140737488355328 then (signetryref14_Reader_str.l0 k x3 x4 x5 (x6 ++ fk.1) (wrap64 ((wrap64 (x7 + 1)) + fk.2)) ao ap aU aV aQ) else (none)))) else (none)) else (none))) else (if x6.length < 140737488355328 then (signetryref14_Reader_str.l0 k x3 x4 x5 (x6 ++ [bt ao x7]) (wrap64 (x7 + 1)) ao ap aU aV aQ) else (none)))) else (none)) else (none)) else (signetryref14_Reader_str.j2 k x3 x4 x5 x6 ao ap aU aV aQ)
end
def signetryref14_Reader_str.f (k : Nat) (ag : ByteArray) (ae : Int) (aT : Int) (aX : Int) (aK : Int) : Option (ByteArray × ByteArray × Int × Int × Int × Int) := (signetryref14_Reader_word.f k ag ae aT aX aK (⟨#[34]⟩ : ByteArray)).bind fun aW => (if aW.2.2.2.2 = 0 then ((signetryref14_end.f k aW.1 ae).bind fun cG => (if cG.2 = true then (signetryref14_Reader_str.j0 k ae cG.1 cG.2 aW.1 aW.2.1 aW.2.2.1 aW.2.2.2.1 aW.2.2.2.2) else (signetryref14_Reader_str.j0 k ae (aW.1.size : Int) cG.2 aW.1 aW.2.1 aW.2.2.1 aW.2.2.2.1 aW.2.2.2.2))) else (some ((⟨#[]⟩ : ByteArray), aW.1, aW.2.1, aW.2.2.1, aW.2.2.2.1, aW.2.2.2.2)))
theorem signetryref14_Reader_str.mono_l : ∀ k, (∀ y0 y1 y2 y3 y4 y5 y6 y7, LeO (signetryref14_Reader_str.j0 k y0 y1 y2 y3 y4 y5 y6 y7) (signetryref14_Reader_str.j0 (k + 1) y0 y1 y2 y3 y4 y5 y6 y7)) ∧ (∀ y0 y1 y2 y3 y4 y5 y6 y7 y8, LeO (signetryref14_Reader_str.j2 k y0 y1 y2 y3 y4 y5 y6 y7 y8) (signetryref14_Reader_str.j2 (k + 1) y0 y1 y2 y3 y4 y5 y6 y7 y8)) ∧ (∀ y0 y1 y2 y3 y4 y5 y6 y7 y8 y9, LeO (signetryref14_Reader_str.l0 k y0 y1 y2 y3 y4 y5 y6 y7 y8 y9) (signetryref14_Reader_str.l0 (k + 1) y0 y1 y2 y3 y4 y5 y6 y7 y8 y9))
 | 0 => ⟨fun _ _ _ _ _ _ _ _ r h => by simp [signetryref14_Reader_str.j0] at h, fun _ _ _ _ _ _ _ _ _ r h => by simp [signetryref14_Reader_str.j2] at h, fun _ _ _ _ _ _ _ _ _ _ r h => by simp [signetryref14_Reader_str.l0] at h⟩
 | k + 1 => by
  obtain ⟨ih0, ih1, ih2⟩ := signetryref14_Reader_str.mono_l k
  refine ⟨?_, ?_, ?_⟩
  ·intro y0 y1 y2 y3 y4 y5 y6 y7
   unfold signetryref14_Reader_str.j0
   have m0 := @signetryref02_Valid.mono
   have m1 := @signetryref14_Reader_word.mono
   have m2 := @signetryref14_end.mono
   have m3 := @signetryref14_escape.mono
   exact moz
  ·intro y0 y1 y2 y3 y4 y5 y6 y7 y8
   unfold signetryref14_Reader_str.j2
   have m0 := @signetryref02_Valid.mono
   have m1 := @signetryref14_Reader_word.mono
   have m2 := @signetryref14_end.mono
   have m3 := @signetryref14_escape.mono
   exact moz
  ·intro y0 y1 y2 y3 y4 y5 y6 y7 y8 y9
   unfold signetryref14_Reader_str.l0
   have m0 := @signetryref02_Valid.mono
   have m1 := @signetryref14_Reader_word.mono
   have m2 := @signetryref14_end.mono
   have m3 := @signetryref14_escape.mono
   exact moz
theorem signetryref14_Reader_str.mono : ∀ a0 a1 a2 a3 a4 k, LeO (signetryref14_Reader_str.f k a0 a1 a2 a3 a4) (signetryref14_Reader_str.f (k + 1) a0 a1 a2 a3 a4) := by
  intro a0 a1 a2 a3 a4 k
  obtain ⟨ih0, ih1, ih2⟩ := signetryref14_Reader_str.mono_l k
  unfold signetryref14_Reader_str.f
  have m0 := @signetryref02_Valid.mono
  have m1 := @signetryref14_Reader_word.mono
  have m2 := @signetryref14_end.mono
  have m3 := @signetryref14_escape.mono
  exact moz
theorem signetryref14_Reader_str.calls (k : Nat) (g : Nat) (ag : ByteArray) (ae : Int) (aT : Int) (aX : Int) (aK : Int) (r1 : ByteArray) (r2 : ByteArray) (r3 : Int) (r4 : Int) (r5 : Int) (r6 : Int) (w0 w : World) (hI : IsS95 w0 w g ag ae aT aX aK) (hB : Below w0.heap.size w0 w) (h : signetryref14_Reader_str.f k ag ae aT aX aK = some (r1, r2, r3, r4, r5, r6)) :
 Calls Tryz.prog 81 #[.pointer (some ⟨g, 0, none⟩)] w fun e w' => e = .returned (.string r1) ∧ IsS95 w0 w' g r2 r3 r4 r5 r6 ∧ Below w0.heap.size w0 w' ∧ KeepBut w w' g none := by
 have HI0 := Aside0.mk hI
 have HK := Aside0.mk (KeepBut.refl w g none)
 have HL := Aside0.mk hB.size
 clear hI
 have HW0 := Aside0.mk hB.size
 have HB := Aside0.mk hB
 clear hB
 have H : ((signetryref14_Reader_word.f k ag ae aT aX aK (⟨#[34]⟩ : ByteArray)).bind fun aW => (if aW.2.2.2.2 = 0 then ((signetryref14_end.f k aW.1 ae).bind fun cG => (if cG.2 = true then (signetryref14_Reader_str.j0 k ae cG.1 cG.2 aW.1 aW.2.1 aW.2.2.1 aW.2.2.2.1 aW.2.2.2.2) else (signetryref14_Reader_str.j0 k ae (aW.1.size : Int) cG.2 aW.1 aW.2.1 aW.2.2.1 aW.2.2.2.1 aW.2.2.2.2))) else (some ((⟨#[]⟩ : ByteArray), aW.1, aW.2.1, aW.2.2.1, aW.2.2.2.1, aW.2.2.2.2)))) = some (r1, r2, r3, r4, r5, r6) := h
 clear h
 replace H := Option.bind_eq_some_iff.mp H
 obtain ⟨⟨cO, dH, dI, dJ, cU⟩, A20, H⟩ := H
 replace H : (if cU = 0 then ((signetryref14_end.f k cO ae).bind fun cG => (if cG.2 = true then (signetryref14_Reader_str.j0 k ae cG.1 cG.2 cO dH dI dJ cU) else (signetryref14_Reader_str.j0 k ae (cO.size : Int) cG.2 cO dH dI dJ cU))) else (some ((⟨#[]⟩ : ByteArray), cO, dH, dI, dJ, cU))) = some (r1, r2, r3, r4, r5, r6) := H
 have A2 := Aside0.mk A20
 clear A20
 by_cases c3 : cU = 0
 case neg =>
  rw [if_neg c3] at H
  have bQ : (cU == 0) = false := beq_eq_false_iff_ne.mpr c3
  have cW : (cU != 0) = true := bne_iff_ne.mpr c3
  simp only [Option.some.injEq, Prod.mk.injEq] at H
  obtain ⟨rfl, rfl, rfl, rfl, rfl, rfl⟩ := H
  obtain ⟨HGz53, hgz53⟩ := HI0.out
  have hcz53_0 := cellS95_0 HGz53
  have hcz53_1 := cellS95_1 HGz53
  have hcz53_2 := cellS95_2 HGz53
  have hcz53_3 := cellS95_3 HGz53
  have hcz53_4 := cellS95_4 HGz53
  have hfz53_0 := blk_frozen HGz53 0
  have hfz53_1 := blk_frozen HGz53 1
  have hfz53_2 := blk_frozen HGz53 2
  have hfz53_3 := blk_frozen HGz53 3
  have hfz53_4 := blk_frozen HGz53 4
  clear HGz53 hgz53
  go_enter Tryz.func81, Tryz.ntmps81
  go_wp2_with (first | ((with_reducible refine gate_callee (f := 80) rfl ?_); refine goesL_ (some 16) rfl rfl Tryz.func80 p8z rfl #[.pointer (some ⟨g, 0, none⟩), .string (⟨#[34]⟩ : ByteArray)] rfl p5z ?_; (with_reducible refine (signetryref14_Reader_word.calls k g ag ae aT aX aK (⟨#[34]⟩ : ByteArray) cO dH dI dJ cU w0 _ ?side1 ?side2 A2.out).mono ?_); (case side1 => exact p1z); (case side2 => exact p2z); rintro e w54 ⟨rfl, hi, hb, hk⟩; refine ⟨_, rfl, ?_⟩; have z_ := asi3 (KeepBut.trans p3z hk (.inl rfl)) (hb) (hi); clear HK HB HI0; obtain ⟨HK, HB, HI0⟩ := z_; (try clear hb hk hi); obtain ⟨HGz55, hgz55⟩ := HI0.out; have hcz55_0 := cellS95_0 HGz55; have hcz55_1 := cellS95_1 HGz55; have hcz55_2 := cellS95_2 HGz55; have hcz55_3 := cellS95_3 HGz55; have hcz55_4 := cellS95_4 HGz55; have hfz55_0 := blk_frozen HGz55 0; have hfz55_1 := blk_frozen HGz55 1; have hfz55_2 := blk_frozen HGz55 2; have hfz55_3 := blk_frozen HGz55 3; have hfz55_4 := blk_frozen HGz55 4; clear HGz55 hgz55))
  go_ret
  exact ⟨p6z, p1z, p2z, p3z⟩
 rw [if_pos c3] at H
 have bQ : (cU == 0) = true := beq_iff_eq.mpr c3
 have cW : (cU != 0) = false := bne_eq_false_iff_eq.mpr c3
 clear c3
 replace H := Option.bind_eq_some_iff.mp H
 obtain ⟨⟨t290, dK⟩, A40, H⟩ := H
 replace H : (if dK = true then (signetryref14_Reader_str.j0 k ae t290 dK cO dH dI dJ cU) else (signetryref14_Reader_str.j0 k ae (cO.size : Int) dK cO dH dI dJ cU)) = some (r1, r2, r3, r4, r5, r6) := H
 have A4 := Aside0.mk A40
 clear A40
 have HC5 := Aside0.mk H
 clear H
 obtain ⟨HGz6, hgz6⟩ := HI0.out
 have hcz6_0 := cellS95_0 HGz6
 have hcz6_1 := cellS95_1 HGz6
 have hcz6_2 := cellS95_2 HGz6
 have hcz6_3 := cellS95_3 HGz6
 have hcz6_4 := cellS95_4 HGz6
 have hfz6_0 := blk_frozen HGz6 0
 have hfz6_1 := blk_frozen HGz6 1
 have hfz6_2 := blk_frozen HGz6 2
 have hfz6_3 := blk_frozen HGz6 3
 have hfz6_4 := blk_frozen HGz6 4
 clear HGz6 hgz6
 go_enter Tryz.func81, Tryz.ntmps81
 go_upto_if 32 with (first | ((with_reducible refine gate_callee (f := 80) rfl ?_); refine goesL_ (some 16) rfl rfl Tryz.func80 p8z rfl #[.pointer (some ⟨g, 0, none⟩), .string (⟨#[34]⟩ : ByteArray)] rfl p5z ?_; (with_reducible refine (signetryref14_Reader_word.calls k g ag ae aT aX aK (⟨#[34]⟩ : ByteArray) cO dH dI dJ cU w0 _ ?side1 ?side2 A2.out).mono ?_); (case side1 => exact p1z); (case side2 => exact p2z); rintro e w7 ⟨rfl, hi, hb, hk⟩; refine ⟨_, rfl, ?_⟩; have z_ := asi3 (KeepBut.trans p3z hk (.inl rfl)) (hb) (hi); clear HK HB HI0; obtain ⟨HK, HB, HI0⟩ := z_; (try clear hb hk hi); obtain ⟨HGz8, hgz8⟩ := HI0.out; have hcz8_0 := cellS95_0 HGz8; have hcz8_1 := cellS95_1 HGz8; have hcz8_2 := cellS95_2 HGz8; have hcz8_3 := cellS95_3 HGz8; have hcz8_4 := cellS95_4 HGz8; have hfz8_0 := blk_frozen HGz8 0; have hfz8_1 := blk_frozen HGz8 1; have hfz8_2 := blk_frozen HGz8 2; have hfz8_3 := blk_frozen HGz8 3; have hfz8_4 := blk_frozen HGz8 4; clear HGz8 hgz8) | ((with_reducible refine gate_callee (f := 100) rfl ?_); refine goesL_ (some 28) rfl rfl Tryz.func100 p8z rfl #[.string cO, .int .i64 ae] rfl p5z ?_; (with_reducible refine (signetryref14_end.calls k cO ae t290 dK _ A4.out).mono ?_); rintro e w' ⟨rfl, ⟨nd, rfl⟩⟩; refine ⟨_, rfl, ?_⟩))
 (try simp only [Act.put, List.setIfInBounds_toArray, List.set_cons_zero, List.set_cons_succ])
 go_cut [4] (fun v4 wc => ∃ (kq : Nat) (cl : Int), v4 = .int .i64 cl ∧ Aside0 (signetryref14_Reader_str.j0 kq ae cl dK cO dH dI dJ cU = some (r1, r2, r3, r4, r5, r6)) ∧ Aside0 (kq ≤ k) ∧ Aside0 (IsS95 w0 wc g cO dH dI dJ cU) ∧ Aside0 (KeepBut w wc g none) ∧ Aside0 (Below w0.heap.size w0 wc))
 case first =>
  have H := HC5.out
  clear HC5
  by_cases c9 : dK = true
  case pos =>
   subst c9
   have H1 : (signetryref14_Reader_str.j0 k ae t290 true cO dH dI dJ cU) = some (r1, r2, r3, r4, r5, r6) := p53z
   clear H
   have H := H1
   clear H1
   have H' := Aside0.mk H
   clear H
   go_wp2
   go_meet
   case rel => exact ⟨_, (t290), p7z, H', ⟨p66z⟩, ⟨p1z⟩, ⟨p3z⟩, ⟨p2z⟩⟩
  replace c9 := Bool.eq_false_iff.mpr c9
  subst c9
  have H1 : (signetryref14_Reader_str.j0 k ae (cO.size : Int) false cO dH dI dJ cU) = some (r1, r2, r3, r4, r5, r6) := p27z
  clear H
  have H := H1
  clear H1
  have H' := Aside0.mk H
  clear H
  obtain ⟨HGz10, hgz10⟩ := HI0.out
  have hcz10_0 := cellS95_0 HGz10
  have hcz10_1 := cellS95_1 HGz10
  have hcz10_2 := cellS95_2 HGz10
  have hcz10_3 := cellS95_3 HGz10
  have hcz10_4 := cellS95_4 HGz10
  have hfz10_0 := blk_frozen HGz10 0
  have hfz10_1 := blk_frozen HGz10 1
  have hfz10_2 := blk_frozen HGz10 2
  have hfz10_3 := blk_frozen HGz10 3
  have hfz10_4 := blk_frozen HGz10 4
  clear HGz10 hgz10
  go_wp2
  go_meet
  case rel => exact ⟨_, ((cO.size : Int)), p7z, H', ⟨p66z⟩, ⟨p1z⟩, ⟨p3z⟩, ⟨p2z⟩⟩
 case rest =>
  clear HC5
  try clear c1
  try clear p2
  try clear c3
  try clear bQ
  try clear cW
  try clear c8
  try clear c9
  try clear c10
  try clear hcz10_0
  try clear hcz10_1
  try clear hcz10_2
  try clear hcz10_3
  try clear hcz10_4
  try clear hcz6_0
  try clear hcz6_1
  try clear hcz6_2
  try clear hcz6_3
  try clear hcz6_4
  try clear hcz8_0
  try clear hcz8_1
  try clear hcz8_2
  try clear hcz8_3
  try clear hcz8_4
  try clear hfz10_0
  try clear hfz10_1
  try clear hfz10_2
  try clear hfz10_3
  try clear hfz10_4
  try clear hfz6_0
  try clear hfz6_1
  try clear hfz6_2
  try clear hfz6_3
  try clear hfz6_4
  try clear hfz8_0
  try clear hfz8_1
  try clear hfz8_2
  try clear hfz8_3
  try clear hfz8_4
  obtain ⟨kq, cl, rfl, HA, HJ4, HI0, HK, HB⟩ := hcut
  cases kq with
  | zero => exact absurd HA.out (by simp [signetryref14_Reader_str.j0])
  | succ kj4 =>
   have H := HA.out
   clear HA
   simp only [signetryref14_Reader_str.j0] at H
   have HC11 := Aside0.mk H
   clear H
   go_upto_block 0 with (fail)
   go_cut [6] (fun v6 wc => ∃ (kq : Nat) (da : List Int) (b7 : ByteArray) (bW : Int) (bz : Int) (bA : Int) (bB : Int), Aside0 (signetryref14_Reader_str.j2 kq ae cl dK da b7 bW bz bA bB = some (r1, r2, r3, r4, r5, r6)) ∧ Aside0 (kq ≤ kj4) ∧ Aside0 (Kd.R (Kd.int .u8) 5 wc w.heap.size (fun _ => True) v6 da) ∧ Aside0 (IsS95 w0 wc g b7 bW bz bA bB) ∧ Aside0 (KeepBut w wc g none) ∧ Aside0 (Below w0.heap.size w0 wc))
   case first =>
    have H := HC11.out
    clear HC11
    have H' := Aside0.mk H
    clear H
    go_wp2
    go_loopg [6, 7] kj4 (fun kq v6 v7 w' => ∃ (cg : List Int) (aM : Int) (ai : ByteArray) (af : Int) (bG : Int) (bH : Int) (bI : Int), v7 = .int .i64 aM ∧ Aside0 (signetryref14_Reader_str.l0 kq ae cl dK cg aM ai af bG bH bI = some (r1, r2, r3, r4, r5, r6)) ∧ Aside0 (kq ≤ kj4) ∧ Aside0 (Kd.R (Kd.int .u8) 5 w' w.heap.size (fun _ => True) v6 cg) ∧ Aside0 (IsS95 w0 w' g ai af bG bH bI) ∧ Aside0 (KeepBut w w' g none) ∧ Aside0 (Below w0.heap.size w0 w'))
    case atStart => exact ⟨(([] : List Int)), (wrap64 (ae + 1)), (cO), (dH), (dI), (dJ), (cU), p7z, H', ⟨Nat.le_refl _⟩, ⟨p22z⟩, ⟨p1z⟩, ⟨p3z⟩, ⟨p2z⟩⟩
    case round =>
     clear H'
     try clear c1
     try clear p2
     try clear c3
     try clear bQ
     try clear cW
     try clear p6
     try clear c8
     try clear c9
     try clear c10
     try clear hcz10_0
     try clear hcz10_1
     try clear hcz10_2
     try clear hcz10_3
     try clear hcz10_4
     try clear hcz6_0
     try clear hcz6_1
     try clear hcz6_2
     try clear hcz6_3
     try clear hcz6_4
     try clear hcz8_0
     try clear hcz8_1
     try clear hcz8_2
     try clear hcz8_3
     try clear hcz8_4
     try clear hfz10_0
     try clear hfz10_1
     try clear hfz10_2
     try clear hfz10_3
     try clear hfz10_4
     try clear hfz6_0
     try clear hfz6_1
     try clear hfz6_2
     try clear hfz6_3
     try clear hfz6_4
     try clear hfz8_0
     try clear hfz8_1
     try clear hfz8_2
     try clear hfz8_3
     try clear hfz8_4
     try clear p2
     obtain ⟨cg, aM, ai, af, bG, bH, bI, rfl, HA, HK2, cb, HI0, HK, HB⟩ := hrel
     cases gk with
     | zero => exact absurd HA.out (by simp [signetryref14_Reader_str.l0])
     | succ k2 =>
      have H := HA.out
      clear HA
      simp only [signetryref14_Reader_str.l0] at H
      by_cases c12 : aM < cl
      case neg =>
       rw [if_neg c12] at H
       have cF : decide (aM < cl) = false := decide_eq_false c12
       clear c12
       (first | rw [cF] | (simp only [i64_w, i32_w]; rw [cF]) | skip)
       have H' := Aside0.mk H
       clear H
       go_wp2
       go_meet
       case rel => exact ⟨_, (cg), (ai), (af), (bG), (bH), (bI), H', ⟨by have := HJ4.out; have := HK2.out; first | omega | exact Nat.le_refl _⟩, ⟨p17z⟩, ⟨p1z⟩, ⟨p3z⟩, ⟨p2z⟩⟩
      rw [if_pos c12] at H
      have cF : decide (aM < cl) = true := decide_eq_true c12
      clear c12
      (first | rw [cF] | (simp only [i64_w, i32_w]; rw [cF]) | skip)
      by_cases c13 : 0 ≤ aM
      case neg =>
       rw [if_neg c13] at H
       exact absurd H (by simp)
      rw [if_pos c13] at H
      have dY : decide (0 ≤ aM) = true := decide_eq_true c13
      clear c13
      by_cases c14 : aM < (ai.size : Int)
      case neg =>
       rw [if_neg c14] at H
       exact absurd H (by simp)
      rw [if_pos c14] at H
      have dV : decide (aM < (ai.size : Int)) = true := decide_eq_true c14
      clear c14
      by_cases c16 : (bt ai aM) < 32
      case pos =>
       rw [if_pos c16] at H
       have dX : decide ((bt ai aM) < 32) = true := decide_eq_true c16
       clear c16
       replace H := Option.bind_eq_some_iff.mp H
       obtain ⟨⟨t292, t293, t294, t295, t296⟩, A170, H⟩ := H
       replace H : (some ((⟨#[]⟩ : ByteArray), t292, t293, t294, t295, t296)) = some (r1, r2, r3, r4, r5, r6) := H
       have A17 := Aside0.mk A170
       clear A170
       simp only [Option.some.injEq, Prod.mk.injEq] at H
       obtain ⟨rfl, rfl, rfl, rfl, rfl, rfl⟩ := H
       obtain ⟨HGz18, hgz18⟩ := HI0.out
       have hcz18_0 := cellS95_0 HGz18
       have hcz18_1 := cellS95_1 HGz18
       have hcz18_2 := cellS95_2 HGz18
       have hcz18_3 := cellS95_3 HGz18
       have hcz18_4 := cellS95_4 HGz18
       have hfz18_0 := blk_frozen HGz18 0
       have hfz18_1 := blk_frozen HGz18 1
       have hfz18_2 := blk_frozen HGz18 2
       have hfz18_3 := blk_frozen HGz18 3
       have hfz18_4 := blk_frozen HGz18 4
       clear HGz18 hgz18
       have p15 : 0 ≤ (aM : Int) := of_decide_eq_true p4z
       have q15 : aM < (ai.size : Int) := of_decide_eq_true p4z
       have hx15 := bt_at ai aM
       replace p15 := eq_true p15
       replace q15 := eq_true q15
       go_wp2_with (first | ((with_reducible refine gate_callee (f := 52) rfl ?_); refine goesL_ (some 53) rfl rfl Tryz.func52 p8z rfl #[.pointer (some ⟨g, 0, none⟩), .int .i64 ae, .int .i64 140] rfl p5z ?_; (with_reducible refine (signetryref14_Reader_fail.calls g ai af bG bH bI ae 140 t292 t293 t294 t295 t296 w0 _ ?side1 ?side2 A17.out).mono ?_); (case side1 => exact p1z); (case side2 => exact p2z); rintro e w19 ⟨rfl, hi, hb, hk⟩; refine ⟨_, rfl, ?_⟩; have z_ := asi4 (Kd.R_mono (Kd.R_keep (IsS95.apart (show IsS95 w0 _ g ai af bG bH bI from p1z) p17z (by decide)) hk (fun _ h => h.2)) (fun _ h => h.1)) (KeepBut.trans p3z hk (.inl rfl)) (hb) (hi); clear cb HK HB HI0; obtain ⟨cb, HK, HB, HI0⟩ := z_; (try clear hb hk hi)))
       go_ret
       exact ⟨p6z, p1z, p2z, p3z⟩
      rw [if_neg c16] at H
      have dX : decide ((bt ai aM) < 32) = false := decide_eq_false c16
      clear c16
      by_cases c20 : (bt ai aM) = 92
      case neg =>
       rw [if_neg c20] at H
       have c20b0 : ((bt ai aM) == 92) = false := beq_eq_false_iff_ne.mpr c20
       have c20b1 : ((bt ai aM) != 92) = true := bne_iff_ne.mpr c20
       by_cases c36 : cg.length < 140737488355328
       case neg =>
        rw [if_neg c36] at H
        exact absurd H (by simp)
       rw [if_pos c36] at H
       have LMc36 := Aside0.mk c36
       clear c36
       obtain ⟨y297, hy297⟩ : ∃ y_ : List Int, y_ = (cg ++ [bt ai aM]) := ⟨_, rfl⟩
       replace H : (signetryref14_Reader_str.l0 k2 ae cl dK y297 (wrap64 (aM + 1)) ai af bG bH bI) = some (r1, r2, r3, r4, r5, r6) := by first | (rw [hy297]; with_reducible exact H) | (have H2_ := (Option.bind_some _ _).symm.trans H; rw [hy297]; with_reducible exact H2_) | (have H2_ := (Option.bind_some _ _).symm.trans H; with_reducible exact H2_) | with_reducible exact H | (rw [hy297]; exact H) | exact H
       have Ny297 := Aside0.mk hy297
       clear hy297
       have H' := Aside0.mk H
       clear H
       obtain ⟨HGz37, hgz37⟩ := HI0.out
       have hcz37_0 := cellS95_0 HGz37
       have hcz37_1 := cellS95_1 HGz37
       have hcz37_2 := cellS95_2 HGz37
       have hcz37_3 := cellS95_3 HGz37
       have hcz37_4 := cellS95_4 HGz37
       have hfz37_0 := blk_frozen HGz37 0
       have hfz37_1 := blk_frozen HGz37 1
       have hfz37_2 := blk_frozen HGz37 2
       have hfz37_3 := blk_frozen HGz37 3
       have hfz37_4 := blk_frozen HGz37 4
       clear HGz37 hgz37
       have p15 : 0 ≤ (aM : Int) := of_decide_eq_true p4z
       have q15 : aM < (ai.size : Int) := of_decide_eq_true p4z
       have hx15 := bt_at ai aM
       replace p15 := eq_true p15
       replace q15 := eq_true q15
       go_wp2_with (first | ((with_reducible refine gate_builtin (b := .append) (xs := #[.tmp 56, .tmp 58]) rfl ?_); at_builtin; refine Kd.R_append (Kd.int .u8) w.heap.size rfl (.tmp 56) (.tmp 58) 23 5 (.int .u8 0) 1 rfl Tryz.underlying23 info5 rfl (by decide) (by omega) u6 cg (bt ai aM) [.int .u8 (bt ai aM)] (fun _ => True) (fun _ => False) rfl rfl ?aP (fun _ hk => hk.elim) ?aF ?aO (Below.refl _ _) ?aS ?aL ?_; (case aP => exact rfl); (case aF => exact (fun _ _ => trivial)); (case aO => exact p17z); (case aS => exact (keep_size (w := w) (g := g) (row := none) p3z)); (case aL => have := LMc36.out; omega); intro v298 w38 ho hb hg hat; rw [← Ny297.out] at ho; have z_ := asi4 (IsS95.grown p1z hg (IsS95.own_ne HI0.out cb.out (by decide))) (below_weaken p2z HL.out hb) (KeepBut.trans p3z (KeepBut.of_grown hg g) (Kd.R_base2 cb.out)) (ho); clear HI0 HB HK cb; obtain ⟨HI0, HB, HK, HO299⟩ := z_; clear ho hb hg hat))
       go_roundg k2
       case measure => have := HJ4.out; have := HK2.out; omega
       case rel => exact ⟨(y297), (wrap64 (aM + 1)), (ai), (af), (bG), (bH), (bI), p7z, H', ⟨by have := HJ4.out; have := HK2.out; omega⟩, ⟨q0z HO299.out⟩, ⟨p1z⟩, ⟨p3z⟩, ⟨p2z⟩⟩
      rw [if_pos c20] at H
      have c20b0 : ((bt ai aM) == 92) = true := beq_iff_eq.mpr c20
      have c20b1 : ((bt ai aM) != 92) = false := bne_eq_false_iff_eq.mpr c20
      clear c20
      by_cases c21 : (wrap64 (aM + 1)) = cl
      case pos =>
       rw [if_pos c21] at H
       have dp : ((wrap64 (aM + 1)) == cl) = true := beq_iff_eq.mpr c21
       have dq : ((wrap64 (aM + 1)) != cl) = false := bne_eq_false_iff_eq.mpr c21
       clear c21
       have H' := Aside0.mk H
       clear H
       obtain ⟨HGz22, hgz22⟩ := HI0.out
       have hcz22_0 := cellS95_0 HGz22
       have hcz22_1 := cellS95_1 HGz22
       have hcz22_2 := cellS95_2 HGz22
       have hcz22_3 := cellS95_3 HGz22
       have hcz22_4 := cellS95_4 HGz22
       have hfz22_0 := blk_frozen HGz22 0
       have hfz22_1 := blk_frozen HGz22 1
       have hfz22_2 := blk_frozen HGz22 2
       have hfz22_3 := blk_frozen HGz22 3
       have hfz22_4 := blk_frozen HGz22 4
       clear HGz22 hgz22
       have p15 : 0 ≤ (aM : Int) := of_decide_eq_true p4z
       have q15 : aM < (ai.size : Int) := of_decide_eq_true p4z
       have hx15 := bt_at ai aM
       replace p15 := eq_true p15
       replace q15 := eq_true q15
       go_wp2
       go_meet
       case rel => exact ⟨_, (cg), (ai), (af), (bG), (bH), (bI), H', ⟨by have := HJ4.out; have := HK2.out; first | omega | exact Nat.le_refl _⟩, ⟨p17z⟩, ⟨p1z⟩, ⟨p3z⟩, ⟨p2z⟩⟩
      rw [if_neg c21] at H
      have dp : ((wrap64 (aM + 1)) == cl) = false := beq_eq_false_iff_ne.mpr c21
      have dq : ((wrap64 (aM + 1)) != cl) = true := bne_iff_ne.mpr c21
      by_cases c23 : 0 ≤ cl
      case neg =>
       rw [if_neg c23] at H
       exact absurd H (by simp)
      rw [if_pos c23] at H
      have c23b0 := eq_true c23
      have c23b1 : decide (0 ≤ cl) = true := decide_eq_true c23
      clear c23
      by_cases c24 : cl ≤ (ai.size : Int)
      case neg =>
       rw [if_neg c24] at H
       exact absurd H (by simp)
      rw [if_pos c24] at H
      have dr := eq_true c24
      have c24b1 : decide (cl ≤ (ai.size : Int)) = true := decide_eq_true c24
      clear c24
      replace H := Option.bind_eq_some_iff.mp H
      obtain ⟨⟨eN, dR⟩, A250, H⟩ := H
      replace H : (if dR = 0 then ((signetryref14_Reader_fail.f ai af bG bH bI ae 140).bind fun d9 => (some ((⟨#[]⟩ : ByteArray), d9.1, d9.2.1, d9.2.2.1, d9.2.2.2.1, d9.2.2.2.2))) else (if cg.length + eN.length < 140737488355328 then (signetryref14_Reader_str.l0 k2 ae cl dK (cg ++ eN) (wrap64 ((wrap64 (aM + 1)) + dR)) ai af bG bH bI) else (none))) = some (r1, r2, r3, r4, r5, r6) := H
      have A25 := Aside0.mk A250
      clear A250
      by_cases c26 : dR = 0
      case pos =>
       rw [if_pos c26] at H
       have dC : (dR == 0) = true := beq_iff_eq.mpr c26
       have fK : (dR != 0) = false := bne_eq_false_iff_eq.mpr c26
       clear c26
       replace H := Option.bind_eq_some_iff.mp H
       obtain ⟨⟨t304, t305, t306, t307, t308⟩, A270, H⟩ := H
       replace H : (some ((⟨#[]⟩ : ByteArray), t304, t305, t306, t307, t308)) = some (r1, r2, r3, r4, r5, r6) := H
       have A27 := Aside0.mk A270
       clear A270
       simp only [Option.some.injEq, Prod.mk.injEq] at H
       obtain ⟨rfl, rfl, rfl, rfl, rfl, rfl⟩ := H
       obtain ⟨HGz28, hgz28⟩ := HI0.out
       have hcz28_0 := cellS95_0 HGz28
       have hcz28_1 := cellS95_1 HGz28
       have hcz28_2 := cellS95_2 HGz28
       have hcz28_3 := cellS95_3 HGz28
       have hcz28_4 := cellS95_4 HGz28
       have hfz28_0 := blk_frozen HGz28 0
       have hfz28_1 := blk_frozen HGz28 1
       have hfz28_2 := blk_frozen HGz28 2
       have hfz28_3 := blk_frozen HGz28 3
       have hfz28_4 := blk_frozen HGz28 4
       clear HGz28 hgz28
       have p15 : 0 ≤ (aM : Int) := of_decide_eq_true p4z
       have q15 : aM < (ai.size : Int) := of_decide_eq_true p4z
       have hx15 := bt_at ai aM
       replace p15 := eq_true p15
       replace q15 := eq_true q15
       go_wp2_with (first | ((with_reducible refine gate_callee (f := 101) rfl ?_); refine goesL_ (some 75) rfl rfl Tryz.func101 p8z rfl #[.string (ai.extract 0 (cl : Int).toNat), .int .i64 (wrap64 (aM + 1))] rfl p5z ?_; (with_reducible refine (signetryref14_escape.calls k2 (ai.extract 0 (cl : Int).toNat) (wrap64 (aM + 1)) eN dR _ A25.out).mono ?_); rintro e w29 ⟨v302, rfl, ho0, hb⟩; refine ⟨_, rfl, ?_⟩; have z_ := asi5 (Kd.R_elder' p17z (Kd.R_base ho0) hb) (Kd.R_lower (Kd.R_new' ho0 (Kd.R_lt p17z)) (keep_size (w := w) (g := g) (row := none) p3z)) (IsS95.below p1z hb) (KeepBut.trans p3z (KeepBut.of_below hb g none) (.inl rfl)) (below_step p2z hb); clear cb HI0 HK HB; obtain ⟨cb, dh, HI0, HK, HB⟩ := z_; (try clear hb hk hi ho0)) | ((with_reducible refine gate_callee (f := 52) rfl ?_); refine goesL_ (some 82) rfl rfl Tryz.func52 p8z rfl #[.pointer (some ⟨g, 0, none⟩), .int .i64 ae, .int .i64 140] rfl p5z ?_; (with_reducible refine (signetryref14_Reader_fail.calls g ai af bG bH bI ae 140 t304 t305 t306 t307 t308 w0 _ ?side1 ?side2 A27.out).mono ?_); (case side1 => exact p1z); (case side2 => exact p2z); rintro e w30 ⟨rfl, hi, hb, hk⟩; refine ⟨_, rfl, ?_⟩; have z_ := asi5 (Kd.R_mono (Kd.R_keep (IsS95.apart (show IsS95 w0 _ g ai af bG bH bI from p1z) p17z (by decide)) hk (fun _ h => h.2)) (fun _ h => h.1)) (Kd.R_mono (Kd.R_keep (IsS95.apart (show IsS95 w0 _ g ai af bG bH bI from p1z) (q0z dh.out) (by decide)) hk (fun _ h => h.2)) (fun _ h => h.1)) (KeepBut.trans p3z hk (.inl rfl)) (hb) (hi); clear cb dh HK HB HI0; obtain ⟨cb, dh, HK, HB, HI0⟩ := z_; (try clear hb hk hi)))
       go_ret
       exact ⟨p6z, p1z, p2z, p3z⟩
      rw [if_neg c26] at H
      have dC : (dR == 0) = false := beq_eq_false_iff_ne.mpr c26
      have fK : (dR != 0) = true := bne_iff_ne.mpr c26
      by_cases c31 : cg.length + eN.length < 140737488355328
      case neg =>
       rw [if_neg c31] at H
       exact absurd H (by simp)
      rw [if_pos c31] at H
      have LMc31 := Aside0.mk c31
      clear c31
      obtain ⟨y309, hy309⟩ : ∃ y_ : List Int, y_ = (cg ++ eN) := ⟨_, rfl⟩
      replace H : (signetryref14_Reader_str.l0 k2 ae cl dK y309 (wrap64 ((wrap64 (aM + 1)) + dR)) ai af bG bH bI) = some (r1, r2, r3, r4, r5, r6) := by first | (rw [hy309]; with_reducible exact H) | (have H2_ := (Option.bind_some _ _).symm.trans H; rw [hy309]; with_reducible exact H2_) | (have H2_ := (Option.bind_some _ _).symm.trans H; with_reducible exact H2_) | with_reducible exact H | (rw [hy309]; exact H) | exact H
      have Ny309 := Aside0.mk hy309
      clear hy309
      have H' := Aside0.mk H
      clear H
      obtain ⟨HGz32, hgz32⟩ := HI0.out
      have hcz32_0 := cellS95_0 HGz32
      have hcz32_1 := cellS95_1 HGz32
      have hcz32_2 := cellS95_2 HGz32
      have hcz32_3 := cellS95_3 HGz32
      have hcz32_4 := cellS95_4 HGz32
      have hfz32_0 := blk_frozen HGz32 0
      have hfz32_1 := blk_frozen HGz32 1
      have hfz32_2 := blk_frozen HGz32 2
      have hfz32_3 := blk_frozen HGz32 3
      have hfz32_4 := blk_frozen HGz32 4
      clear HGz32 hgz32
      have p15 : 0 ≤ (aM : Int) := of_decide_eq_true p4z
      have q15 : aM < (ai.size : Int) := of_decide_eq_true p4z
      have hx15 := bt_at ai aM
      replace p15 := eq_true p15
      replace q15 := eq_true q15
      go_wp2_with (first | ((with_reducible refine gate_callee (f := 101) rfl ?_); refine goesL_ (some 75) rfl rfl Tryz.func101 p8z rfl #[.string (ai.extract 0 (cl : Int).toNat), .int .i64 (wrap64 (aM + 1))] rfl p5z ?_; (with_reducible refine (signetryref14_escape.calls k2 (ai.extract 0 (cl : Int).toNat) (wrap64 (aM + 1)) eN dR _ A25.out).mono ?_); rintro e w33 ⟨v302, rfl, ho0, hb⟩; refine ⟨_, rfl, ?_⟩; have z_ := asi5 (Kd.R_elder' p17z (Kd.R_base ho0) hb) (Kd.R_lower (Kd.R_new' ho0 (Kd.R_lt p17z)) (keep_size (w := w) (g := g) (row := none) p3z)) (IsS95.below p1z hb) (KeepBut.trans p3z (KeepBut.of_below hb g none) (.inl rfl)) (below_step p2z hb); clear cb HI0 HK HB; obtain ⟨cb, dh, HI0, HK, HB⟩ := z_; (try clear hb hk ho0); obtain ⟨fy, co35, eo35⟩ := Kd.R_slice dh.out; subst eo35) | ((with_reducible refine gate_builtin (b := .append) (xs := #[.tmp 83, .tmp 84]) rfl ?_); at_builtin; refine Kd.R_append_rows (Kd.int .u8) w.heap.size rfl (.tmp 83) (.tmp 84) 23 5 (.int .u8 0) 1 rfl Tryz.underlying23 info5 rfl (by decide) (by omega) u6 cg eN _ _ _ (fun k_ => some k_ ≠ (.slice fy eN.length co35 : Value).ownBlock) (fun _ => False) rfl rfl ?aO ?aR (fun _ _ h => h) (fun _ h => h.elim) ?aF (Below.refl _ _) ?aS ?aL ?_; (case aR => repeat (first | exact (Kd.R_reads' dh.out).2.2 | (with_reducible refine Kd.C_alloc ?_ _) | (with_reducible refine Kd.C_drewN ?_ _) | (with_reducible refine Kd.C_drew ?_))); (case aF => exact (fun k_ hk => Kd.fresh' (Kd.R_lt (q0z dh.out)) k_ hk)); (case aO => exact (by (with_reducible repeat (first | apply Kd.R_alloc | apply Kd.R_drewN | apply Kd.R_drew)); exact Kd.R_mono cb.out (fun _ hk => hk.2))); (case aS => exact (keep_size (w := w) (g := g) (row := none) p3z)); (case aL => have := LMc31.out; omega); intro v310 w34 ho hb hg hat; rw [← Ny309.out] at ho; have z_ := asi5 (IsS95.grown p1z hg (IsS95.own_ne HI0.out cb.out (by decide))) (Kd.R_after (ok := (fun _ => True)) (q0z dh.out) hg hat) (below_weaken p2z HL.out hb) (KeepBut.trans p3z (KeepBut.of_grown hg g) (Kd.R_base2 cb.out)) (ho); clear HI0 dh HB HK cb; obtain ⟨HI0, dh, HB, HK, HO311⟩ := z_; clear ho hb hg hat))
      go_roundg k2
      case measure => have := HJ4.out; have := HK2.out; omega
      case rel => exact ⟨(y309), (wrap64 ((wrap64 (aM + 1)) + dR)), (ai), (af), (bG), (bH), (bI), p7z, H', ⟨by have := HJ4.out; have := HK2.out; omega⟩, ⟨by (with_reducible repeat (first | apply Kd.R_alloc | apply Kd.R_drewN | apply Kd.R_drew)); exact Kd.R_mono HO311.out (fun _ hk => trivial)⟩, ⟨p1z⟩, ⟨p3z⟩, ⟨p2z⟩⟩
   case rest =>
    clear HC11
    try clear c1
    try clear p1
    try clear q1
    try clear hx1
    try clear c2
    try clear p2
    try clear c3
    try clear bQ
    try clear cW
    try clear c5
    try clear p6
    try clear c8
    try clear c9
    try clear c10
    try clear c12
    try clear cF
    try clear c13
    try clear dY
    try clear c14
    try clear dV
    try clear p15
    try clear q15
    try clear hx15
    try clear c16
    try clear dX
    try clear c20
    try clear c20b0
    try clear c20b1
    try clear c21
    try clear dp
    try clear dq
    try clear c23
    try clear c23b0
    try clear c23b1
    try clear c24
    try clear dr
    try clear c24b1
    try clear c26
    try clear dC
    try clear fK
    try clear c31
    try clear c36
    try clear hcz10_0
    try clear hcz10_1
    try clear hcz10_2
    try clear hcz10_3
    try clear hcz10_4
    try clear hcz18_0
    try clear hcz18_1
    try clear hcz18_2
    try clear hcz18_3
    try clear hcz18_4
    try clear hcz22_0
    try clear hcz22_1
    try clear hcz22_2
    try clear hcz22_3
    try clear hcz22_4
    try clear hcz28_0
    try clear hcz28_1
    try clear hcz28_2
    try clear hcz28_3
    try clear hcz28_4
    try clear hcz32_0
    try clear hcz32_1
    try clear hcz32_2
    try clear hcz32_3
    try clear hcz32_4
    try clear hcz37_0
    try clear hcz37_1
    try clear hcz37_2
    try clear hcz37_3
    try clear hcz37_4
    try clear hcz6_0
    try clear hcz6_1
    try clear hcz6_2
    try clear hcz6_3
    try clear hcz6_4
    try clear hcz8_0
    try clear hcz8_1
    try clear hcz8_2
    try clear hcz8_3
    try clear hcz8_4
    try clear hfz10_0
    try clear hfz10_1
    try clear hfz10_2
    try clear hfz10_3
    try clear hfz10_4
    try clear hfz18_0
    try clear hfz18_1
    try clear hfz18_2
    try clear hfz18_3
    try clear hfz18_4
    try clear hfz22_0
    try clear hfz22_1
    try clear hfz22_2
    try clear hfz22_3
    try clear hfz22_4
    try clear hfz28_0
    try clear hfz28_1
    try clear hfz28_2
    try clear hfz28_3
    try clear hfz28_4
    try clear hfz32_0
    try clear hfz32_1
    try clear hfz32_2
    try clear hfz32_3
    try clear hfz32_4
    try clear hfz37_0
    try clear hfz37_1
    try clear hfz37_2
    try clear hfz37_3
    try clear hfz37_4
    try clear hfz6_0
    try clear hfz6_1
    try clear hfz6_2
    try clear hfz6_3
    try clear hfz6_4
    try clear hfz8_0
    try clear hfz8_1
    try clear hfz8_2
    try clear hfz8_3
    try clear hfz8_4
    try clear p15
    try clear p2
    try clear p6
    try clear q15
    obtain ⟨kq, da, b7, bW, bz, bA, bB, HA, HJ10, cb, HI0, HK, HB⟩ := hcut
    cases kq with
    | zero => exact absurd HA.out (by simp [signetryref14_Reader_str.j2])
    | succ kj10 =>
     have H := HA.out
     clear HA
     simp only [signetryref14_Reader_str.j2] at H
     by_cases c39 : dK = true
     case neg =>
      replace c39 := Bool.eq_false_iff.mpr c39
      subst c39
      have H1 : ((signetryref14_Reader_fail.f b7 bW bz bA bB (b7.size : Int) 140).bind fun d8 => (some ((⟨#[]⟩ : ByteArray), d8.1, d8.2.1, d8.2.2.1, d8.2.2.2.1, d8.2.2.2.2))) = some (r1, r2, r3, r4, r5, r6) := p27z
      clear H
      have H := H1
      clear H1
      replace H := Option.bind_eq_some_iff.mp H
      obtain ⟨⟨t312, t313, t314, t315, t316⟩, A500, H⟩ := H
      replace H : (some ((⟨#[]⟩ : ByteArray), t312, t313, t314, t315, t316)) = some (r1, r2, r3, r4, r5, r6) := H
      have A50 := Aside0.mk A500
      clear A500
      simp only [Option.some.injEq, Prod.mk.injEq] at H
      obtain ⟨rfl, rfl, rfl, rfl, rfl, rfl⟩ := H
      obtain ⟨HGz51, hgz51⟩ := HI0.out
      have hcz51_0 := cellS95_0 HGz51
      have hcz51_1 := cellS95_1 HGz51
      have hcz51_2 := cellS95_2 HGz51
      have hcz51_3 := cellS95_3 HGz51
      have hcz51_4 := cellS95_4 HGz51
      have hfz51_0 := blk_frozen HGz51 0
      have hfz51_1 := blk_frozen HGz51 1
      have hfz51_2 := blk_frozen HGz51 2
      have hfz51_3 := blk_frozen HGz51 3
      have hfz51_4 := blk_frozen HGz51 4
      clear HGz51 hgz51
      go_wp2_with (first | ((with_reducible refine gate_callee (f := 52) rfl ?_); refine goesL_ (some 98) rfl rfl Tryz.func52 p8z rfl #[.pointer (some ⟨g, 0, none⟩), .int .i64 (b7.size : Int), .int .i64 140] rfl p5z ?_; (with_reducible refine (signetryref14_Reader_fail.calls g b7 bW bz bA bB (b7.size : Int) 140 t312 t313 t314 t315 t316 w0 _ ?side1 ?side2 A50.out).mono ?_); (case side1 => exact p1z); (case side2 => exact p2z); rintro e w52 ⟨rfl, hi, hb, hk⟩; refine ⟨_, rfl, ?_⟩; have z_ := asi4 (Kd.R_mono (Kd.R_keep (IsS95.apart (show IsS95 w0 _ g b7 bW bz bA bB from p1z) p17z (by decide)) hk (fun _ h => h.2)) (fun _ h => h.1)) (KeepBut.trans p3z hk (.inl rfl)) (hb) (hi); clear cb HK HB HI0; obtain ⟨cb, HK, HB, HI0⟩ := z_; (try clear hb hk hi)))
      go_ret
      exact ⟨p6z, p1z, p2z, p3z⟩
     subst c39
     have H1 : ((signetryref02_Valid.f kj10 da).bind fun fw => (if fw = true then (some (strOfNums da, b7, wrap64 (cl + 1), bz, bA, bB)) else ((signetryref14_Reader_fail.f b7 bW bz bA bB ae 140).bind fun bV => (some ((⟨#[]⟩ : ByteArray), bV.1, bV.2.1, bV.2.2.1, bV.2.2.2.1, bV.2.2.2.2))))) = some (r1, r2, r3, r4, r5, r6) := p53z
     clear H
     have H := H1
     clear H1
     replace H := Option.bind_eq_some_iff.mp H
     obtain ⟨fw, A400, H⟩ := H
     replace H : (if fw = true then (some (strOfNums da, b7, wrap64 (cl + 1), bz, bA, bB)) else ((signetryref14_Reader_fail.f b7 bW bz bA bB ae 140).bind fun bV => (some ((⟨#[]⟩ : ByteArray), bV.1, bV.2.1, bV.2.2.1, bV.2.2.2.1, bV.2.2.2.2)))) = some (r1, r2, r3, r4, r5, r6) := H
     have A40 := Aside0.mk A400
     clear A400
     by_cases c41 : fw = true
     case pos =>
      subst c41
      have H1 : (some (strOfNums da, b7, wrap64 (cl + 1), bz, bA, bB)) = some (r1, r2, r3, r4, r5, r6) := p53z
      clear H
      have H := H1
      clear H1
      simp only [Option.some.injEq, Prod.mk.injEq] at H
      obtain ⟨rfl, rfl, rfl, rfl, rfl, rfl⟩ := H
      obtain ⟨Ao42, co42, eo42⟩ := Kd.R_slice cb.out
      subst eo42
      go_wp2_with (first | ((with_reducible refine gate_callee (f := 78) rfl ?_); refine goesL_ (some 100) rfl rfl Tryz.func78 p8z rfl #[.slice Ao42 da.length co42] rfl p5z ?_; (with_reducible refine (signetryref02_Valid.calls kj10 _ _ da true _ ?side1 ?side2 A40.out).mono ?_); (case side1 => repeat (first | exact (Kd.R_reads' cb.out).2.2 | (with_reducible refine Kd.C_alloc ?_ _) | (with_reducible refine Kd.C_drewN ?_ _) | (with_reducible refine Kd.C_drew ?_))); (case side2 => exact (Kd.R_reads' cb.out).2.1); rintro e w43 ⟨rfl, hb⟩; refine ⟨_, rfl, ?_⟩; have z_ := asi4 (Kd.R_below p17z hb) (IsS95.below p1z hb) (KeepBut.trans p3z (KeepBut.of_below hb g none) (.inl rfl)) (below_step p2z hb); clear cb HI0 HK HB; obtain ⟨cb, HI0, HK, HB⟩ := z_; (try clear hb hk); obtain ⟨HGz44, hgz44⟩ := HI0.out; have hcz44_0 := cellS95_0 HGz44; have hcz44_1 := cellS95_1 HGz44; have hcz44_2 := cellS95_2 HGz44; have hcz44_3 := cellS95_3 HGz44; have hcz44_4 := cellS95_4 HGz44; have hfz44_0 := blk_frozen HGz44 0; have hfz44_1 := blk_frozen HGz44 1; have hfz44_2 := blk_frozen HGz44 2; have hfz44_3 := blk_frozen HGz44 3; have hfz44_4 := blk_frozen HGz44 4; clear HGz44 hgz44; have hcv45 := own_string (P := Tryz.prog) Tryz.underlying23 Tryz.underlying5 Tryz.underlying9 (Kd.own_of_R cb.out); have hcs45 := own_string (P := Tryz.prog) Tryz.underlying23 Tryz.underlying5 Tryz.underlying9 (Kd.own_of_R (Kd.R_far (p := ⟨g, 1, none⟩) (IsS95.apart HI0.out cb.out (by decide)) (fun _ hk => hk.2) (.int .i64 (wrap64 (cl + 1)))))))
      go_ret
      exact ⟨p6z, p1z, p2z, p3z⟩
     replace c41 := Bool.eq_false_iff.mpr c41
     subst c41
     have H1 : ((signetryref14_Reader_fail.f b7 bW bz bA bB ae 140).bind fun bV => (some ((⟨#[]⟩ : ByteArray), bV.1, bV.2.1, bV.2.2.1, bV.2.2.2.1, bV.2.2.2.2))) = some (r1, r2, r3, r4, r5, r6) := p27z
     clear H
     have H := H1
     clear H1
     replace H := Option.bind_eq_some_iff.mp H
     obtain ⟨⟨t318, t319, t320, t321, t322⟩, A460, H⟩ := H
     replace H : (some ((⟨#[]⟩ : ByteArray), t318, t319, t320, t321, t322)) = some (r1, r2, r3, r4, r5, r6) := H
     have A46 := Aside0.mk A460
     clear A460
     simp only [Option.some.injEq, Prod.mk.injEq] at H
     obtain ⟨rfl, rfl, rfl, rfl, rfl, rfl⟩ := H
     obtain ⟨ei, co47, eo47⟩ := Kd.R_slice cb.out
     subst eo47
     go_wp2_with (first | ((with_reducible refine gate_callee (f := 78) rfl ?_); refine goesL_ (some 100) rfl rfl Tryz.func78 p8z rfl #[.slice ei da.length co47] rfl p5z ?_; (with_reducible refine (signetryref02_Valid.calls kj10 _ _ da false _ ?side1 ?side2 A40.out).mono ?_); (case side1 => repeat (first | exact (Kd.R_reads' cb.out).2.2 | (with_reducible refine Kd.C_alloc ?_ _) | (with_reducible refine Kd.C_drewN ?_ _) | (with_reducible refine Kd.C_drew ?_))); (case side2 => exact (Kd.R_reads' cb.out).2.1); rintro e w48 ⟨rfl, hb⟩; refine ⟨_, rfl, ?_⟩; have z_ := asi4 (Kd.R_below p17z hb) (IsS95.below p1z hb) (KeepBut.trans p3z (KeepBut.of_below hb g none) (.inl rfl)) (below_step p2z hb); clear cb HI0 HK HB; obtain ⟨cb, HI0, HK, HB⟩ := z_; (try clear hb hk hi)) | ((with_reducible refine gate_callee (f := 52) rfl ?_); refine goesL_ (some 104) rfl rfl Tryz.func52 p8z rfl #[.pointer (some ⟨g, 0, none⟩), .int .i64 ae, .int .i64 140] rfl p5z ?_; (with_reducible refine (signetryref14_Reader_fail.calls g b7 bW bz bA bB ae 140 t318 t319 t320 t321 t322 w0 _ ?side1 ?side2 A46.out).mono ?_); (case side1 => exact p1z); (case side2 => exact p2z); rintro e w49 ⟨rfl, hi, hb, hk⟩; refine ⟨_, rfl, ?_⟩; have z_ := asi4 (Kd.R_mono (Kd.R_keep (IsS95.apart (show IsS95 w0 _ g b7 bW bz bA bB from p1z) p17z (by decide)) hk (fun _ h => h.2)) (fun _ h => h.1)) (KeepBut.trans p3z hk (.inl rfl)) (hb) (hi); clear cb HK HB HI0; obtain ⟨cb, HK, HB, HI0⟩ := z_; (try clear hb hk hi)))
     go_ret
     exact ⟨p6z, p1z, p2z, p3z⟩
end Go.Proofs.YtodnggilomanbaaGreatDoor.PAll
