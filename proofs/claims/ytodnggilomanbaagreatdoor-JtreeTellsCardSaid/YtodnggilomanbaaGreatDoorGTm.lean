-- Written by this repo's program wip/tools/pr.py (over the kit's print) out of the translation. Not trusted: Lean checks it.
import Derived.Test.YtodnggilomanbaaGreatDoorAp
import Derived.Test.YtodnggilomanbaaGreatDoorHandStep
import Derived.Test.YtodnggilomanbaaGreatDoorGTz
import Derived.Test.YtodnggilomanbaaGreatDoorHandAa
import Derived.Test.YtodnggilomanbaaGreatDoorGRv
set_option maxHeartbeats 8000000
set_option maxRecDepth 100000
namespace Go.Proofs.YtodnggilomanbaaGreatDoor.PAll
open Go.Proofs.YtodnggilomanbaaGreatDoor.Hand
open Go.RowKit Go.Proofs.YtodnggilomanbaaGreatDoorW.PrintWords Go.Proofs.YtodnggilomanbaaGreatDoorW.PrintLast Go.Proofs.YtodnggilomanbaaGreatDoorW.PrintMore
attribute [local go_sem] max2_int min2_int max_two min_two max_three min_three max_four min_four   -- for this text's walks alone
set_option linter.unusedVariables false
set_option linter.unusedSimpArgs false

/-! ### a6: function 46 -/
mutual
def a6.j1 : Nat → Int → Bool → Int → ByteArray → List ByteArray → List (S37) → Option (Bool)
  | 0, _, _, _, _, _, _ => none
  | k + 1, x1, x5, bv, bf, aX, b6 => a6.l0 k x1 x5 0 bv bf aX b6
def a6.l0 : Nat → Int → Bool → Int → Int → ByteArray → List ByteArray → List (S37) → Option (Bool)
  | 0, _, _, _, _, _, _, _ => none
  | k + 1, x1, x5, x6, bv, bf, aX, b6 => if x6 < (aX.length : Int) then (a6.j3 k x1 x5 x6 x5 bv bf aX b6) else (a6.j3 k x1 x5 x6 false bv bf aX b6)
def a6.j3 : Nat → Int → Bool → Int → Bool → Int → ByteArray → List ByteArray → List (S37) → Option (Bool)
  | 0, _, _, _, _, _, _, _, _ => none
  | k + 1, x1, x5, x6, x99, bv, bf, aX, b6 => if x99 = true then (if 0 ≤ x6 then (if x6 < (aX.length : Int) then ((bI.f (rdOf ByteArray.empty aX x6)).bind fun gD => ((aq.f k gD).bind fun fc => (a6.l1 k x1 fc x6 0 bv bf aX b6))) else (none)) else (none)) else (a6.l2 k x1 x5 0 bv bf aX b6)
def a6.l1 : Nat → Int → Bool → Int → Int → Int → ByteArray → List ByteArray → List (S37) → Option (Bool)
  | 0, _, _, _, _, _, _, _, _ => none
  | k + 1, x1, x5, x6, x7, bv, bf, aX, b6 => if x7 < x6 then (if x5 = true then (if 0 ≤ x7 then (if x7 < (aX.length : Int) then (if 0 ≤ x6 then (if x6 < (aX.length : Int) then (a6.l1 k x1 ((rdOf ByteArray.empty aX x7).toList != (rdOf ByteArray.empty aX x6).toList) x6 (wrap64 (x7 + 1)) bv bf aX b6) else (none)) else (none)) else (none)) else (none)) else (a6.l1 k x1 false x6 (wrap64 (x7 + 1)) bv bf aX b6)) else (a6.l0 k x1 x5 (wrap64 (x6 + 1)) bv bf aX b6)
def a6.l2 : Nat → Int → Bool → Int → Int → ByteArray → List ByteArray → List (S37) → Option (Bool)
  | 0, _, _, _, _, _, _, _ => none
  | k + 1, x1, x5, x8, bv, bf, aX, b6 => if x8 < (b6.length : Int) then (if x5 = true then (if 0 ≤ x8 then ((a6.f k ((rd_T37 b6 x8).f0) ((rd_T37 b6 x8).f1) ((rd_T37 b6 x8).f2) ((rd_T37 b6 x8).f3) (wrap64 (x1 + 1))).bind fun gc => (a6.l2 k x1 gc (wrap64 (x8 + 1)) bv bf aX b6)) else (none)) else (some x5)) else (some x5)
def a6.j0 : Nat → Int → Int → Bool → Int → ByteArray → List ByteArray → List (S37) → Option (Bool)
  | 0, _, _, _, _, _, _, _ => none
  | k + 1, x1, x12, x13, bv, bf, aX, b6 => if x13 = true then (if bf.toList = ([] : List UInt8) then (if (aX.length : Int) = 0 then (a6.j1 k x1 ((b6.length : Int) == 0) bv bf aX b6) else (a6.j1 k x1 false bv bf aX b6)) else (a6.j1 k x1 false bv bf aX b6)) else (if x12 = 4 then ((aE.f k bf).bind fun jh => (if jh = true then (if (aX.length : Int) = 0 then (a6.j1 k x1 ((b6.length : Int) == 0) bv bf aX b6) else (a6.j1 k x1 false bv bf aX b6)) else (a6.j1 k x1 false bv bf aX b6))) else (if x12 = 5 then ((bI.f bf).bind fun eh => ((aq.f k eh).bind fun gF => (if gF = true then (if (aX.length : Int) = 0 then (a6.j1 k x1 ((b6.length : Int) == 0) bv bf aX b6) else (a6.j1 k x1 false bv bf aX b6)) else (a6.j1 k x1 false bv bf aX b6)))) else (if x12 = 6 then (if bf.toList = ([] : List UInt8) then (a6.j1 k x1 ((aX.length : Int) == 0) bv bf aX b6) else (a6.j1 k x1 false bv bf aX b6)) else (if x12 = 7 then (if bf.toList = ([] : List UInt8) then (a6.j1 k x1 ((aX.length : Int) == (b6.length : Int)) bv bf aX b6) else (a6.j1 k x1 false bv bf aX b6)) else (a6.j1 k x1 false bv bf aX b6)))))
def a6.f : Nat → Int → ByteArray → List ByteArray → List (S37) → Int → Option (Bool)
  | 0, _, _, _, _, _ => none
  | k + 1, a0_0, a0_1, ab, aa, a1 => if a1 > 60 then (some false) else (if a0_0 = 1 then (a6.j0 k a1 a0_0 (a0_0 == 1) a0_0 a0_1 ab aa) else (if a0_0 = 2 then (a6.j0 k a1 a0_0 (a0_0 == 2) a0_0 a0_1 ab aa) else (a6.j0 k a1 a0_0 (a0_0 == 3) a0_0 a0_1 ab aa)))
end
theorem a6.calls (k : Nat) : ∀ (a0_0 : Int) (a0_1 : ByteArray) (A0_2 : Option Addr) (c0_2 : Nat) (ab : List ByteArray) (A0_3 : Option Addr) (c0_3 : Nat) (aa : List (S37)) (a1 : Int) (r : Bool) (w : World) (hr0_2 : Kd.C Kd.string w A0_2 ab.length ab) (hc0_2 : ab.length ≤ c0_2) (hr0_3 : Kd.C k37 w A0_3 aa.length aa) (hc0_3 : aa.length ≤ c0_3) (h : a6.f k a0_0 a0_1 ab aa a1 = some r),
 Calls Tryz.prog 46 #[.agg #[.int .i64 a0_0, .string a0_1, .slice A0_2 ab.length c0_2, .slice A0_3 aa.length c0_3], .int .i64 a1] w fun e w' => e = .returned (.bool r) ∧ Below w.heap.size w w' := by
 induction k using Nat.strongRecOn with
 | _ k ih =>
 intro a0_0 a0_1 A0_2 c0_2 ab A0_3 c0_3 aa a1 r w hr0_2 hc0_2 hr0_3 hc0_3 h
 cases k with
 | zero => exact absurd h (by simp [a6.f])
 | succ k =>
 simp only [a6.f] at h
 have hu37 := Tryz.underlying37
 have cU := Aside0.mk hr0_2
 have bZ := Aside0.mk hc0_2
 clear hr0_2 hc0_2
 have cP := Aside0.mk hr0_3
 have cn := Aside0.mk hc0_3
 clear hr0_3 hc0_3
 have HB := Aside0.mk (Below.refl w.heap.size w)
 have H : (if a1 > 60 then (some false) else (if a0_0 = 1 then (a6.j0 k a1 a0_0 (a0_0 == 1) a0_0 a0_1 ab aa) else (if a0_0 = 2 then (a6.j0 k a1 a0_0 (a0_0 == 2) a0_0 a0_1 ab aa) else (a6.j0 k a1 a0_0 (a0_0 == 3) a0_0 a0_1 ab aa)))) = some r := h
 clear h
 by_cases c3 : a1 > 60
 case pos =>
  rw [if_pos c3] at H
  have cW : decide (60 < a1) = true := decide_eq_true c3
  clear c3
  obtain rfl := Option.some.inj H
  go_enter Tryz.func46, Tryz.ntmps46
  go_wp2_with (first | ((with_reducible refine gate_dst (N := 2) rfl ?_); (try (refine gate_guard (by rfl) ?_; dsimp only)); refine box_event ?hg (N := 2) ?hd (cs := #[.int .i64 a0_0, .string a0_1, .slice A0_2 ab.length c0_2, .slice A0_3 aa.length c0_3]) (t := 37) ?hr ?_; (case hd => rfl); (case hg => rfl); (case hr => exact p9z); intro aT hg w4 hbox hb; have z_ := asi4 (below_step p0z hb) (hbox) ((p21z : w.heap.size ≤ aT)) ((p21z : w.heap.size ≤ aT)); clear HB; obtain ⟨HB, aG, GW293, fJ⟩ := z_; clear hb hbox hg))
  repeat (go_quiet (first | ((with_reducible refine gate_dst (N := 2) rfl ?_); (try (refine gate_guard (by rfl) ?_; dsimp only)); refine box_event ?hg (N := 2) ?hd (cs := #[.int .i64 a0_0, .string a0_1, .slice A0_2 ab.length c0_2, .slice A0_3 aa.length c0_3]) (t := 37) ?hr ?_; (case hd => rfl); (case hg => rfl); (case hr => exact p9z); intro aT hg w4 hbox hb; have z_ := asi4 (below_step p0z hb) (hbox) ((p21z : w.heap.size ≤ aT)) ((p21z : w.heap.size ≤ aT)); clear HB; obtain ⟨HB, aG, GW293, fJ⟩ := z_; clear hb hbox hg)); try go_wp2_with (first | ((with_reducible refine gate_dst (N := 2) rfl ?_); (try (refine gate_guard (by rfl) ?_; dsimp only)); refine box_event ?hg (N := 2) ?hd (cs := #[.int .i64 a0_0, .string a0_1, .slice A0_2 ab.length c0_2, .slice A0_3 aa.length c0_3]) (t := 37) ?hr ?_; (case hd => rfl); (case hg => rfl); (case hr => exact p9z); intro aT hg w4 hbox hb; have z_ := asi4 (below_step p0z hb) (hbox) ((p21z : w.heap.size ≤ aT)) ((p21z : w.heap.size ≤ aT)); clear HB; obtain ⟨HB, aG, GW293, fJ⟩ := z_; clear hb hbox hg)))
  go_ret
  exact ⟨p7z, p1z⟩
 rw [if_neg c3] at H
 have cW : decide (60 < a1) = false := decide_eq_false c3
 clear c3
 have HC5 := Aside0.mk H
 clear H
 go_enter Tryz.func46, Tryz.ntmps46
 go_upto_block 0 with (first | ((with_reducible refine gate_dst (N := 2) rfl ?_); (try (refine gate_guard (by rfl) ?_; dsimp only)); refine box_event ?hg (N := 2) ?hd (cs := #[.int .i64 a0_0, .string a0_1, .slice A0_2 ab.length c0_2, .slice A0_3 aa.length c0_3]) (t := 37) ?hr ?_; (case hd => rfl); (case hg => rfl); (case hr => exact p9z); intro aT hg w6 hbox hb; have z_ := asi4 (below_step p0z hb) (hbox) ((p21z : w.heap.size ≤ aT)) ((p21z : w.heap.size ≤ aT)); clear HB; obtain ⟨HB, aG, GW293, fJ⟩ := z_; clear hb hbox hg; obtain ⟨hcz7_0, hcz7_1, hcz7_2, hcz7_3, hfz7_0, hfz7_1, hfz7_2, hfz7_3⟩ := cells4 aG.out))
 repeat (go_quiet (first | ((with_reducible refine gate_dst (N := 2) rfl ?_); (try (refine gate_guard (by rfl) ?_; dsimp only)); refine box_event ?hg (N := 2) ?hd (cs := #[.int .i64 a0_0, .string a0_1, .slice A0_2 ab.length c0_2, .slice A0_3 aa.length c0_3]) (t := 37) ?hr ?_; (case hd => rfl); (case hg => rfl); (case hr => exact p9z); intro aT hg w6 hbox hb; have z_ := asi4 (below_step p0z hb) (hbox) ((p21z : w.heap.size ≤ aT)) ((p21z : w.heap.size ≤ aT)); clear HB; obtain ⟨HB, aG, GW293, fJ⟩ := z_; clear hb hbox hg; obtain ⟨hcz7_0, hcz7_1, hcz7_2, hcz7_3, hfz7_0, hfz7_1, hfz7_2, hfz7_3⟩ := cells4 aG.out)); go_upto_block 0 with (first | ((with_reducible refine gate_dst (N := 2) rfl ?_); (try (refine gate_guard (by rfl) ?_; dsimp only)); refine box_event ?hg (N := 2) ?hd (cs := #[.int .i64 a0_0, .string a0_1, .slice A0_2 ab.length c0_2, .slice A0_3 aa.length c0_3]) (t := 37) ?hr ?_; (case hd => rfl); (case hg => rfl); (case hr => exact p9z); intro aT hg w6 hbox hb; have z_ := asi4 (below_step p0z hb) (hbox) ((p21z : w.heap.size ≤ aT)) ((p21z : w.heap.size ≤ aT)); clear HB; obtain ⟨HB, aG, GW293, fJ⟩ := z_; clear hb hbox hg; obtain ⟨hcz7_0, hcz7_1, hcz7_2, hcz7_3, hfz7_0, hfz7_1, hfz7_2, hfz7_3⟩ := cells4 aG.out)))
 (try simp only [Act.put, List.setIfInBounds_toArray, List.set_cons_zero, List.set_cons_succ])
 go_cut [5] (fun v5 wc => ∃ (kq : Nat) (dU : Bool), v5 = .bool dU ∧ Aside0 (a6.j1 kq a1 dU a0_0 a0_1 ab aa = some r) ∧ Aside0 (kq ≤ k) ∧ Aside0 (wc.heap[aT]? = some (.cells #[.int .i64 a0_0, .string a0_1, (.slice A0_2 ab.length c0_2), (.slice A0_3 aa.length c0_3)] 37 (0, 0))) ∧ Aside0 (Below w.heap.size w wc))
 case first =>
  have H := HC5.out
  clear HC5
  have HC8 := Aside0.mk H
  clear H
  go_upto_if 13 with (fail)
  repeat (go_quiet (fail); go_upto_if 13 with (fail))
  go_cut [13] (fun v13 wc => ∃ (kq : Nat) (iV : Bool), v13 = .bool iV ∧ Aside0 (a6.j0 kq a1 a0_0 iV a0_0 a0_1 ab aa = some r) ∧ Aside0 (kq ≤ k) ∧ Aside0 (wc.heap[aT]? = some (.cells #[.int .i64 a0_0, .string a0_1, (.slice A0_2 ab.length c0_2), (.slice A0_3 aa.length c0_3)] 37 (0, 0))) ∧ Aside0 (Below w.heap.size w wc))
  case first =>
   have H := HC8.out
   clear HC8
   by_cases c9 : a0_0 = 1
   case pos =>
    rw [if_pos c9] at H
    have f5 : (a0_0 == 1) = true := beq_iff_eq.mpr c9
    have c9b1 : (a0_0 != 1) = false := bne_eq_false_iff_eq.mpr c9
    clear c9
    (first | rw [f5] | (simp only [i64_w, i32_w]; rw [f5]) | skip)
    have H' := Aside0.mk H
    clear H
    go_wp2
    repeat (go_quiet (fail); try go_wp2)
    go_meet
    case rel => exact ⟨_, ((a0_0 == 1)), p5z, H', ⟨p81z⟩, ⟨p2z⟩, ⟨p1z⟩⟩
   rw [if_neg c9] at H
   have f5 : (a0_0 == 1) = false := beq_eq_false_iff_ne.mpr c9
   have c9b1 : (a0_0 != 1) = true := bne_iff_ne.mpr c9
   (first | rw [f5] | (simp only [i64_w, i32_w]; rw [f5]) | skip)
   by_cases c10 : a0_0 = 2
   case neg =>
    rw [if_neg c10] at H
    have eE : (a0_0 == 2) = false := beq_eq_false_iff_ne.mpr c10
    have jE : (a0_0 != 2) = true := bne_iff_ne.mpr c10
    have H' := Aside0.mk H
    clear H
    go_wp2
    repeat (go_quiet (fail); try go_wp2)
    go_meet
    case rel => exact ⟨_, ((a0_0 == 3)), p5z, H', ⟨p81z⟩, ⟨p2z⟩, ⟨p1z⟩⟩
   rw [if_pos c10] at H
   have eE : (a0_0 == 2) = true := beq_iff_eq.mpr c10
   have jE : (a0_0 != 2) = false := bne_eq_false_iff_eq.mpr c10
   clear c10
   have H' := Aside0.mk H
   clear H
   go_wp2
   repeat (go_quiet (fail); try go_wp2)
   go_meet
   case rel => exact ⟨_, ((a0_0 == 2)), p5z, H', ⟨p81z⟩, ⟨p2z⟩, ⟨p1z⟩⟩
  case rest =>
   clear HC8
   try clear cW
   try clear hcz7_0
   try clear hcz7_1
   try clear hcz7_2
   try clear hcz7_3
   try clear hfz7_0
   try clear hfz7_1
   try clear hfz7_2
   try clear hfz7_3
   obtain ⟨kq, iV, rfl, HA, HJ7, aG, HB⟩ := hcut
   cases kq with
   | zero => exact absurd HA.out (by simp [a6.j0])
   | succ kj7 =>
    have H := HA.out
    clear HA
    simp only [a6.j0] at H
    by_cases c11 : iV = true
    case pos =>
     subst c11
     have H1 : (if a0_1.toList = ([] : List UInt8) then (if (ab.length : Int) = 0 then (a6.j1 kj7 a1 ((aa.length : Int) == 0) a0_0 a0_1 ab aa) else (a6.j1 kj7 a1 false a0_0 a0_1 ab aa)) else (a6.j1 kj7 a1 false a0_0 a0_1 ab aa)) = some r := p72z
     clear H
     have H := H1
     clear H1
     by_cases c12 : a0_1.toList = ([] : List UInt8)
     case neg =>
      rw [if_neg c12] at H
      have jn : (a0_1.toList == ([] : List UInt8)) = false := beq_eq_false_iff_ne.mpr c12
      have jo : (a0_1.toList != ([] : List UInt8)) = true := bne_iff_ne.mpr c12
      have H' := Aside0.mk H
      clear H
      obtain ⟨hcz16_0, hcz16_1, hcz16_2, hcz16_3, hfz16_0, hfz16_1, hfz16_2, hfz16_3⟩ := cells4 aG.out
      go_wp2
      repeat (go_quiet (fail); try go_wp2)
      go_meet
      case rel => exact ⟨_, (false), p5z, H', ⟨p54z⟩, ⟨p2z⟩, ⟨p1z⟩⟩
     rw [if_pos c12] at H
     have jn : (a0_1.toList == ([] : List UInt8)) = true := beq_iff_eq.mpr c12
     have jo : (a0_1.toList != ([] : List UInt8)) = false := bne_eq_false_iff_eq.mpr c12
     clear c12
     by_cases c13 : (ab.length : Int) = 0
     case pos =>
      rw [if_pos c13] at H
      have jp : ((ab.length : Int) == 0) = true := beq_iff_eq.mpr c13
      have c13b1 : ((ab.length : Int) != 0) = false := bne_eq_false_iff_eq.mpr c13
      clear c13
      have H' := Aside0.mk H
      clear H
      obtain ⟨hcz14_0, hcz14_1, hcz14_2, hcz14_3, hfz14_0, hfz14_1, hfz14_2, hfz14_3⟩ := cells4 aG.out
      go_wp2
      repeat (go_quiet (fail); try go_wp2)
      go_meet
      case rel => exact ⟨_, (((aa.length : Int) == 0)), p5z, H', ⟨p54z⟩, ⟨p2z⟩, ⟨p1z⟩⟩
     rw [if_neg c13] at H
     have jp : ((ab.length : Int) == 0) = false := beq_eq_false_iff_ne.mpr c13
     have c13b1 : ((ab.length : Int) != 0) = true := bne_iff_ne.mpr c13
     have c13b2 : ¬ (ab = []) := fun h_ => c13 (by rw [h_]; rfl)
     have H' := Aside0.mk H
     clear H
     obtain ⟨hcz15_0, hcz15_1, hcz15_2, hcz15_3, hfz15_0, hfz15_1, hfz15_2, hfz15_3⟩ := cells4 aG.out
     go_wp2
     repeat (go_quiet (fail); try go_wp2)
     go_meet
     case rel => exact ⟨_, (false), p5z, H', ⟨p54z⟩, ⟨p2z⟩, ⟨p1z⟩⟩
    replace c11 := Bool.eq_false_iff.mpr c11
    subst c11
    have H1 : (if a0_0 = 4 then ((aE.f kj7 a0_1).bind fun jh => (if jh = true then (if (ab.length : Int) = 0 then (a6.j1 kj7 a1 ((aa.length : Int) == 0) a0_0 a0_1 ab aa) else (a6.j1 kj7 a1 false a0_0 a0_1 ab aa)) else (a6.j1 kj7 a1 false a0_0 a0_1 ab aa))) else (if a0_0 = 5 then ((bI.f a0_1).bind fun eh => ((aq.f kj7 eh).bind fun gF => (if gF = true then (if (ab.length : Int) = 0 then (a6.j1 kj7 a1 ((aa.length : Int) == 0) a0_0 a0_1 ab aa) else (a6.j1 kj7 a1 false a0_0 a0_1 ab aa)) else (a6.j1 kj7 a1 false a0_0 a0_1 ab aa)))) else (if a0_0 = 6 then (if a0_1.toList = ([] : List UInt8) then (a6.j1 kj7 a1 ((ab.length : Int) == 0) a0_0 a0_1 ab aa) else (a6.j1 kj7 a1 false a0_0 a0_1 ab aa)) else (if a0_0 = 7 then (if a0_1.toList = ([] : List UInt8) then (a6.j1 kj7 a1 ((ab.length : Int) == (aa.length : Int)) a0_0 a0_1 ab aa) else (a6.j1 kj7 a1 false a0_0 a0_1 ab aa)) else (a6.j1 kj7 a1 false a0_0 a0_1 ab aa))))) = some r := p39z
    clear H
    have H := H1
    clear H1
    by_cases c17 : a0_0 = 4
    case pos =>
     rw [if_pos c17] at H
     have eF : (a0_0 == 4) = true := beq_iff_eq.mpr c17
     have gC : (a0_0 != 4) = false := bne_eq_false_iff_eq.mpr c17
     clear c17
     replace H := Option.bind_eq_some_iff.mp H
     obtain ⟨jh, A180, H⟩ := H
     replace H : (if jh = true then (if (ab.length : Int) = 0 then (a6.j1 kj7 a1 ((aa.length : Int) == 0) a0_0 a0_1 ab aa) else (a6.j1 kj7 a1 false a0_0 a0_1 ab aa)) else (a6.j1 kj7 a1 false a0_0 a0_1 ab aa)) = some r := H
     have A18 := Aside0.mk A180
     clear A180
     by_cases c19 : jh = true
     case neg =>
      replace c19 := Bool.eq_false_iff.mpr c19
      subst c19
      have H1 : (a6.j1 kj7 a1 false a0_0 a0_1 ab aa) = some r := p39z
      clear H
      have H := H1
      clear H1
      have H' := Aside0.mk H
      clear H
      obtain ⟨hcz23_0, hcz23_1, hcz23_2, hcz23_3, hfz23_0, hfz23_1, hfz23_2, hfz23_3⟩ := cells4 aG.out
      go_wp2_with (first | (go_at_call 77; (with_reducible refine (aE.calls kj7 a0_1 false _ A18.out).mono ?_); rintro e w' ⟨rfl, ⟨nd, rfl⟩⟩; (try first | exact ⟨rfl, _, World.drewN_drewN _ _ _⟩ | exact ⟨rfl, _, Eq.trans (World.drewN_drewN _ _ _) (congrArg (World.drewN _) (Nat.add_assoc _ _ _))⟩)))
      repeat (go_quiet (first | (go_at_call 77; (with_reducible refine (aE.calls kj7 a0_1 false _ A18.out).mono ?_); rintro e w' ⟨rfl, ⟨nd, rfl⟩⟩; (try first | exact ⟨rfl, _, World.drewN_drewN _ _ _⟩ | exact ⟨rfl, _, Eq.trans (World.drewN_drewN _ _ _) (congrArg (World.drewN _) (Nat.add_assoc _ _ _))⟩))); try go_wp2_with (first | (go_at_call 77; (with_reducible refine (aE.calls kj7 a0_1 false _ A18.out).mono ?_); rintro e w' ⟨rfl, ⟨nd, rfl⟩⟩; (try first | exact ⟨rfl, _, World.drewN_drewN _ _ _⟩ | exact ⟨rfl, _, Eq.trans (World.drewN_drewN _ _ _) (congrArg (World.drewN _) (Nat.add_assoc _ _ _))⟩))))
      go_meet
      case rel => exact ⟨_, (false), p5z, H', ⟨p54z⟩, ⟨p2z⟩, ⟨p1z⟩⟩
     subst c19
     have H1 : (if (ab.length : Int) = 0 then (a6.j1 kj7 a1 ((aa.length : Int) == 0) a0_0 a0_1 ab aa) else (a6.j1 kj7 a1 false a0_0 a0_1 ab aa)) = some r := p72z
     clear H
     have H := H1
     clear H1
     by_cases c20 : (ab.length : Int) = 0
     case pos =>
      rw [if_pos c20] at H
      have iU : ((ab.length : Int) == 0) = true := beq_iff_eq.mpr c20
      have c20b1 : ((ab.length : Int) != 0) = false := bne_eq_false_iff_eq.mpr c20
      clear c20
      have H' := Aside0.mk H
      clear H
      obtain ⟨hcz21_0, hcz21_1, hcz21_2, hcz21_3, hfz21_0, hfz21_1, hfz21_2, hfz21_3⟩ := cells4 aG.out
      go_wp2_with (first | (go_at_call 77; (with_reducible refine (aE.calls kj7 a0_1 true _ A18.out).mono ?_); rintro e w' ⟨rfl, ⟨nd, rfl⟩⟩; (try first | exact ⟨rfl, _, World.drewN_drewN _ _ _⟩ | exact ⟨rfl, _, Eq.trans (World.drewN_drewN _ _ _) (congrArg (World.drewN _) (Nat.add_assoc _ _ _))⟩)))
      repeat (go_quiet (first | (go_at_call 77; (with_reducible refine (aE.calls kj7 a0_1 true _ A18.out).mono ?_); rintro e w' ⟨rfl, ⟨nd, rfl⟩⟩; (try first | exact ⟨rfl, _, World.drewN_drewN _ _ _⟩ | exact ⟨rfl, _, Eq.trans (World.drewN_drewN _ _ _) (congrArg (World.drewN _) (Nat.add_assoc _ _ _))⟩))); try go_wp2_with (first | (go_at_call 77; (with_reducible refine (aE.calls kj7 a0_1 true _ A18.out).mono ?_); rintro e w' ⟨rfl, ⟨nd, rfl⟩⟩; (try first | exact ⟨rfl, _, World.drewN_drewN _ _ _⟩ | exact ⟨rfl, _, Eq.trans (World.drewN_drewN _ _ _) (congrArg (World.drewN _) (Nat.add_assoc _ _ _))⟩))))
      go_meet
      case rel => exact ⟨_, (((aa.length : Int) == 0)), p5z, H', ⟨p54z⟩, ⟨p2z⟩, ⟨p1z⟩⟩
     rw [if_neg c20] at H
     have iU : ((ab.length : Int) == 0) = false := beq_eq_false_iff_ne.mpr c20
     have c20b1 : ((ab.length : Int) != 0) = true := bne_iff_ne.mpr c20
     have c20b2 : ¬ (ab = []) := fun h_ => c20 (by rw [h_]; rfl)
     have H' := Aside0.mk H
     clear H
     obtain ⟨hcz22_0, hcz22_1, hcz22_2, hcz22_3, hfz22_0, hfz22_1, hfz22_2, hfz22_3⟩ := cells4 aG.out
     go_wp2_with (first | (go_at_call 77; (with_reducible refine (aE.calls kj7 a0_1 true _ A18.out).mono ?_); rintro e w' ⟨rfl, ⟨nd, rfl⟩⟩; (try first | exact ⟨rfl, _, World.drewN_drewN _ _ _⟩ | exact ⟨rfl, _, Eq.trans (World.drewN_drewN _ _ _) (congrArg (World.drewN _) (Nat.add_assoc _ _ _))⟩)))
     repeat (go_quiet (first | (go_at_call 77; (with_reducible refine (aE.calls kj7 a0_1 true _ A18.out).mono ?_); rintro e w' ⟨rfl, ⟨nd, rfl⟩⟩; (try first | exact ⟨rfl, _, World.drewN_drewN _ _ _⟩ | exact ⟨rfl, _, Eq.trans (World.drewN_drewN _ _ _) (congrArg (World.drewN _) (Nat.add_assoc _ _ _))⟩))); try go_wp2_with (first | (go_at_call 77; (with_reducible refine (aE.calls kj7 a0_1 true _ A18.out).mono ?_); rintro e w' ⟨rfl, ⟨nd, rfl⟩⟩; (try first | exact ⟨rfl, _, World.drewN_drewN _ _ _⟩ | exact ⟨rfl, _, Eq.trans (World.drewN_drewN _ _ _) (congrArg (World.drewN _) (Nat.add_assoc _ _ _))⟩))))
     go_meet
     case rel => exact ⟨_, (false), p5z, H', ⟨p54z⟩, ⟨p2z⟩, ⟨p1z⟩⟩
    rw [if_neg c17] at H
    have eF : (a0_0 == 4) = false := beq_eq_false_iff_ne.mpr c17
    have gC : (a0_0 != 4) = true := bne_iff_ne.mpr c17
    by_cases c24 : a0_0 = 5
    case neg =>
     rw [if_neg c24] at H
     have ec : (a0_0 == 5) = false := beq_eq_false_iff_ne.mpr c24
     have c24b1 : (a0_0 != 5) = true := bne_iff_ne.mpr c24
     by_cases c43 : a0_0 = 6
     case pos =>
      rw [if_pos c43] at H
      have c43b0 : (a0_0 == 6) = true := beq_iff_eq.mpr c43
      have c43b1 : (a0_0 != 6) = false := bne_eq_false_iff_eq.mpr c43
      clear c43
      by_cases c44 : a0_1.toList = ([] : List UInt8)
      case neg =>
       rw [if_neg c44] at H
       have c44b0 : (a0_1.toList == ([] : List UInt8)) = false := beq_eq_false_iff_ne.mpr c44
       have c44b1 : (a0_1.toList != ([] : List UInt8)) = true := bne_iff_ne.mpr c44
       have H' := Aside0.mk H
       clear H
       obtain ⟨hcz46_0, hcz46_1, hcz46_2, hcz46_3, hfz46_0, hfz46_1, hfz46_2, hfz46_3⟩ := cells4 aG.out
       go_wp2
       repeat (go_quiet (fail); try go_wp2)
       go_meet
       case rel => exact ⟨_, (false), p5z, H', ⟨p54z⟩, ⟨p2z⟩, ⟨p1z⟩⟩
      rw [if_pos c44] at H
      have c44b0 : (a0_1.toList == ([] : List UInt8)) = true := beq_iff_eq.mpr c44
      have c44b1 : (a0_1.toList != ([] : List UInt8)) = false := bne_eq_false_iff_eq.mpr c44
      clear c44
      have H' := Aside0.mk H
      clear H
      obtain ⟨hcz45_0, hcz45_1, hcz45_2, hcz45_3, hfz45_0, hfz45_1, hfz45_2, hfz45_3⟩ := cells4 aG.out
      go_wp2
      repeat (go_quiet (fail); try go_wp2)
      go_meet
      case rel => exact ⟨_, (((ab.length : Int) == 0)), p5z, H', ⟨p54z⟩, ⟨p2z⟩, ⟨p1z⟩⟩
     rw [if_neg c43] at H
     have c43b0 : (a0_0 == 6) = false := beq_eq_false_iff_ne.mpr c43
     have c43b1 : (a0_0 != 6) = true := bne_iff_ne.mpr c43
     by_cases c47 : a0_0 = 7
     case neg =>
      rw [if_neg c47] at H
      have jD : (a0_0 == 7) = false := beq_eq_false_iff_ne.mpr c47
      have c47b1 : (a0_0 != 7) = true := bne_iff_ne.mpr c47
      have H' := Aside0.mk H
      clear H
      go_wp2
      repeat (go_quiet (fail); try go_wp2)
      go_meet
      case rel => exact ⟨_, (false), p5z, H', ⟨p54z⟩, ⟨p2z⟩, ⟨p1z⟩⟩
     rw [if_pos c47] at H
     have jD : (a0_0 == 7) = true := beq_iff_eq.mpr c47
     have c47b1 : (a0_0 != 7) = false := bne_eq_false_iff_eq.mpr c47
     clear c47
     by_cases c48 : a0_1.toList = ([] : List UInt8)
     case neg =>
      rw [if_neg c48] at H
      have c48b0 : (a0_1.toList == ([] : List UInt8)) = false := beq_eq_false_iff_ne.mpr c48
      have c48b1 : (a0_1.toList != ([] : List UInt8)) = true := bne_iff_ne.mpr c48
      have H' := Aside0.mk H
      clear H
      obtain ⟨hcz50_0, hcz50_1, hcz50_2, hcz50_3, hfz50_0, hfz50_1, hfz50_2, hfz50_3⟩ := cells4 aG.out
      go_wp2
      repeat (go_quiet (fail); try go_wp2)
      go_meet
      case rel => exact ⟨_, (false), p5z, H', ⟨p54z⟩, ⟨p2z⟩, ⟨p1z⟩⟩
     rw [if_pos c48] at H
     have c48b0 : (a0_1.toList == ([] : List UInt8)) = true := beq_iff_eq.mpr c48
     have c48b1 : (a0_1.toList != ([] : List UInt8)) = false := bne_eq_false_iff_eq.mpr c48
     clear c48
     have H' := Aside0.mk H
     clear H
     obtain ⟨hcz49_0, hcz49_1, hcz49_2, hcz49_3, hfz49_0, hfz49_1, hfz49_2, hfz49_3⟩ := cells4 aG.out
     go_wp2
     repeat (go_quiet (fail); try go_wp2)
     go_meet
     case rel => exact ⟨_, (((ab.length : Int) == (aa.length : Int))), p5z, H', ⟨p54z⟩, ⟨p2z⟩, ⟨p1z⟩⟩
    rw [if_pos c24] at H
    have ec : (a0_0 == 5) = true := beq_iff_eq.mpr c24
    have c24b1 : (a0_0 != 5) = false := bne_eq_false_iff_eq.mpr c24
    clear c24
    replace H := Option.bind_eq_some_iff.mp H
    obtain ⟨eh, A250, H⟩ := H
    replace H : ((aq.f kj7 eh).bind fun gF => (if gF = true then (if (ab.length : Int) = 0 then (a6.j1 kj7 a1 ((aa.length : Int) == 0) a0_0 a0_1 ab aa) else (a6.j1 kj7 a1 false a0_0 a0_1 ab aa)) else (a6.j1 kj7 a1 false a0_0 a0_1 ab aa))) = some r := H
    have A25 := Aside0.mk A250
    clear A250
    replace H := Option.bind_eq_some_iff.mp H
    obtain ⟨gF, A260, H⟩ := H
    replace H : (if gF = true then (if (ab.length : Int) = 0 then (a6.j1 kj7 a1 ((aa.length : Int) == 0) a0_0 a0_1 ab aa) else (a6.j1 kj7 a1 false a0_0 a0_1 ab aa)) else (a6.j1 kj7 a1 false a0_0 a0_1 ab aa)) = some r := H
    have A26 := Aside0.mk A260
    clear A260
    by_cases c27 : gF = true
    case neg =>
     replace c27 := Bool.eq_false_iff.mpr c27
     subst c27
     have H1 : (a6.j1 kj7 a1 false a0_0 a0_1 ab aa) = some r := p39z
     clear H
     have H := H1
     clear H1
     have H' := Aside0.mk H
     clear H
     obtain ⟨hcz39_0, hcz39_1, hcz39_2, hcz39_3, hfz39_0, hfz39_1, hfz39_2, hfz39_3⟩ := cells4 aG.out
     go_wp2_with (first | ((with_reducible refine gate_conv rfl ?_); refine bN rfl A25.out p10z ?_; intro gG w40 ho0 hb; have z_ := asi3 (Kd.V_lower (Kd.V_mono (ok' := fun k_ => k_ ≠ aT) ho0 (fun k_ hk_ => (Kd.freshB (g := aT) (o := .cells #[.int .i64 a0_0, .string a0_1, .slice A0_2 ab.length c0_2, .slice A0_3 aa.length c0_3] 37 (0, 0)) p2z k_ (Nat.le_of_eq hk_.symm)))) (below_size p1z)) (blk_below (g := aT) (o := .cells #[.int .i64 a0_0, .string a0_1, .slice A0_2 ab.length c0_2, .slice A0_3 aa.length c0_3] 37 (0, 0)) p2z hb) (below_step p1z hb); clear aG HB; obtain ⟨bA, aG, HB⟩ := z_; (try clear hb ho0); obtain ⟨Ao41, co41, eo41⟩ := Kd.V_slice bA.out; subst eo41) | (go_at_call 78; (with_reducible refine (aq.calls kj7 _ _ eh false _ ?side1 ?side2 A26.out).mono ?_); (case side1 => exact p29z); (case side2 => exact (Kd.V_reads' bA.out).2.1); rintro e w42 ⟨rfl, hb⟩; have z_ := asi3 (Kd.V_below p45z hb) (blk_below (g := aT) (o := .cells #[.int .i64 a0_0, .string a0_1, .slice A0_2 ab.length c0_2, .slice A0_3 aa.length c0_3] 37 (0, 0)) p2z hb) (below_step p1z hb); clear bA aG HB; obtain ⟨bA, aG, HB⟩ := z_; (try clear hb)))
     repeat (go_quiet (first | ((with_reducible refine gate_conv rfl ?_); refine bN rfl A25.out p10z ?_; intro gG w40 ho0 hb; have z_ := asi3 (Kd.V_lower (Kd.V_mono (ok' := fun k_ => k_ ≠ aT) ho0 (fun k_ hk_ => (Kd.freshB (g := aT) (o := .cells #[.int .i64 a0_0, .string a0_1, .slice A0_2 ab.length c0_2, .slice A0_3 aa.length c0_3] 37 (0, 0)) p2z k_ (Nat.le_of_eq hk_.symm)))) (below_size p1z)) (blk_below (g := aT) (o := .cells #[.int .i64 a0_0, .string a0_1, .slice A0_2 ab.length c0_2, .slice A0_3 aa.length c0_3] 37 (0, 0)) p2z hb) (below_step p1z hb); clear aG HB; obtain ⟨bA, aG, HB⟩ := z_; (try clear hb ho0); obtain ⟨Ao41, co41, eo41⟩ := Kd.V_slice bA.out; subst eo41) | (go_at_call 78; (with_reducible refine (aq.calls kj7 _ _ eh false _ ?side1 ?side2 A26.out).mono ?_); (case side1 => exact p29z); (case side2 => exact (Kd.V_reads' bA.out).2.1); rintro e w42 ⟨rfl, hb⟩; have z_ := asi3 (Kd.V_below p45z hb) (blk_below (g := aT) (o := .cells #[.int .i64 a0_0, .string a0_1, .slice A0_2 ab.length c0_2, .slice A0_3 aa.length c0_3] 37 (0, 0)) p2z hb) (below_step p1z hb); clear bA aG HB; obtain ⟨bA, aG, HB⟩ := z_; (try clear hb))); try go_wp2_with (first | ((with_reducible refine gate_conv rfl ?_); refine bN rfl A25.out p10z ?_; intro gG w40 ho0 hb; have z_ := asi3 (Kd.V_lower (Kd.V_mono (ok' := fun k_ => k_ ≠ aT) ho0 (fun k_ hk_ => (Kd.freshB (g := aT) (o := .cells #[.int .i64 a0_0, .string a0_1, .slice A0_2 ab.length c0_2, .slice A0_3 aa.length c0_3] 37 (0, 0)) p2z k_ (Nat.le_of_eq hk_.symm)))) (below_size p1z)) (blk_below (g := aT) (o := .cells #[.int .i64 a0_0, .string a0_1, .slice A0_2 ab.length c0_2, .slice A0_3 aa.length c0_3] 37 (0, 0)) p2z hb) (below_step p1z hb); clear aG HB; obtain ⟨bA, aG, HB⟩ := z_; (try clear hb ho0); obtain ⟨Ao41, co41, eo41⟩ := Kd.V_slice bA.out; subst eo41) | (go_at_call 78; (with_reducible refine (aq.calls kj7 _ _ eh false _ ?side1 ?side2 A26.out).mono ?_); (case side1 => exact p29z); (case side2 => exact (Kd.V_reads' bA.out).2.1); rintro e w42 ⟨rfl, hb⟩; have z_ := asi3 (Kd.V_below p45z hb) (blk_below (g := aT) (o := .cells #[.int .i64 a0_0, .string a0_1, .slice A0_2 ab.length c0_2, .slice A0_3 aa.length c0_3] 37 (0, 0)) p2z hb) (below_step p1z hb); clear bA aG HB; obtain ⟨bA, aG, HB⟩ := z_; (try clear hb))))
     go_meet
     case rel => exact ⟨_, (false), p5z, H', ⟨p54z⟩, ⟨p2z⟩, ⟨p1z⟩⟩
    subst c27
    have H1 : (if (ab.length : Int) = 0 then (a6.j1 kj7 a1 ((aa.length : Int) == 0) a0_0 a0_1 ab aa) else (a6.j1 kj7 a1 false a0_0 a0_1 ab aa)) = some r := p72z
    clear H
    have H := H1
    clear H1
    by_cases c28 : (ab.length : Int) = 0
    case pos =>
     rw [if_pos c28] at H
     have c28b0 : ((ab.length : Int) == 0) = true := beq_iff_eq.mpr c28
     have c28b1 : ((ab.length : Int) != 0) = false := bne_eq_false_iff_eq.mpr c28
     clear c28
     have H' := Aside0.mk H
     clear H
     obtain ⟨hcz29_0, hcz29_1, hcz29_2, hcz29_3, hfz29_0, hfz29_1, hfz29_2, hfz29_3⟩ := cells4 aG.out
     go_wp2_with (first | ((with_reducible refine gate_conv rfl ?_); refine bN rfl A25.out p10z ?_; intro gG w30 ho0 hb; have z_ := asi3 (Kd.V_lower (Kd.V_mono (ok' := fun k_ => k_ ≠ aT) ho0 (fun k_ hk_ => (Kd.freshB (g := aT) (o := .cells #[.int .i64 a0_0, .string a0_1, .slice A0_2 ab.length c0_2, .slice A0_3 aa.length c0_3] 37 (0, 0)) p2z k_ (Nat.le_of_eq hk_.symm)))) (below_size p1z)) (blk_below (g := aT) (o := .cells #[.int .i64 a0_0, .string a0_1, .slice A0_2 ab.length c0_2, .slice A0_3 aa.length c0_3] 37 (0, 0)) p2z hb) (below_step p1z hb); clear aG HB; obtain ⟨bA, aG, HB⟩ := z_; (try clear hb ho0); obtain ⟨Ao31, co31, eo31⟩ := Kd.V_slice bA.out; subst eo31) | (go_at_call 78; (with_reducible refine (aq.calls kj7 _ _ eh true _ ?side1 ?side2 A26.out).mono ?_); (case side1 => exact p29z); (case side2 => exact (Kd.V_reads' bA.out).2.1); rintro e w32 ⟨rfl, hb⟩; have z_ := asi3 (Kd.V_below p45z hb) (blk_below (g := aT) (o := .cells #[.int .i64 a0_0, .string a0_1, .slice A0_2 ab.length c0_2, .slice A0_3 aa.length c0_3] 37 (0, 0)) p2z hb) (below_step p1z hb); clear bA aG HB; obtain ⟨bA, aG, HB⟩ := z_; (try clear hb); obtain ⟨hcz33_0, hcz33_1, hcz33_2, hcz33_3, hfz33_0, hfz33_1, hfz33_2, hfz33_3⟩ := cells4 aG.out))
     repeat (go_quiet (first | ((with_reducible refine gate_conv rfl ?_); refine bN rfl A25.out p10z ?_; intro gG w30 ho0 hb; have z_ := asi3 (Kd.V_lower (Kd.V_mono (ok' := fun k_ => k_ ≠ aT) ho0 (fun k_ hk_ => (Kd.freshB (g := aT) (o := .cells #[.int .i64 a0_0, .string a0_1, .slice A0_2 ab.length c0_2, .slice A0_3 aa.length c0_3] 37 (0, 0)) p2z k_ (Nat.le_of_eq hk_.symm)))) (below_size p1z)) (blk_below (g := aT) (o := .cells #[.int .i64 a0_0, .string a0_1, .slice A0_2 ab.length c0_2, .slice A0_3 aa.length c0_3] 37 (0, 0)) p2z hb) (below_step p1z hb); clear aG HB; obtain ⟨bA, aG, HB⟩ := z_; (try clear hb ho0); obtain ⟨Ao31, co31, eo31⟩ := Kd.V_slice bA.out; subst eo31) | (go_at_call 78; (with_reducible refine (aq.calls kj7 _ _ eh true _ ?side1 ?side2 A26.out).mono ?_); (case side1 => exact p29z); (case side2 => exact (Kd.V_reads' bA.out).2.1); rintro e w32 ⟨rfl, hb⟩; have z_ := asi3 (Kd.V_below p45z hb) (blk_below (g := aT) (o := .cells #[.int .i64 a0_0, .string a0_1, .slice A0_2 ab.length c0_2, .slice A0_3 aa.length c0_3] 37 (0, 0)) p2z hb) (below_step p1z hb); clear bA aG HB; obtain ⟨bA, aG, HB⟩ := z_; (try clear hb); obtain ⟨hcz33_0, hcz33_1, hcz33_2, hcz33_3, hfz33_0, hfz33_1, hfz33_2, hfz33_3⟩ := cells4 aG.out)); try go_wp2_with (first | ((with_reducible refine gate_conv rfl ?_); refine bN rfl A25.out p10z ?_; intro gG w30 ho0 hb; have z_ := asi3 (Kd.V_lower (Kd.V_mono (ok' := fun k_ => k_ ≠ aT) ho0 (fun k_ hk_ => (Kd.freshB (g := aT) (o := .cells #[.int .i64 a0_0, .string a0_1, .slice A0_2 ab.length c0_2, .slice A0_3 aa.length c0_3] 37 (0, 0)) p2z k_ (Nat.le_of_eq hk_.symm)))) (below_size p1z)) (blk_below (g := aT) (o := .cells #[.int .i64 a0_0, .string a0_1, .slice A0_2 ab.length c0_2, .slice A0_3 aa.length c0_3] 37 (0, 0)) p2z hb) (below_step p1z hb); clear aG HB; obtain ⟨bA, aG, HB⟩ := z_; (try clear hb ho0); obtain ⟨Ao31, co31, eo31⟩ := Kd.V_slice bA.out; subst eo31) | (go_at_call 78; (with_reducible refine (aq.calls kj7 _ _ eh true _ ?side1 ?side2 A26.out).mono ?_); (case side1 => exact p29z); (case side2 => exact (Kd.V_reads' bA.out).2.1); rintro e w32 ⟨rfl, hb⟩; have z_ := asi3 (Kd.V_below p45z hb) (blk_below (g := aT) (o := .cells #[.int .i64 a0_0, .string a0_1, .slice A0_2 ab.length c0_2, .slice A0_3 aa.length c0_3] 37 (0, 0)) p2z hb) (below_step p1z hb); clear bA aG HB; obtain ⟨bA, aG, HB⟩ := z_; (try clear hb); obtain ⟨hcz33_0, hcz33_1, hcz33_2, hcz33_3, hfz33_0, hfz33_1, hfz33_2, hfz33_3⟩ := cells4 aG.out)))
     go_meet
     case rel => exact ⟨_, (((aa.length : Int) == 0)), p5z, H', ⟨p54z⟩, ⟨p2z⟩, ⟨p1z⟩⟩
    rw [if_neg c28] at H
    have c28b0 : ((ab.length : Int) == 0) = false := beq_eq_false_iff_ne.mpr c28
    have c28b1 : ((ab.length : Int) != 0) = true := bne_iff_ne.mpr c28
    have c28b2 : ¬ (ab = []) := fun h_ => c28 (by rw [h_]; rfl)
    have H' := Aside0.mk H
    clear H
    obtain ⟨hcz34_0, hcz34_1, hcz34_2, hcz34_3, hfz34_0, hfz34_1, hfz34_2, hfz34_3⟩ := cells4 aG.out
    go_wp2_with (first | ((with_reducible refine gate_conv rfl ?_); refine bN rfl A25.out p10z ?_; intro gG w35 ho0 hb; have z_ := asi3 (Kd.V_lower (Kd.V_mono (ok' := fun k_ => k_ ≠ aT) ho0 (fun k_ hk_ => (Kd.freshB (g := aT) (o := .cells #[.int .i64 a0_0, .string a0_1, .slice A0_2 ab.length c0_2, .slice A0_3 aa.length c0_3] 37 (0, 0)) p2z k_ (Nat.le_of_eq hk_.symm)))) (below_size p1z)) (blk_below (g := aT) (o := .cells #[.int .i64 a0_0, .string a0_1, .slice A0_2 ab.length c0_2, .slice A0_3 aa.length c0_3] 37 (0, 0)) p2z hb) (below_step p1z hb); clear aG HB; obtain ⟨bA, aG, HB⟩ := z_; (try clear hb ho0); obtain ⟨Ao36, co36, eo36⟩ := Kd.V_slice bA.out; subst eo36) | (go_at_call 78; (with_reducible refine (aq.calls kj7 _ _ eh true _ ?side1 ?side2 A26.out).mono ?_); (case side1 => exact p29z); (case side2 => exact (Kd.V_reads' bA.out).2.1); rintro e w37 ⟨rfl, hb⟩; have z_ := asi3 (Kd.V_below p45z hb) (blk_below (g := aT) (o := .cells #[.int .i64 a0_0, .string a0_1, .slice A0_2 ab.length c0_2, .slice A0_3 aa.length c0_3] 37 (0, 0)) p2z hb) (below_step p1z hb); clear bA aG HB; obtain ⟨bA, aG, HB⟩ := z_; (try clear hb); obtain ⟨hcz38_0, hcz38_1, hcz38_2, hcz38_3, hfz38_0, hfz38_1, hfz38_2, hfz38_3⟩ := cells4 aG.out))
    repeat (go_quiet (first | ((with_reducible refine gate_conv rfl ?_); refine bN rfl A25.out p10z ?_; intro gG w35 ho0 hb; have z_ := asi3 (Kd.V_lower (Kd.V_mono (ok' := fun k_ => k_ ≠ aT) ho0 (fun k_ hk_ => (Kd.freshB (g := aT) (o := .cells #[.int .i64 a0_0, .string a0_1, .slice A0_2 ab.length c0_2, .slice A0_3 aa.length c0_3] 37 (0, 0)) p2z k_ (Nat.le_of_eq hk_.symm)))) (below_size p1z)) (blk_below (g := aT) (o := .cells #[.int .i64 a0_0, .string a0_1, .slice A0_2 ab.length c0_2, .slice A0_3 aa.length c0_3] 37 (0, 0)) p2z hb) (below_step p1z hb); clear aG HB; obtain ⟨bA, aG, HB⟩ := z_; (try clear hb ho0); obtain ⟨Ao36, co36, eo36⟩ := Kd.V_slice bA.out; subst eo36) | (go_at_call 78; (with_reducible refine (aq.calls kj7 _ _ eh true _ ?side1 ?side2 A26.out).mono ?_); (case side1 => exact p29z); (case side2 => exact (Kd.V_reads' bA.out).2.1); rintro e w37 ⟨rfl, hb⟩; have z_ := asi3 (Kd.V_below p45z hb) (blk_below (g := aT) (o := .cells #[.int .i64 a0_0, .string a0_1, .slice A0_2 ab.length c0_2, .slice A0_3 aa.length c0_3] 37 (0, 0)) p2z hb) (below_step p1z hb); clear bA aG HB; obtain ⟨bA, aG, HB⟩ := z_; (try clear hb); obtain ⟨hcz38_0, hcz38_1, hcz38_2, hcz38_3, hfz38_0, hfz38_1, hfz38_2, hfz38_3⟩ := cells4 aG.out)); try go_wp2_with (first | ((with_reducible refine gate_conv rfl ?_); refine bN rfl A25.out p10z ?_; intro gG w35 ho0 hb; have z_ := asi3 (Kd.V_lower (Kd.V_mono (ok' := fun k_ => k_ ≠ aT) ho0 (fun k_ hk_ => (Kd.freshB (g := aT) (o := .cells #[.int .i64 a0_0, .string a0_1, .slice A0_2 ab.length c0_2, .slice A0_3 aa.length c0_3] 37 (0, 0)) p2z k_ (Nat.le_of_eq hk_.symm)))) (below_size p1z)) (blk_below (g := aT) (o := .cells #[.int .i64 a0_0, .string a0_1, .slice A0_2 ab.length c0_2, .slice A0_3 aa.length c0_3] 37 (0, 0)) p2z hb) (below_step p1z hb); clear aG HB; obtain ⟨bA, aG, HB⟩ := z_; (try clear hb ho0); obtain ⟨Ao36, co36, eo36⟩ := Kd.V_slice bA.out; subst eo36) | (go_at_call 78; (with_reducible refine (aq.calls kj7 _ _ eh true _ ?side1 ?side2 A26.out).mono ?_); (case side1 => exact p29z); (case side2 => exact (Kd.V_reads' bA.out).2.1); rintro e w37 ⟨rfl, hb⟩; have z_ := asi3 (Kd.V_below p45z hb) (blk_below (g := aT) (o := .cells #[.int .i64 a0_0, .string a0_1, .slice A0_2 ab.length c0_2, .slice A0_3 aa.length c0_3] 37 (0, 0)) p2z hb) (below_step p1z hb); clear bA aG HB; obtain ⟨bA, aG, HB⟩ := z_; (try clear hb); obtain ⟨hcz38_0, hcz38_1, hcz38_2, hcz38_3, hfz38_0, hfz38_1, hfz38_2, hfz38_3⟩ := cells4 aG.out)))
    go_meet
    case rel => exact ⟨_, (false), p5z, H', ⟨p54z⟩, ⟨p2z⟩, ⟨p1z⟩⟩
 case rest =>
  clear HC5
  try clear cW
  try clear hcz7_0
  try clear hcz7_1
  try clear hcz7_2
  try clear hcz7_3
  try clear hfz7_0
  try clear hfz7_1
  try clear hfz7_2
  try clear hfz7_3
  obtain ⟨kq, dU, rfl, HA, HJ4, aG, HB⟩ := hcut
  cases kq with
  | zero => exact absurd HA.out (by simp [a6.j1])
  | succ kj4 =>
   have H := HA.out
   clear HA
   simp only [a6.j1] at H
   have H' := Aside0.mk H
   clear H
   go_wp2
   repeat (go_quiet (fail); try go_wp2)
   go_loopg [5, 6] kj4 (fun kq v5 v6 w' => ∃ (aM : Bool) (bO : Int), v5 = .bool aM ∧ v6 = .int .i64 bO ∧ Aside0 (a6.l0 kq a1 aM bO a0_0 a0_1 ab aa = some r) ∧ Aside0 (kq ≤ kj4) ∧ Aside0 (w'.heap[aT]? = some (.cells #[.int .i64 a0_0, .string a0_1, (.slice A0_2 ab.length c0_2), (.slice A0_3 aa.length c0_3)] 37 (0, 0))) ∧ Aside0 (Below w.heap.size w w'))
   case atStart => exact ⟨(dU), (0), p5z, p5z, H', ⟨Nat.le_refl _⟩, ⟨p2z⟩, ⟨p1z⟩⟩
   case round =>
    clear H'
    obtain ⟨aM, bO, rfl, rfl, HA, HK2, aG, HB⟩ := hrel
    cases gk with
    | zero => exact absurd HA.out (by simp [a6.l0])
    | succ k2 =>
     have H := HA.out
     clear HA
     simp only [a6.l0] at H
     have HC51 := Aside0.mk H
     clear H
     go_upto_region 19 with (fail)
     repeat (go_quiet (fail); go_upto_region 19 with (fail))
     go_cut [99] (fun v99 wc => ∃ (kq : Nat) (gd : Bool), v99 = .bool gd ∧ Aside0 (a6.j3 kq a1 aM bO gd a0_0 a0_1 ab aa = some r) ∧ Aside0 (kq ≤ k2) ∧ Aside0 (wc.heap[aT]? = some (.cells #[.int .i64 a0_0, .string a0_1, (.slice A0_2 ab.length c0_2), (.slice A0_3 aa.length c0_3)] 37 (0, 0))) ∧ Aside0 (Below w.heap.size w wc))
     case first =>
      have H := HC51.out
      clear HC51
      by_cases c52 : bO < (ab.length : Int)
      case pos =>
       rw [if_pos c52] at H
       have fH : decide (bO < (ab.length : Int)) = true := decide_eq_true c52
       clear c52
       (first | rw [fH] | (simp only [i64_w, i32_w]; rw [fH]) | skip)
       have H' := Aside0.mk H
       clear H
       obtain ⟨hcz53_0, hcz53_1, hcz53_2, hcz53_3, hfz53_0, hfz53_1, hfz53_2, hfz53_3⟩ := cells4 aG.out
       go_wp2
       repeat (go_quiet (fail); try go_wp2)
       go_meet
       case rel => exact ⟨_, (aM), p5z, H', ⟨by have := HJ4.out; have := HK2.out; first | omega | exact Nat.le_refl _⟩, ⟨p2z⟩, ⟨p1z⟩⟩
      rw [if_neg c52] at H
      have fH : decide (bO < (ab.length : Int)) = false := decide_eq_false c52
      clear c52
      (first | rw [fH] | (simp only [i64_w, i32_w]; rw [fH]) | skip)
      have H' := Aside0.mk H
      clear H
      obtain ⟨hcz54_0, hcz54_1, hcz54_2, hcz54_3, hfz54_0, hfz54_1, hfz54_2, hfz54_3⟩ := cells4 aG.out
      go_wp2
      repeat (go_quiet (fail); try go_wp2)
      go_meet
      case rel => exact ⟨_, (false), p5z, H', ⟨by have := HJ4.out; have := HK2.out; first | omega | exact Nat.le_refl _⟩, ⟨p2z⟩, ⟨p1z⟩⟩
     case rest =>
      clear HC51
      obtain ⟨kq, gd, rfl, HA, HJ50, aG, HB⟩ := hcut
      cases kq with
      | zero => exact absurd HA.out (by simp [a6.j3])
      | succ kj50 =>
       have H := HA.out
       clear HA
       simp only [a6.j3] at H
       by_cases c55 : gd = true
       case neg =>
        replace c55 := Bool.eq_false_iff.mpr c55
        subst c55
        have H1 : (a6.l2 kj50 a1 aM 0 a0_0 a0_1 ab aa) = some r := p39z
        clear H
        have H := H1
        clear H1
        have H' := Aside0.mk H
        clear H
        go_wp2
        repeat (go_quiet (fail); try go_wp2)
        go_loopg [5, 8] kj50 (fun kq v5 v8 w' => ∃ (dU : Bool) (cT : Int), v5 = .bool dU ∧ v8 = .int .i64 cT ∧ Aside0 (a6.l2 kq a1 dU cT a0_0 a0_1 ab aa = some r) ∧ Aside0 (kq ≤ kj50) ∧ Aside0 (w'.heap[aT]? = some (.cells #[.int .i64 a0_0, .string a0_1, (.slice A0_2 ab.length c0_2), (.slice A0_3 aa.length c0_3)] 37 (0, 0))) ∧ Aside0 (Below w.heap.size w w'))
        case atStart => exact ⟨(aM), (0), p5z, p5z, H', ⟨Nat.le_refl _⟩, ⟨p2z⟩, ⟨p1z⟩⟩
        case round =>
         clear H'
         try clear c55
         obtain ⟨dU, cT, rfl, rfl, HA, HK4, aG, HB⟩ := hrel
         cases gk with
         | zero => exact absurd HA.out (by simp [a6.l2])
         | succ k4 =>
          have H := HA.out
          clear HA
          simp only [a6.l2] at H
          by_cases c71 : cT < (aa.length : Int)
          case neg =>
           rw [if_neg c71] at H
           have c71b0 : decide (cT < (aa.length : Int)) = false := decide_eq_false c71
           clear c71
           obtain rfl := Option.some.inj H
           obtain ⟨hcz78_0, hcz78_1, hcz78_2, hcz78_3, hfz78_0, hfz78_1, hfz78_2, hfz78_3⟩ := cells4 aG.out
           go_wp2
           repeat (go_quiet (fail); try go_wp2)
           go_ret
           exact ⟨p7z, p1z⟩

          rw [if_pos c71] at H
          have c71b0 : decide (cT < (aa.length : Int)) = true := decide_eq_true c71
          clear c71
          by_cases c72 : dU = true
          case neg =>
           replace c72 := Bool.eq_false_iff.mpr c72
           subst c72
           have H1 : (some false) = some r := p39z
           clear H
           have H := H1
           clear H1
           obtain rfl := Option.some.inj H
           obtain ⟨hcz77_0, hcz77_1, hcz77_2, hcz77_3, hfz77_0, hfz77_1, hfz77_2, hfz77_3⟩ := cells4 aG.out
           go_wp2
           repeat (go_quiet (fail); try go_wp2)
           go_ret
           exact ⟨p7z, p1z⟩
          subst c72
          have H1 : (if 0 ≤ cT then ((a6.f k4 ((rd_T37 aa cT).f0) ((rd_T37 aa cT).f1) ((rd_T37 aa cT).f2) ((rd_T37 aa cT).f3) (wrap64 (a1 + 1))).bind fun gc => (a6.l2 k4 a1 gc (wrap64 (cT + 1)) a0_0 a0_1 ab aa)) else (none)) = some r := p72z
          clear H
          have H := H1
          clear H1
          by_cases c73 : 0 ≤ cT
          case neg =>
           rw [if_neg c73] at H
           exact absurd H (by simp)
          rw [if_pos c73] at H
          have c73b0 : decide (0 ≤ cT) = true := decide_eq_true c73
          clear c73
          replace H := Option.bind_eq_some_iff.mp H
          obtain ⟨gc, A740, H⟩ := H
          replace H : (a6.l2 k4 a1 gc (wrap64 (cT + 1)) a0_0 a0_1 ab aa) = some r := H
          have A74 := Aside0.mk A740
          clear A740
          have H' := Aside0.mk H
          clear H
          obtain ⟨hcz75_0, hcz75_1, hcz75_2, hcz75_3, hfz75_0, hfz75_1, hfz75_2, hfz75_3⟩ := cells4 aG.out
          have p306 : 0 ≤ (cT : Int) := of_decide_eq_true p4z
          have q306 : cT < (aa.length : Int) := of_decide_eq_true p4z
          obtain ⟨ad306, A306_2, c306_2, A306_3, c306_3, e306, hx306_0, hx306_1, hx306_2, hx306_3, hl306_2, hi306_2, hl306_3, hi306_3⟩ := at_T37 cP.out cT p306 q306
          cases e306
          replace hx306_0 := (HB.out.cell (World.block_lt_of_cell? w _ hx306_0)).trans hx306_0
          replace hx306_1 := (HB.out.cell (World.block_lt_of_cell? w _ hx306_1)).trans hx306_1
          replace hx306_2 := (HB.out.cell (World.block_lt_of_cell? w _ hx306_2)).trans hx306_2
          replace hx306_3 := (HB.out.cell (World.block_lt_of_cell? w _ hx306_3)).trans hx306_3
          have HR306_2 := Aside0.mk hi306_2
          have gf := Aside0.mk hl306_2
          clear hi306_2 hl306_2
          have HR306_3 := Aside0.mk hi306_3
          have gg := Aside0.mk hl306_3
          clear hi306_3 hl306_3
          replace p306 := eq_true p306
          replace q306 := eq_true q306
          go_wp2_with (first | (go_at_call 46; (with_reducible refine (ih k4 p73z ((rd_T37 aa cT).f0) ((rd_T37 aa cT).f1) _ _ ((rd_T37 aa cT).f2) _ _ ((rd_T37 aa cT).f3) (wrap64 (a1 + 1)) gc _ ?side1 ?side2 ?side3 ?side4 A74.out).mono ?_); (case side1 => exact p78z); (case side2 => exact gf.out); (case side3 => exact p79z); (case side4 => exact gg.out); rintro e w76 ⟨rfl, hb⟩; have z_ := asi2 (blk_below (g := aT) (o := .cells #[.int .i64 a0_0, .string a0_1, .slice A0_2 ab.length c0_2, .slice (some ad306) aa.length c0_3] 37 (0, 0)) p2z hb) (below_step p1z hb); clear aG HB; obtain ⟨aG, HB⟩ := z_; (try clear hb)))
          repeat (go_quiet (first | (go_at_call 46; (with_reducible refine (ih k4 p73z ((rd_T37 aa cT).f0) ((rd_T37 aa cT).f1) _ _ ((rd_T37 aa cT).f2) _ _ ((rd_T37 aa cT).f3) (wrap64 (a1 + 1)) gc _ ?side1 ?side2 ?side3 ?side4 A74.out).mono ?_); (case side1 => exact p78z); (case side2 => exact gf.out); (case side3 => exact p79z); (case side4 => exact gg.out); rintro e w76 ⟨rfl, hb⟩; have z_ := asi2 (blk_below (g := aT) (o := .cells #[.int .i64 a0_0, .string a0_1, .slice A0_2 ab.length c0_2, .slice (some ad306) aa.length c0_3] 37 (0, 0)) p2z hb) (below_step p1z hb); clear aG HB; obtain ⟨aG, HB⟩ := z_; (try clear hb))); try go_wp2_with (first | (go_at_call 46; (with_reducible refine (ih k4 p73z ((rd_T37 aa cT).f0) ((rd_T37 aa cT).f1) _ _ ((rd_T37 aa cT).f2) _ _ ((rd_T37 aa cT).f3) (wrap64 (a1 + 1)) gc _ ?side1 ?side2 ?side3 ?side4 A74.out).mono ?_); (case side1 => exact p78z); (case side2 => exact gf.out); (case side3 => exact p79z); (case side4 => exact gg.out); rintro e w76 ⟨rfl, hb⟩; have z_ := asi2 (blk_below (g := aT) (o := .cells #[.int .i64 a0_0, .string a0_1, .slice A0_2 ab.length c0_2, .slice (some ad306) aa.length c0_3] 37 (0, 0)) p2z hb) (below_step p1z hb); clear aG HB; obtain ⟨aG, HB⟩ := z_; (try clear hb))))
          go_roundg k4
          case measure => have := HJ4.out; have := HK2.out; have := HJ50.out; have := HK4.out; omega
          case rel => exact ⟨(gc), (wrap64 (cT + 1)), p5z, p5z, H', ⟨p73z⟩, ⟨p2z⟩, ⟨p1z⟩⟩
       subst c55
       have H1 : (if 0 ≤ bO then (if bO < (ab.length : Int) then ((bI.f (rdOf ByteArray.empty ab bO)).bind fun gD => ((aq.f kj50 gD).bind fun fc => (a6.l1 kj50 a1 fc bO 0 a0_0 a0_1 ab aa))) else (none)) else (none)) = some r := p72z
       clear H
       have H := H1
       clear H1
       by_cases c56 : 0 ≤ bO
       case neg =>
        rw [if_neg c56] at H
        exact absurd H (by simp)
       rw [if_pos c56] at H
       have c56b0 : decide (0 ≤ bO) = true := decide_eq_true c56
       clear c56
       by_cases c57 : bO < (ab.length : Int)
       case neg =>
        rw [if_neg c57] at H
        exact absurd H (by simp)
       rw [if_pos c57] at H
       have c57b0 : decide (bO < (ab.length : Int)) = true := decide_eq_true c57
       clear c57
       replace H := Option.bind_eq_some_iff.mp H
       obtain ⟨gD, A580, H⟩ := H
       replace H : ((aq.f kj50 gD).bind fun fc => (a6.l1 kj50 a1 fc bO 0 a0_0 a0_1 ab aa)) = some r := H
       have A58 := Aside0.mk A580
       clear A580
       replace H := Option.bind_eq_some_iff.mp H
       obtain ⟨fc, A590, H⟩ := H
       replace H : (a6.l1 kj50 a1 fc bO 0 a0_0 a0_1 ab aa) = some r := H
       have A59 := Aside0.mk A590
       clear A590
       have H' := Aside0.mk H
       clear H
       obtain ⟨hcz60_0, hcz60_1, hcz60_2, hcz60_3, hfz60_0, hfz60_1, hfz60_2, hfz60_3⟩ := cells4 aG.out
       have p299 : 0 ≤ (bO : Int) := of_decide_eq_true p4z
       have q299 : bO < (ab.length : Int) := of_decide_eq_true p4z
       obtain ⟨ad299, e299, hx299_0⟩ := Kd.at_string cU.out bO p299 q299
       cases e299
       replace hx299_0 := (HB.out.cell (World.block_lt_of_cell? w _ hx299_0)).trans hx299_0
       replace p299 := eq_true p299
       replace q299 := eq_true q299
       go_wp2_with (first | ((with_reducible refine gate_conv rfl ?_); refine bN rfl A58.out p10z ?_; intro v301 w61 ho0 hb; have z_ := asi3 (Kd.V_lower (Kd.V_mono (ok' := fun k_ => k_ ≠ aT) ho0 (fun k_ hk_ => (Kd.freshB (g := aT) (o := .cells #[.int .i64 a0_0, .string a0_1, .slice (some ad299) ab.length c0_2, .slice A0_3 aa.length c0_3] 37 (0, 0)) p2z k_ (Nat.le_of_eq hk_.symm)))) (below_size p1z)) (blk_below (g := aT) (o := .cells #[.int .i64 a0_0, .string a0_1, .slice (some ad299) ab.length c0_2, .slice A0_3 aa.length c0_3] 37 (0, 0)) p2z hb) (below_step p1z hb); clear aG HB; obtain ⟨dc, aG, HB⟩ := z_; (try clear hb ho0); obtain ⟨Ao62, co62, eo62⟩ := Kd.V_slice dc.out; subst eo62) | (go_at_call 78; (with_reducible refine (aq.calls kj50 _ _ gD fc _ ?side1 ?side2 A59.out).mono ?_); (case side1 => exact p80z); (case side2 => exact (Kd.V_reads' dc.out).2.1); rintro e w63 ⟨rfl, hb⟩; have z_ := asi3 (Kd.V_below p113z hb) (blk_below (g := aT) (o := .cells #[.int .i64 a0_0, .string a0_1, .slice (some ad299) ab.length c0_2, .slice A0_3 aa.length c0_3] 37 (0, 0)) p2z hb) (below_step p1z hb); clear dc aG HB; obtain ⟨dc, aG, HB⟩ := z_; (try clear hb)))
       repeat (go_quiet (first | ((with_reducible refine gate_conv rfl ?_); refine bN rfl A58.out p10z ?_; intro v301 w61 ho0 hb; have z_ := asi3 (Kd.V_lower (Kd.V_mono (ok' := fun k_ => k_ ≠ aT) ho0 (fun k_ hk_ => (Kd.freshB (g := aT) (o := .cells #[.int .i64 a0_0, .string a0_1, .slice (some ad299) ab.length c0_2, .slice A0_3 aa.length c0_3] 37 (0, 0)) p2z k_ (Nat.le_of_eq hk_.symm)))) (below_size p1z)) (blk_below (g := aT) (o := .cells #[.int .i64 a0_0, .string a0_1, .slice (some ad299) ab.length c0_2, .slice A0_3 aa.length c0_3] 37 (0, 0)) p2z hb) (below_step p1z hb); clear aG HB; obtain ⟨dc, aG, HB⟩ := z_; (try clear hb ho0); obtain ⟨Ao62, co62, eo62⟩ := Kd.V_slice dc.out; subst eo62) | (go_at_call 78; (with_reducible refine (aq.calls kj50 _ _ gD fc _ ?side1 ?side2 A59.out).mono ?_); (case side1 => exact p80z); (case side2 => exact (Kd.V_reads' dc.out).2.1); rintro e w63 ⟨rfl, hb⟩; have z_ := asi3 (Kd.V_below p113z hb) (blk_below (g := aT) (o := .cells #[.int .i64 a0_0, .string a0_1, .slice (some ad299) ab.length c0_2, .slice A0_3 aa.length c0_3] 37 (0, 0)) p2z hb) (below_step p1z hb); clear dc aG HB; obtain ⟨dc, aG, HB⟩ := z_; (try clear hb))); try go_wp2_with (first | ((with_reducible refine gate_conv rfl ?_); refine bN rfl A58.out p10z ?_; intro v301 w61 ho0 hb; have z_ := asi3 (Kd.V_lower (Kd.V_mono (ok' := fun k_ => k_ ≠ aT) ho0 (fun k_ hk_ => (Kd.freshB (g := aT) (o := .cells #[.int .i64 a0_0, .string a0_1, .slice (some ad299) ab.length c0_2, .slice A0_3 aa.length c0_3] 37 (0, 0)) p2z k_ (Nat.le_of_eq hk_.symm)))) (below_size p1z)) (blk_below (g := aT) (o := .cells #[.int .i64 a0_0, .string a0_1, .slice (some ad299) ab.length c0_2, .slice A0_3 aa.length c0_3] 37 (0, 0)) p2z hb) (below_step p1z hb); clear aG HB; obtain ⟨dc, aG, HB⟩ := z_; (try clear hb ho0); obtain ⟨Ao62, co62, eo62⟩ := Kd.V_slice dc.out; subst eo62) | (go_at_call 78; (with_reducible refine (aq.calls kj50 _ _ gD fc _ ?side1 ?side2 A59.out).mono ?_); (case side1 => exact p80z); (case side2 => exact (Kd.V_reads' dc.out).2.1); rintro e w63 ⟨rfl, hb⟩; have z_ := asi3 (Kd.V_below p113z hb) (blk_below (g := aT) (o := .cells #[.int .i64 a0_0, .string a0_1, .slice (some ad299) ab.length c0_2, .slice A0_3 aa.length c0_3] 37 (0, 0)) p2z hb) (below_step p1z hb); clear dc aG HB; obtain ⟨dc, aG, HB⟩ := z_; (try clear hb))))
       go_loopg [5, 7] kj50 (fun kq v5 v7 w' => ∃ (dU : Bool) (dz : Int), v5 = .bool dU ∧ v7 = .int .i64 dz ∧ Aside0 (a6.l1 kq a1 dU bO dz a0_0 a0_1 ab aa = some r) ∧ Aside0 (kq ≤ kj50) ∧ Aside0 (w'.heap[aT]? = some (.cells #[.int .i64 a0_0, .string a0_1, (.slice (some ad299) ab.length c0_2), (.slice A0_3 aa.length c0_3)] 37 (0, 0))) ∧ Aside0 (Below w.heap.size w w'))
       case atStart => exact ⟨(fc), (0), p5z, p5z, H', ⟨Nat.le_refl _⟩, ⟨p2z⟩, ⟨p1z⟩⟩
       case round =>
        clear H'
        try clear c55
        try clear c56b0
        try clear c57b0
        try clear hcz60_0
        try clear hcz60_1
        try clear hcz60_2
        try clear hcz60_3
        try clear hfz60_0
        try clear hfz60_1
        try clear hfz60_2
        try clear hfz60_3
        try clear hx299_0
        try clear p299
        try clear q299
        obtain ⟨dU, dz, rfl, rfl, HA, HK4, aG, HB⟩ := hrel
        cases gk with
        | zero => exact absurd HA.out (by simp [a6.l1])
        | succ k4 =>
         have H := HA.out
         clear HA
         simp only [a6.l1] at H
         by_cases c64 : dz < bO
         case neg =>
          rw [if_neg c64] at H
          have c64b0 : decide (dz < bO) = false := decide_eq_false c64
          clear c64
          have H' := Aside0.mk H
          clear H
          go_wp2
          repeat (go_quiet (fail); try go_wp2)
          go_roundg k4
          case measure => have := HJ4.out; have := HK2.out; have := HJ50.out; have := HK4.out; omega
          case rel => exact ⟨(dU), (wrap64 (bO + 1)), p5z, p5z, H', ⟨p73z⟩, ⟨p2z⟩, ⟨p1z⟩⟩
         rw [if_pos c64] at H
         have c64b0 : decide (dz < bO) = true := decide_eq_true c64
         clear c64
         by_cases c65 : dU = true
         case neg =>
          replace c65 := Bool.eq_false_iff.mpr c65
          subst c65
          have H1 : (a6.l1 k4 a1 false bO (wrap64 (dz + 1)) a0_0 a0_1 ab aa) = some r := p39z
          clear H
          have H := H1
          clear H1
          have H' := Aside0.mk H
          clear H
          go_wp2
          repeat (go_quiet (fail); try go_wp2)
          go_roundg k4
          case measure => have := HJ4.out; have := HK2.out; have := HJ50.out; have := HK4.out; omega
          case rel => exact ⟨(false), (wrap64 (dz + 1)), p5z, p5z, H', ⟨p73z⟩, ⟨p2z⟩, ⟨p1z⟩⟩
         subst c65
         have H1 : (if 0 ≤ dz then (if dz < (ab.length : Int) then (if 0 ≤ bO then (if bO < (ab.length : Int) then (a6.l1 k4 a1 ((rdOf ByteArray.empty ab dz).toList != (rdOf ByteArray.empty ab bO).toList) bO (wrap64 (dz + 1)) a0_0 a0_1 ab aa) else (none)) else (none)) else (none)) else (none)) = some r := p72z
         clear H
         have H := H1
         clear H1
         by_cases c66 : 0 ≤ dz
         case neg =>
          rw [if_neg c66] at H
          exact absurd H (by simp)
         rw [if_pos c66] at H
         have c66b0 : decide (0 ≤ dz) = true := decide_eq_true c66
         clear c66
         by_cases c67 : dz < (ab.length : Int)
         case neg =>
          rw [if_neg c67] at H
          exact absurd H (by simp)
         rw [if_pos c67] at H
         have c67b0 : decide (dz < (ab.length : Int)) = true := decide_eq_true c67
         clear c67
         by_cases c68 : 0 ≤ bO
         case neg =>
          rw [if_neg c68] at H
          exact absurd H (by simp)
         rw [if_pos c68] at H
         have c68b0 : decide (0 ≤ bO) = true := decide_eq_true c68
         clear c68
         by_cases c69 : bO < (ab.length : Int)
         case neg =>
          rw [if_neg c69] at H
          exact absurd H (by simp)
         rw [if_pos c69] at H
         have c69b0 : decide (bO < (ab.length : Int)) = true := decide_eq_true c69
         clear c69
         have H' := Aside0.mk H
         clear H
         obtain ⟨hcz70_0, hcz70_1, hcz70_2, hcz70_3, hfz70_0, hfz70_1, hfz70_2, hfz70_3⟩ := cells4 aG.out
         have p304 : 0 ≤ (dz : Int) := of_decide_eq_true p4z
         have q304 : dz < (ab.length : Int) := of_decide_eq_true p4z
         obtain ⟨ad304, e304, hx304_0⟩ := Kd.at_string cU.out dz p304 q304
         obtain rfl : ad299 = ad304 := (by injection e304)
         replace hx304_0 := (HB.out.cell (World.block_lt_of_cell? w _ hx304_0)).trans hx304_0
         replace p304 := eq_true p304
         replace q304 := eq_true q304
         have p305 : 0 ≤ (bO : Int) := of_decide_eq_true p4z
         have q305 : bO < (ab.length : Int) := of_decide_eq_true p4z
         obtain ⟨ad305, e305, hx305_0⟩ := Kd.at_string cU.out bO p305 q305
         obtain rfl : ad299 = ad305 := (by injection e305)
         replace hx305_0 := (HB.out.cell (World.block_lt_of_cell? w _ hx305_0)).trans hx305_0
         replace p305 := eq_true p305
         replace q305 := eq_true q305
         go_wp2
         repeat (go_quiet (fail); try go_wp2)
         go_roundg k4
         case measure => have := HJ4.out; have := HK2.out; have := HJ50.out; have := HK4.out; omega
         case rel => exact ⟨(((rdOf ByteArray.empty ab dz).toList != (rdOf ByteArray.empty ab bO).toList)), (wrap64 (dz + 1)), p5z, p5z, H', ⟨p73z⟩, ⟨p2z⟩, ⟨p1z⟩⟩
/-! ### b7: function 19 -/
def b7.f (k : Nat) (a0_0 : Int) (a0_1 : ByteArray) (ab : List ByteArray) (aa : List (S37)) : Option (Int) := (ao.f k a0_0 a0_1 ab aa).bind fun fd => (if fd > 4000 then (some 2) else ((a6.f k a0_0 a0_1 ab aa 1).bind fun gH => (if gH = true then (some 0) else (some 2))))
theorem b7.calls (k : Nat) (a0_0 : Int) (a0_1 : ByteArray) (A0_2 : Option Addr) (c0_2 : Nat) (ab : List ByteArray) (A0_3 : Option Addr) (c0_3 : Nat) (aa : List (S37)) (r : Int) (w : World) (hr0_2 : Kd.C Kd.string w A0_2 ab.length ab) (hc0_2 : ab.length ≤ c0_2) (hr0_3 : Kd.C k37 w A0_3 aa.length aa) (hc0_3 : aa.length ≤ c0_3) (h : b7.f k a0_0 a0_1 ab aa = some r) :
 Calls Tryz.prog 19 #[.agg #[.int .i64 a0_0, .string a0_1, .slice A0_2 ab.length c0_2, .slice A0_3 aa.length c0_3]] w fun e w' => e = .returned (.int .i64 r) ∧ Below w.heap.size w w' := by
 have hu37 := Tryz.underlying37
 have cU := Aside0.mk hr0_2
 have bZ := Aside0.mk hc0_2
 clear hr0_2 hc0_2
 have cP := Aside0.mk hr0_3
 have cn := Aside0.mk hc0_3
 clear hr0_3 hc0_3
 have HB := Aside0.mk (Below.refl w.heap.size w)
 have H : ((ao.f k a0_0 a0_1 ab aa).bind fun fd => (if fd > 4000 then (some 2) else ((a6.f k a0_0 a0_1 ab aa 1).bind fun gH => (if gH = true then (some 0) else (some 2))))) = some r := h
 clear h
 replace H := Option.bind_eq_some_iff.mp H
 obtain ⟨fd, A20, H⟩ := H
 replace H : (if fd > 4000 then (some 2) else ((a6.f k a0_0 a0_1 ab aa 1).bind fun gH => (if gH = true then (some 0) else (some 2)))) = some r := H
 have A2 := Aside0.mk A20
 clear A20
 by_cases c3 : fd > 4000
 case pos =>
  rw [if_pos c3] at H
  have cW : decide (4000 < fd) = true := decide_eq_true c3
  clear c3
  obtain rfl := Option.some.inj H
  go_enter Tryz.func19, Tryz.ntmps19
  go_wp2_with (first | ((with_reducible refine gate_dst (N := 1) rfl ?_); refine box_event ?hg (N := 1) ?hd (cs := #[.int .i64 a0_0, .string a0_1, .slice A0_2 ab.length c0_2, .slice A0_3 aa.length c0_3]) (t := 37) ?hr ?_; (case hd => rfl); (case hg => rfl); (case hr => exact p9z); intro dB hg w4 hbox hb; have z_ := asi4 (below_step p0z hb) (hbox) ((p21z : w.heap.size ≤ dB)) ((p21z : w.heap.size ≤ dB)); clear HB; obtain ⟨HB, d4, GW308, jG⟩ := z_; clear hb hbox hg; obtain ⟨hcz5_0, hcz5_1, hcz5_2, hcz5_3, hfz5_0, hfz5_1, hfz5_2, hfz5_3⟩ := cells4 d4.out) | ((with_reducible refine gate_callee (f := 23) rfl ?_); refine goesL_ (some 4) rfl rfl Tryz.func23 p12z rfl #[.agg #[.int .i64 a0_0, .string a0_1, .slice A0_2 ab.length c0_2, .slice A0_3 aa.length c0_3]] rfl p3z ?_; (with_reducible refine (ao.calls k a0_0 a0_1 _ _ ab _ _ aa fd _ ?side1 ?side2 ?side3 ?side4 A2.out).mono ?_); (case side1 => exact p8z); (case side2 => exact bZ.out); (case side3 => exact p13z); (case side4 => exact cn.out); rintro e w6 ⟨rfl, hb⟩; refine ⟨_, rfl, ?_⟩; have z_ := asi2 (blk_below (g := dB) (o := .cells #[.int .i64 a0_0, .string a0_1, .slice A0_2 ab.length c0_2, .slice A0_3 aa.length c0_3] 37 (0, 0)) p70z hb) (below_step p33z hb); clear d4 HB; obtain ⟨d4, HB⟩ := z_; (try clear hb)))
  go_ret
  exact ⟨p7z, p33z⟩
 rw [if_neg c3] at H
 have cW : decide (4000 < fd) = false := decide_eq_false c3
 clear c3
 replace H := Option.bind_eq_some_iff.mp H
 obtain ⟨gH, A70, H⟩ := H
 replace H : (if gH = true then (some 0) else (some 2)) = some r := H
 have A7 := Aside0.mk A70
 clear A70
 by_cases c8 : gH = true
 case pos =>
  subst c8
  have H1 : (some 0) = some r := p72z
  clear H
  have H := H1
  clear H1
  obtain rfl := Option.some.inj H
  go_enter Tryz.func19, Tryz.ntmps19
  go_wp2_with (first | ((with_reducible refine gate_dst (N := 1) rfl ?_); refine box_event ?hg (N := 1) ?hd (cs := #[.int .i64 a0_0, .string a0_1, .slice A0_2 ab.length c0_2, .slice A0_3 aa.length c0_3]) (t := 37) ?hr ?_; (case hd => rfl); (case hg => rfl); (case hr => exact p9z); intro dB hg w9 hbox hb; have z_ := asi4 (below_step p0z hb) (hbox) ((p21z : w.heap.size ≤ dB)) ((p21z : w.heap.size ≤ dB)); clear HB; obtain ⟨HB, d4, GW308, jG⟩ := z_; clear hb hbox hg; obtain ⟨hcz10_0, hcz10_1, hcz10_2, hcz10_3, hfz10_0, hfz10_1, hfz10_2, hfz10_3⟩ := cells4 d4.out) | ((with_reducible refine gate_callee (f := 23) rfl ?_); refine goesL_ (some 4) rfl rfl Tryz.func23 p12z rfl #[.agg #[.int .i64 a0_0, .string a0_1, .slice A0_2 ab.length c0_2, .slice A0_3 aa.length c0_3]] rfl p3z ?_; (with_reducible refine (ao.calls k a0_0 a0_1 _ _ ab _ _ aa fd _ ?side1 ?side2 ?side3 ?side4 A2.out).mono ?_); (case side1 => exact p8z); (case side2 => exact bZ.out); (case side3 => exact p13z); (case side4 => exact cn.out); rintro e w11 ⟨rfl, hb⟩; refine ⟨_, rfl, ?_⟩; have z_ := asi2 (blk_below (g := dB) (o := .cells #[.int .i64 a0_0, .string a0_1, .slice A0_2 ab.length c0_2, .slice A0_3 aa.length c0_3] 37 (0, 0)) p70z hb) (below_step p33z hb); clear d4 HB; obtain ⟨d4, HB⟩ := z_; (try clear hb); obtain ⟨hcz12_0, hcz12_1, hcz12_2, hcz12_3, hfz12_0, hfz12_1, hfz12_2, hfz12_3⟩ := cells4 d4.out) | (go_at_call 46; (with_reducible refine (a6.calls k a0_0 a0_1 _ _ ab _ _ aa 1 true _ ?side1 ?side2 ?side3 ?side4 A7.out).mono ?_); (case side1 => exact p8z); (case side2 => exact bZ.out); (case side3 => exact p13z); (case side4 => exact cn.out); rintro e w13 ⟨rfl, hb⟩; have z_ := asi2 (blk_below (g := dB) (o := .cells #[.int .i64 a0_0, .string a0_1, .slice A0_2 ab.length c0_2, .slice A0_3 aa.length c0_3] 37 (0, 0)) p70z hb) (below_step p33z hb); clear d4 HB; obtain ⟨d4, HB⟩ := z_; (try clear hb)))
  go_ret
  exact ⟨p7z, p33z⟩
 replace c8 := Bool.eq_false_iff.mpr c8
 subst c8
 have H1 : (some 2) = some r := p39z
 clear H
 have H := H1
 clear H1
 obtain rfl := Option.some.inj H
 go_enter Tryz.func19, Tryz.ntmps19
 go_wp2_with (first | ((with_reducible refine gate_dst (N := 1) rfl ?_); refine box_event ?hg (N := 1) ?hd (cs := #[.int .i64 a0_0, .string a0_1, .slice A0_2 ab.length c0_2, .slice A0_3 aa.length c0_3]) (t := 37) ?hr ?_; (case hd => rfl); (case hg => rfl); (case hr => exact p9z); intro dB hg w14 hbox hb; have z_ := asi4 (below_step p0z hb) (hbox) ((p21z : w.heap.size ≤ dB)) ((p21z : w.heap.size ≤ dB)); clear HB; obtain ⟨HB, d4, GW308, jG⟩ := z_; clear hb hbox hg; obtain ⟨hcz15_0, hcz15_1, hcz15_2, hcz15_3, hfz15_0, hfz15_1, hfz15_2, hfz15_3⟩ := cells4 d4.out) | ((with_reducible refine gate_callee (f := 23) rfl ?_); refine goesL_ (some 4) rfl rfl Tryz.func23 p12z rfl #[.agg #[.int .i64 a0_0, .string a0_1, .slice A0_2 ab.length c0_2, .slice A0_3 aa.length c0_3]] rfl p3z ?_; (with_reducible refine (ao.calls k a0_0 a0_1 _ _ ab _ _ aa fd _ ?side1 ?side2 ?side3 ?side4 A2.out).mono ?_); (case side1 => exact p8z); (case side2 => exact bZ.out); (case side3 => exact p13z); (case side4 => exact cn.out); rintro e w16 ⟨rfl, hb⟩; refine ⟨_, rfl, ?_⟩; have z_ := asi2 (blk_below (g := dB) (o := .cells #[.int .i64 a0_0, .string a0_1, .slice A0_2 ab.length c0_2, .slice A0_3 aa.length c0_3] 37 (0, 0)) p70z hb) (below_step p33z hb); clear d4 HB; obtain ⟨d4, HB⟩ := z_; (try clear hb); obtain ⟨hcz17_0, hcz17_1, hcz17_2, hcz17_3, hfz17_0, hfz17_1, hfz17_2, hfz17_3⟩ := cells4 d4.out) | (go_at_call 46; (with_reducible refine (a6.calls k a0_0 a0_1 _ _ ab _ _ aa 1 false _ ?side1 ?side2 ?side3 ?side4 A7.out).mono ?_); (case side1 => exact p8z); (case side2 => exact bZ.out); (case side3 => exact p13z); (case side4 => exact cn.out); rintro e w18 ⟨rfl, hb⟩; have z_ := asi2 (blk_below (g := dB) (o := .cells #[.int .i64 a0_0, .string a0_1, .slice A0_2 ab.length c0_2, .slice A0_3 aa.length c0_3] 37 (0, 0)) p70z hb) (below_step p33z hb); clear d4 HB; obtain ⟨d4, HB⟩ := z_; (try clear hb)))
 go_ret
 exact ⟨p7z, p33z⟩
end Go.Proofs.YtodnggilomanbaaGreatDoor.PAll
