-- Written by this repo's program wip/tools/pr.py (over the kit's print) out of the translation. Not trusted: Lean checks it.
import Derived.Test.YtodnggilomanbaaGreatDoorAp
import Derived.Test.YtodnggilomanbaaGreatDoorHandStep
import Derived.Test.YtodnggilomanbaaGreatDoorGTz
import Derived.Test.YtodnggilomanbaaGreatDoorGTc
set_option maxHeartbeats 8000000
set_option maxRecDepth 100000
namespace Go.Proofs.YtodnggilomanbaaGreatDoor.PAll
open Go.RowKit Go.Proofs.YtodnggilomanbaaGreatDoorW.PrintWords Go.Proofs.YtodnggilomanbaaGreatDoorW.PrintLast Go.Proofs.YtodnggilomanbaaGreatDoorW.PrintMore
attribute [local go_sem] max2_int min2_int max_two min_two max_three min_three max_four min_four   -- for this text's walks alone
set_option linter.unusedVariables false
set_option linter.unusedSimpArgs false

/-! ### am: function 16 -/
mutual
def am.l0 : Nat → ByteArray → Int → Int → ByteArray → List ByteArray → List (S37) → Option (Int × ByteArray × List ByteArray × (List (S37)) × Bool)
  | 0, _, _, _, _, _, _ => none
  | k + 1, x1, x6, dR, eu, dx, cY => if x6 < (dx.length : Int) then (if x6 < (cY.length : Int) then (am.j1 k x1 x6 (dR == 7) dR eu dx cY) else (am.j1 k x1 x6 false dR eu dx cY)) else (am.j1 k x1 x6 false dR eu dx cY)
def am.j1 : Nat → ByteArray → Int → Bool → Int → ByteArray → List ByteArray → List (S37) → Option (Int × ByteArray × List ByteArray × (List (S37)) × Bool)
  | 0, _, _, _, _, _, _, _ => none
  | k + 1, x1, x6, x23, dR, eu, dx, cY => if x23 = true then (if 0 ≤ x6 then (if x6 < (dx.length : Int) then (if (rdOf ByteArray.empty dx x6).toList = x1.toList then (if x6 < (cY.length : Int) then ((ag.f k ((rd_T37 cY x6).f0) ((rd_T37 cY x6).f1) ((rd_T37 cY x6).f2) ((rd_T37 cY x6).f3)).bind fun ev => (some (ev.1, ev.2.1, ev.2.2.1, ev.2.2.2, true))) else (none)) else (am.l0 k x1 (wrap64 (x6 + 1)) dR eu dx cY)) else (none)) else (none)) else (some (0, (⟨#[]⟩ : ByteArray), ([] : List ByteArray), ([] : List (S37)), false))
end
def am.f (k : Nat) (a0_0 : Int) (a0_1 : ByteArray) (ab : List ByteArray) (aa : List (S37)) (a1 : ByteArray) : Option (Int × ByteArray × List ByteArray × (List (S37)) × Bool) := am.l0 k a1 0 a0_0 a0_1 ab aa
theorem am.calls (k : Nat) (a0_0 : Int) (a0_1 : ByteArray) (A0_2 : Option Addr) (c0_2 : Nat) (ab : List ByteArray) (A0_3 : Option Addr) (c0_3 : Nat) (aa : List (S37)) (a1 : ByteArray) (r1 : Int) (r2 : ByteArray) (r3 : List ByteArray) (r4 : List (S37)) (r5 : Bool) (w : World) (hr0_2 : Kd.C Kd.string w A0_2 ab.length ab) (hc0_2 : ab.length ≤ c0_2) (hr0_3 : Kd.C k37 w A0_3 aa.length aa) (hc0_3 : aa.length ≤ c0_3) (h : am.f k a0_0 a0_1 ab aa a1 = some (r1, r2, r3, r4, r5)) :
 Calls Tryz.prog 16 #[.agg #[.int .i64 a0_0, .string a0_1, .slice A0_2 ab.length c0_2, .slice A0_3 aa.length c0_3], .string a1] w fun e w' => ∃ v2_ v3_ : Value, e = .returned (.tuple #[.agg #[.int .i64 r1, .string r2, v2_, v3_], .bool r5]) ∧ Kd.R Kd.string 9 w' w.heap.size (fun _ => True) v2_ r3 ∧ Kd.R k37 37 w' w.heap.size (fun k_ => some k_ ≠ (v2_ : Value).ownBlock) v3_ r4 ∧ Below w.heap.size w w' := by
 have hu37 := Tryz.underlying37
 have cU := Aside0.mk hr0_2
 have bZ := Aside0.mk hc0_2
 clear hr0_2 hc0_2
 have cP := Aside0.mk hr0_3
 have cn := Aside0.mk hc0_3
 clear hr0_3 hc0_3
 have HB := Aside0.mk (Below.refl w.heap.size w)
 have H : (am.l0 k a1 0 a0_0 a0_1 ab aa) = some (r1, r2, r3, r4, r5) := h
 clear h
 have H' := Aside0.mk H
 clear H
 go_enter Tryz.func16, Tryz.ntmps16
 go_wp2_with (first | ((with_reducible refine gate_dst (N := 2) rfl ?_); (try (refine gate_guard (by rfl) ?_; dsimp only)); refine box_event ?hg (N := 2) ?hd (cs := #[.int .i64 a0_0, .string a0_1, .slice A0_2 ab.length c0_2, .slice A0_3 aa.length c0_3]) (t := 37) ?hr ?_; (case hd => rfl); (case hg => rfl); (case hr => exact p9z); intro dO hg w3 hbox hb; have z_ := asi4 (below_step p0z hb) (hbox) ((p21z : w.heap.size ≤ dO)) ((p21z : w.heap.size ≤ dO)); clear HB; obtain ⟨HB, dI, GW373, GE373⟩ := z_; clear hb hbox hg) | ((with_reducible refine gate_dst (N := 4) rfl ?_); (try (refine gate_guard (by rfl) ?_; dsimp only)); refine box_event ?hg (N := 4) ?hd (cs := #[.int .i64 0, .string (⟨#[]⟩ : ByteArray), .slice none 0 0, .slice none 0 0]) (t := 37) ?hr ?_; (case hd => rfl); (case hg => rfl); (case hr => exact p9z); intro cZ hg w4 hbox hb; have z_ := asi7 (blk_below (g := dO) (o := .cells #[.int .i64 a0_0, .string a0_1, .slice A0_2 ab.length c0_2, .slice A0_3 aa.length c0_3] 37 (0, 0)) p35z hb) (below_step p87z hb) (hbox) ((by rw [hg]; exact (below_size p87z) : w.heap.size ≤ cZ)) ((by rw [hg]; exact (below_size p87z) : w.heap.size ≤ cZ)) ((by rw [hg]; exact Nat.ne_of_lt (blk_lt (g := dO) (o := .cells #[.int .i64 a0_0, .string a0_1, .slice A0_2 ab.length c0_2, .slice A0_3 aa.length c0_3] 37 (0, 0)) p35z) : dO ≠ cZ)) ((by rw [hg]; exact Nat.ne_of_gt (blk_lt (g := dO) (o := .cells #[.int .i64 a0_0, .string a0_1, .slice A0_2 ab.length c0_2, .slice A0_3 aa.length c0_3] 37 (0, 0)) p35z) : cZ ≠ dO)); clear dI HB; obtain ⟨dI, HB, dT, GW374, GE374, NB373_374, NB374_373⟩ := z_; clear hb hbox hg))
 go_loopg [6] k (fun kq v6 w' => ∃ (aU : Int) (cV : Int) (cB : ByteArray), v6 = .int .i64 aU ∧ Aside0 (am.l0 kq a1 aU a0_0 a0_1 ab aa = some (r1, r2, r3, r4, r5)) ∧ Aside0 (kq ≤ k) ∧ Aside0 (w'.heap[dO]? = some (.cells #[.int .i64 a0_0, .string a0_1, (.slice A0_2 ab.length c0_2), (.slice A0_3 aa.length c0_3)] 37 (0, 0))) ∧ Aside0 (w'.heap[cZ]? = some (.cells #[.int .i64 cV, .string cB, (.slice none 0 0), (.slice none 0 0)] 37 (0, 0))) ∧ Aside0 (Below w.heap.size w w'))
 case atStart => exact ⟨(0), (0), ((⟨#[]⟩ : ByteArray)), p5z, H', ⟨Nat.le_refl _⟩, ⟨p35z⟩, ⟨p51z⟩, ⟨p22z⟩⟩
 case round =>
  clear H'
  obtain ⟨aU, cV, cB, rfl, HA, HK1, dI, dT, HB⟩ := hrel
  cases gk with
  | zero => exact absurd HA.out (by simp [am.l0])
  | succ k1 =>
   have H := HA.out
   clear HA
   simp only [am.l0] at H
   have HC5 := Aside0.mk H
   clear H
   go_upto_region 2 with (fail)
   go_cut [23] (fun v23 wc => ∃ (kq : Nat) (j4 : Bool), v23 = .bool j4 ∧ Aside0 (am.j1 kq a1 aU j4 a0_0 a0_1 ab aa = some (r1, r2, r3, r4, r5)) ∧ Aside0 (kq ≤ k1) ∧ Aside0 (wc.heap[dO]? = some (.cells #[.int .i64 a0_0, .string a0_1, (.slice A0_2 ab.length c0_2), (.slice A0_3 aa.length c0_3)] 37 (0, 0))) ∧ Aside0 (wc.heap[cZ]? = some (.cells #[.int .i64 cV, .string cB, (.slice none 0 0), (.slice none 0 0)] 37 (0, 0))) ∧ Aside0 (Below w.heap.size w wc))
   case first =>
    have H := HC5.out
    clear HC5
    by_cases c6 : aU < (ab.length : Int)
    case neg =>
     rw [if_neg c6] at H
     have df : decide (aU < (ab.length : Int)) = false := decide_eq_false c6
     clear c6
     (first | rw [df] | (simp only [i64_w, i32_w]; rw [df]) | skip)
     have H' := Aside0.mk H
     clear H
     have hnb12 := NB373_374.out
     have hnc12 := NB374_373.out
     obtain ⟨hcz13_0, hcz13_1, hcz13_2, hcz13_3, hfz13_0, hfz13_1, hfz13_2, hfz13_3⟩ := cells4 dI.out
     go_wp2
     go_meet
     case rel => exact ⟨_, (false), p5z, H', ⟨p75z⟩, ⟨p35z⟩, ⟨p51z⟩, ⟨p22z⟩⟩
    rw [if_pos c6] at H
    have df : decide (aU < (ab.length : Int)) = true := decide_eq_true c6
    clear c6
    (first | rw [df] | (simp only [i64_w, i32_w]; rw [df]) | skip)
    by_cases c7 : aU < (aa.length : Int)
    case pos =>
     rw [if_pos c7] at H
     have fm : decide (aU < (aa.length : Int)) = true := decide_eq_true c7
     clear c7
     have H' := Aside0.mk H
     clear H
     have hnb8 := NB373_374.out
     have hnc8 := NB374_373.out
     obtain ⟨hcz9_0, hcz9_1, hcz9_2, hcz9_3, hfz9_0, hfz9_1, hfz9_2, hfz9_3⟩ := cells4 dI.out
     go_wp2
     go_meet
     case rel => exact ⟨_, ((a0_0 == 7)), p5z, H', ⟨p75z⟩, ⟨p35z⟩, ⟨p51z⟩, ⟨p22z⟩⟩
    rw [if_neg c7] at H
    have fm : decide (aU < (aa.length : Int)) = false := decide_eq_false c7
    clear c7
    have H' := Aside0.mk H
    clear H
    have hnb10 := NB373_374.out
    have hnc10 := NB374_373.out
    obtain ⟨hcz11_0, hcz11_1, hcz11_2, hcz11_3, hfz11_0, hfz11_1, hfz11_2, hfz11_3⟩ := cells4 dI.out
    go_wp2
    go_meet
    case rel => exact ⟨_, (false), p5z, H', ⟨p75z⟩, ⟨p35z⟩, ⟨p51z⟩, ⟨p22z⟩⟩
   case rest =>
    clear HC5
    obtain ⟨kq, j4, rfl, HA, HJ4, dI, dT, HB⟩ := hcut
    cases kq with
    | zero => exact absurd HA.out (by simp [am.j1])
    | succ kj4 =>
     have H := HA.out
     clear HA
     simp only [am.j1] at H
     by_cases c14 : j4 = true
     case neg =>
      replace c14 := Bool.eq_false_iff.mpr c14
      subst c14
      have H1 : (some (0, (⟨#[]⟩ : ByteArray), ([] : List ByteArray), ([] : List (S37)), false)) = some (r1, r2, r3, r4, r5) := p39z
      clear H
      have H := H1
      clear H1
      simp only [Option.some.injEq, Prod.mk.injEq] at H
      obtain ⟨rfl, rfl, rfl, rfl, rfl⟩ := H
      have hnb28 := NB374_373.out
      have hnc28 := NB373_374.out
      obtain ⟨hcz29_0, hcz29_1, hcz29_2, hcz29_3, hfz29_0, hfz29_1, hfz29_2, hfz29_3⟩ := cells4 dT.out
      go_wp2
      refine bodyPost_ret (results_ct rfl _ _ cZ 37 #[.int .i64 0, .string (⟨#[]⟩ : ByteArray), .slice none 0 0, .slice none 0 0] (0, 0) _ rfl (by (with_reducible repeat (first | refine blk_drewN ?_ _ | refine blk_drew ?_ | refine blk_alloc ?_ _)); refine blk_put (cs := #[.int .i64 0, .string (⟨#[]⟩ : ByteArray), .slice none 0 0, .slice none 0 0]) ?_ 3 _ rfl; (with_reducible repeat (first | refine blk_drewN ?_ _ | refine blk_drew ?_ | refine blk_alloc ?_ _)); refine blk_put (cs := #[.int .i64 0, .string (⟨#[]⟩ : ByteArray), .slice none 0 0, .slice none 0 0]) ?_ 2 _ rfl; (with_reducible repeat (first | refine blk_drewN ?_ _ | refine blk_drew ?_ | refine blk_alloc ?_ _)); refine blk_put (cs := #[.int .i64 0, .string cB, .slice none 0 0, .slice none 0 0]) ?_ 1 _ rfl; (with_reducible repeat (first | refine blk_drewN ?_ _ | refine blk_drew ?_ | refine blk_alloc ?_ _)); refine blk_put (cs := #[.int .i64 cV, .string cB, .slice none 0 0, .slice none 0 0]) ?_ 0 _ rfl; (with_reducible repeat (first | refine blk_drewN ?_ _ | refine blk_drew ?_ | refine blk_alloc ?_ _)); exact dT.out) Tryz.underlying37 rfl p12z) rfl ?_
      exact ⟨_, _, p7z, p34z, p34z, p22z⟩
     subst c14
     have H1 : (if 0 ≤ aU then (if aU < (ab.length : Int) then (if (rdOf ByteArray.empty ab aU).toList = a1.toList then (if aU < (aa.length : Int) then ((ag.f kj4 ((rd_T37 aa aU).f0) ((rd_T37 aa aU).f1) ((rd_T37 aa aU).f2) ((rd_T37 aa aU).f3)).bind fun ev => (some (ev.1, ev.2.1, ev.2.2.1, ev.2.2.2, true))) else (none)) else (am.l0 kj4 a1 (wrap64 (aU + 1)) a0_0 a0_1 ab aa)) else (none)) else (none)) = some (r1, r2, r3, r4, r5) := p72z
     clear H
     have H := H1
     clear H1
     by_cases c15 : 0 ≤ aU
     case neg =>
      rw [if_neg c15] at H
      exact absurd H (by simp)
     rw [if_pos c15] at H
     have dA : decide (0 ≤ aU) = true := decide_eq_true c15
     clear c15
     by_cases c16 : aU < (ab.length : Int)
     case neg =>
      rw [if_neg c16] at H
      exact absurd H (by simp)
     rw [if_pos c16] at H
     have fx : decide (aU < (ab.length : Int)) = true := decide_eq_true c16
     clear c16
     by_cases c17 : (rdOf ByteArray.empty ab aU).toList = a1.toList
     case neg =>
      rw [if_neg c17] at H
      have eF : ((rdOf ByteArray.empty ab aU).toList == a1.toList) = false := beq_eq_false_iff_ne.mpr c17
      have gC : ((rdOf ByteArray.empty ab aU).toList != a1.toList) = true := bne_iff_ne.mpr c17
      have H' := Aside0.mk H
      clear H
      have hnb26 := NB373_374.out
      have hnc26 := NB374_373.out
      obtain ⟨hcz27_0, hcz27_1, hcz27_2, hcz27_3, hfz27_0, hfz27_1, hfz27_2, hfz27_3⟩ := cells4 dI.out
      have p375 : 0 ≤ (aU : Int) := of_decide_eq_true p4z
      have q375 : aU < (ab.length : Int) := of_decide_eq_true p4z
      obtain ⟨ad375, e375, hx375_0⟩ := Kd.at_string cU.out aU p375 q375
      cases e375
      replace hx375_0 := (HB.out.cell (World.block_lt_of_cell? w _ hx375_0)).trans hx375_0
      replace p375 := eq_true p375
      replace q375 := eq_true q375
      go_wp2
      go_roundg kj4
      case measure => have := HK1.out; have := HJ4.out; omega
      case rel => exact ⟨(wrap64 (aU + 1)), (cV), (cB), p5z, H', ⟨by have := HK1.out; have := HJ4.out; omega⟩, ⟨p35z⟩, ⟨p51z⟩, ⟨p22z⟩⟩
     rw [if_pos c17] at H
     have eF : ((rdOf ByteArray.empty ab aU).toList == a1.toList) = true := beq_iff_eq.mpr c17
     have gC : ((rdOf ByteArray.empty ab aU).toList != a1.toList) = false := bne_eq_false_iff_eq.mpr c17
     clear c17
     by_cases c18 : aU < (aa.length : Int)
     case neg =>
      rw [if_neg c18] at H
      exact absurd H (by simp)
     rw [if_pos c18] at H
     have c18b0 : decide (aU < (aa.length : Int)) = true := decide_eq_true c18
     clear c18
     replace H := Option.bind_eq_some_iff.mp H
     obtain ⟨⟨gV, iB, jm, jO⟩, A190, H⟩ := H
     replace H : (some (gV, iB, jm, jO, true)) = some (r1, r2, r3, r4, r5) := H
     have A19 := Aside0.mk A190
     clear A190
     simp only [Option.some.injEq, Prod.mk.injEq] at H
     obtain ⟨rfl, rfl, rfl, rfl, rfl⟩ := H
     have hnb20 := NB373_374.out
     have hnc20 := NB374_373.out
     obtain ⟨hcz21_0, hcz21_1, hcz21_2, hcz21_3, hfz21_0, hfz21_1, hfz21_2, hfz21_3⟩ := cells4 dI.out
     have p375 : 0 ≤ (aU : Int) := of_decide_eq_true p4z
     have q375 : aU < (ab.length : Int) := of_decide_eq_true p4z
     obtain ⟨ad375, e375, hx375_0⟩ := Kd.at_string cU.out aU p375 q375
     cases e375
     replace hx375_0 := (HB.out.cell (World.block_lt_of_cell? w _ hx375_0)).trans hx375_0
     replace p375 := eq_true p375
     replace q375 := eq_true q375
     have p376 : 0 ≤ (aU : Int) := of_decide_eq_true p4z
     have q376 : aU < (aa.length : Int) := of_decide_eq_true p4z
     obtain ⟨ad376, A376_2, c376_2, A376_3, c376_3, e376, hx376_0, hx376_1, hx376_2, hx376_3, hl376_2, hi376_2, hl376_3, hi376_3⟩ := at_T37 cP.out aU p376 q376
     cases e376
     replace hx376_0 := (HB.out.cell (World.block_lt_of_cell? w _ hx376_0)).trans hx376_0
     replace hx376_1 := (HB.out.cell (World.block_lt_of_cell? w _ hx376_1)).trans hx376_1
     replace hx376_2 := (HB.out.cell (World.block_lt_of_cell? w _ hx376_2)).trans hx376_2
     replace hx376_3 := (HB.out.cell (World.block_lt_of_cell? w _ hx376_3)).trans hx376_3
     have HR376_2 := Aside0.mk hi376_2
     have HC376_2 := Aside0.mk hl376_2
     clear hi376_2 hl376_2
     have HR376_3 := Aside0.mk hi376_3
     have HC376_3 := Aside0.mk hl376_3
     clear hi376_3 hl376_3
     replace p376 := eq_true p376
     replace q376 := eq_true q376
     go_wp2_with (first | ((with_reducible refine gate_callee (f := 11) rfl ?_); refine goesL_ (some 38) rfl rfl Tryz.func11 p12z rfl #[.agg #[.int .i64 ((rd_T37 aa aU).f0), .string ((rd_T37 aa aU).f1), .slice A376_2 ((rd_T37 aa aU).f2).length c376_2, .slice A376_3 ((rd_T37 aa aU).f3).length c376_3]] rfl p3z ?_; (with_reducible refine (ag.calls kj4 ((rd_T37 aa aU).f0) ((rd_T37 aa aU).f1) _ _ ((rd_T37 aa aU).f2) _ _ ((rd_T37 aa aU).f3) gV iB jm jO _ ?side1 ?side2 ?side3 ?side4 A19.out).mono ?_); (case side1 => repeat (first | exact (Kd.C_below HR376_2.out HB.out) | (with_reducible refine Kd.C_alloc ?_ _) | (with_reducible refine Kd.C_drewN ?_ _) | (with_reducible refine Kd.C_drew ?_))); (case side2 => exact HC376_2.out); (case side3 => repeat (first | exact (Kd.C_below HR376_3.out HB.out) | (with_reducible refine Kd.C_alloc ?_ _) | (with_reducible refine Kd.C_drewN ?_ _) | (with_reducible refine Kd.C_drew ?_))); (case side4 => exact HC376_3.out); rintro e w22 ⟨v380, v383, rfl, ho0, ho1, hb⟩; refine ⟨_, rfl, ?_⟩; have z_ := asi5 (Kd.R_lower ho0 (below_size p22z)) (Kd.R_lower (Kd.R_newB (Kd.R_newB ho1 (g := dO) (o := .cells #[.int .i64 a0_0, .string a0_1, .slice (some ad375) ab.length c0_2, .slice (some ad376) aa.length c0_3] 37 (0, 0)) p35z) (g := cZ) (o := .cells #[.int .i64 cV, .string cB, .slice none 0 0, .slice none 0 0] 37 (0, 0)) p51z) (below_size p22z)) (blk_below (g := dO) (o := .cells #[.int .i64 a0_0, .string a0_1, .slice (some ad375) ab.length c0_2, .slice (some ad376) aa.length c0_3] 37 (0, 0)) p35z hb) (blk_below (g := cZ) (o := .cells #[.int .i64 cV, .string cB, .slice none 0 0, .slice none 0 0] 37 (0, 0)) p51z hb) (below_step p22z hb); clear dI dT HB; obtain ⟨HO381, HO384, dI, dT, HB⟩ := z_; (try clear hb ho0 ho1); obtain ⟨hcz23_0, hcz23_1, hcz23_2, hcz23_3, hfz23_0, hfz23_1, hfz23_2, hfz23_3⟩ := cells4 dT.out; obtain ⟨fl, co24, eo24⟩ := Kd.R_slice HO381.out; subst eo24; obtain ⟨jy, co25, eo25⟩ := Kd.R_slice HO384.out; subst eo25))
     refine bodyPost_ret (results_ct rfl _ _ cZ 37 #[.int .i64 gV, .string iB, .slice fl jm.length co24, .slice jy jO.length co25] (0, 0) _ rfl (by (with_reducible repeat (first | refine blk_drewN ?_ _ | refine blk_drew ?_ | refine blk_alloc ?_ _)); refine blk_put (cs := #[.int .i64 gV, .string iB, .slice fl jm.length co24, .slice none 0 0]) ?_ 3 _ rfl; (with_reducible repeat (first | refine blk_drewN ?_ _ | refine blk_drew ?_ | refine blk_alloc ?_ _)); refine blk_put (cs := #[.int .i64 gV, .string iB, .slice none 0 0, .slice none 0 0]) ?_ 2 _ rfl; (with_reducible repeat (first | refine blk_drewN ?_ _ | refine blk_drew ?_ | refine blk_alloc ?_ _)); refine blk_put (cs := #[.int .i64 gV, .string cB, .slice none 0 0, .slice none 0 0]) ?_ 1 _ rfl; (with_reducible repeat (first | refine blk_drewN ?_ _ | refine blk_drew ?_ | refine blk_alloc ?_ _)); refine blk_put (cs := #[.int .i64 cV, .string cB, .slice none 0 0, .slice none 0 0]) ?_ 0 _ rfl; (with_reducible repeat (first | refine blk_drewN ?_ _ | refine blk_drew ?_ | refine blk_alloc ?_ _)); exact dT.out) Tryz.underlying37 rfl p12z) rfl ?_
     exact ⟨_, _, p7z, by (with_reducible repeat (first | apply Kd.R_alloc | apply Kd.R_drewN | apply Kd.R_drew)); exact Kd.R_mono (Kd.R_far (p := ⟨cZ, 3, none⟩) (Kd.R_far (p := ⟨cZ, 2, none⟩) (Kd.R_far (p := ⟨cZ, 1, none⟩) (Kd.R_far (p := ⟨cZ, 0, none⟩) (Kd.R_types HO381.out dT.out (by decide)) (fun _ hk => hk.2) (.int .i64 gV)) (fun _ hk => hk.2) (.string iB)) (fun _ hk => hk.2) (.slice fl jm.length co24)) (fun _ hk => hk.2) (.slice jy jO.length co25)) (fun _ hk => trivial), by (with_reducible repeat (first | apply Kd.R_alloc | apply Kd.R_drewN | apply Kd.R_drew)); exact Kd.R_mono (Kd.R_far (p := ⟨cZ, 3, none⟩) (Kd.R_far (p := ⟨cZ, 2, none⟩) (Kd.R_far (p := ⟨cZ, 1, none⟩) (Kd.R_far (p := ⟨cZ, 0, none⟩) (Kd.R_mono HO384.out (fun k_ hk => (⟨hk, hk.2⟩ : _ ∧ k_ ≠ cZ))) (fun _ hk => hk.2) (.int .i64 gV)) (fun _ hk => hk.2) (.string iB)) (fun _ hk => hk.2) (.slice fl jm.length co24)) (fun _ hk => hk.2) (.slice jy jO.length co25)) (fun _ hk => hk.1.1.1), p22z⟩
end Go.Proofs.YtodnggilomanbaaGreatDoor.PAll
