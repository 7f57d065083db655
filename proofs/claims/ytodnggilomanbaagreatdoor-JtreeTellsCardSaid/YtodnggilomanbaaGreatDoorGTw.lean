-- Written by this repo's program wip/tools/pr.py (over the kit's print) out of the translation. Not trusted: Lean checks it.
import Derived.Test.YtodnggilomanbaaGreatDoorAp
import Derived.Test.YtodnggilomanbaaGreatDoorHandStep
import Derived.Test.YtodnggilomanbaaGreatDoorGTz
import Derived.Test.YtodnggilomanbaaGreatDoorHandAa
import Derived.Test.YtodnggilomanbaaGreatDoorGTm
import Derived.Test.YtodnggilomanbaaGreatDoorGTu
set_option maxHeartbeats 8000000
set_option maxRecDepth 100000
namespace Go.Proofs.YtodnggilomanbaaGreatDoor.PAll
open Go.Proofs.YtodnggilomanbaaGreatDoor.Hand
open Go.RowKit Go.Proofs.YtodnggilomanbaaGreatDoorW.PrintWords Go.Proofs.YtodnggilomanbaaGreatDoorW.PrintLast Go.Proofs.YtodnggilomanbaaGreatDoorW.PrintMore
attribute [local go_sem] max2_int min2_int max_two min_two max_three min_three max_four min_four   -- for this text's walks alone
set_option linter.unusedVariables false
set_option linter.unusedSimpArgs false

/-! ### af: function 41 -/
mutual
def af.l0 : Nat → ByteArray → Int → Int → ByteArray → List ByteArray → List (S37) → Option (ByteArray)
  | 0, _, _, _, _, _, _ => none
  | k + 1, x3, x4, dG, ei, dH, ci => if x4 < (ci.length : Int) then (if x4 > 0 then (if x3.size + 1 ≤ 9223372036854775807 then (af.j1 k (x3 ++ (⟨#[44]⟩ : ByteArray)) x4 dG ei dH ci) else (none)) else (af.j1 k x3 x4 dG ei dH ci)) else (if dG = 6 then (if 1 + x3.size ≤ 9223372036854775807 then (if ((⟨#[91]⟩ : ByteArray) ++ x3).size + 1 ≤ 9223372036854775807 then (some (((⟨#[91]⟩ : ByteArray) ++ x3) ++ (⟨#[93]⟩ : ByteArray))) else (none)) else (none)) else (if 1 + x3.size ≤ 9223372036854775807 then (if ((⟨#[123]⟩ : ByteArray) ++ x3).size + 1 ≤ 9223372036854775807 then (some (((⟨#[123]⟩ : ByteArray) ++ x3) ++ (⟨#[125]⟩ : ByteArray))) else (none)) else (none)))
def af.j1 : Nat → ByteArray → Int → Int → ByteArray → List ByteArray → List (S37) → Option (ByteArray)
  | 0, _, _, _, _, _, _ => none
  | k + 1, x3, x4, dG, ei, dH, ci => if dG = 7 then (if 0 ≤ x4 then (if x4 < (dH.length : Int) then ((a7.f k (rdOf ByteArray.empty dH x4)).bind fun d7 => (if x3.size + d7.size ≤ 9223372036854775807 then (if (x3 ++ d7).size + 1 ≤ 9223372036854775807 then (if x4 < (ci.length : Int) then ((af.f k ((rd_T37 ci x4).f0) ((rd_T37 ci x4).f1) ((rd_T37 ci x4).f2) ((rd_T37 ci x4).f3)).bind fun dS => (if ((x3 ++ d7) ++ (⟨#[58]⟩ : ByteArray)).size + dS.size ≤ 9223372036854775807 then (af.l0 k (((x3 ++ d7) ++ (⟨#[58]⟩ : ByteArray)) ++ dS) (wrap64 (x4 + 1)) dG ei dH ci) else (none))) else (none)) else (none)) else (none))) else (none)) else (none)) else (if 0 ≤ x4 then (if x4 < (ci.length : Int) then ((af.f k ((rd_T37 ci x4).f0) ((rd_T37 ci x4).f1) ((rd_T37 ci x4).f2) ((rd_T37 ci x4).f3)).bind fun fo => (if x3.size + fo.size ≤ 9223372036854775807 then (af.l0 k (x3 ++ fo) (wrap64 (x4 + 1)) dG ei dH ci) else (none))) else (none)) else (none))
def af.f : Nat → Int → ByteArray → List ByteArray → List (S37) → Option (ByteArray)
  | 0, _, _, _, _ => none
  | k + 1, a0_0, a0_1, ab, aa => if a0_0 = 1 then (some (⟨#[110, 117, 108, 108]⟩ : ByteArray)) else (if a0_0 = 2 then (some (⟨#[102, 97, 108, 115, 101]⟩ : ByteArray)) else (if a0_0 = 3 then (some (⟨#[116, 114, 117, 101]⟩ : ByteArray)) else (if a0_0 = 4 then (some a0_1) else (if a0_0 = 5 then ((a7.f k a0_1).bind fun ji => (some ji)) else (af.l0 k (⟨#[]⟩ : ByteArray) 0 a0_0 a0_1 ab aa)))))
end
theorem af.calls (k : Nat) : ∀ (a0_0 : Int) (a0_1 : ByteArray) (A0_2 : Option Addr) (c0_2 : Nat) (ab : List ByteArray) (A0_3 : Option Addr) (c0_3 : Nat) (aa : List (S37)) (r : ByteArray) (w : World) (hr0_2 : Kd.C Kd.string w A0_2 ab.length ab) (hc0_2 : ab.length ≤ c0_2) (hr0_3 : Kd.C k37 w A0_3 aa.length aa) (hc0_3 : aa.length ≤ c0_3) (h : af.f k a0_0 a0_1 ab aa = some r),
 Calls Tryz.prog 41 #[.agg #[.int .i64 a0_0, .string a0_1, .slice A0_2 ab.length c0_2, .slice A0_3 aa.length c0_3]] w fun e w' => e = .returned (.string r) ∧ Below w.heap.size w w' := by
 induction k using Nat.strongRecOn with
 | _ k ih =>
 intro a0_0 a0_1 A0_2 c0_2 ab A0_3 c0_3 aa r w hr0_2 hc0_2 hr0_3 hc0_3 h
 cases k with
 | zero => exact absurd h (by simp [af.f])
 | succ k =>
 simp only [af.f] at h
 have hu37 := Tryz.underlying37
 have cU := Aside0.mk hr0_2
 have bZ := Aside0.mk hc0_2
 clear hr0_2 hc0_2
 have cP := Aside0.mk hr0_3
 have cn := Aside0.mk hc0_3
 clear hr0_3 hc0_3
 have HB := Aside0.mk (Below.refl w.heap.size w)
 have H : (if a0_0 = 1 then (some (⟨#[110, 117, 108, 108]⟩ : ByteArray)) else (if a0_0 = 2 then (some (⟨#[102, 97, 108, 115, 101]⟩ : ByteArray)) else (if a0_0 = 3 then (some (⟨#[116, 114, 117, 101]⟩ : ByteArray)) else (if a0_0 = 4 then (some a0_1) else (if a0_0 = 5 then ((a7.f k a0_1).bind fun ji => (some ji)) else (af.l0 k (⟨#[]⟩ : ByteArray) 0 a0_0 a0_1 ab aa)))))) = some r := h
 clear h
 by_cases c2 : a0_0 = 1
 case pos =>
  rw [if_pos c2] at H
  have eQ : (a0_0 == 1) = true := beq_iff_eq.mpr c2
  have gv : (a0_0 != 1) = false := bne_eq_false_iff_eq.mpr c2
  clear c2
  obtain rfl := Option.some.inj H
  go_enter Tryz.func41, Tryz.ntmps41
  go_wp2_with (first | ((with_reducible refine gate_dst (N := 1) rfl ?_); refine box_event ?hg (N := 1) ?hd (cs := #[.int .i64 a0_0, .string a0_1, .slice A0_2 ab.length c0_2, .slice A0_3 aa.length c0_3]) (t := 37) ?hr ?_; (case hd => rfl); (case hg => rfl); (case hr => exact p9z); intro cJ hg w3 hbox hb; have z_ := asi4 (below_step p0z hb) (hbox) ((p21z : w.heap.size ≤ cJ)) ((p21z : w.heap.size ≤ cJ)); clear HB; obtain ⟨HB, ch, GW362, fK⟩ := z_; clear hb hbox hg; obtain ⟨hcz4_0, hcz4_1, hcz4_2, hcz4_3, hfz4_0, hfz4_1, hfz4_2, hfz4_3⟩ := cells4 ch.out))
  go_ret
  exact ⟨p7z, p15z⟩
 rw [if_neg c2] at H
 have eQ : (a0_0 == 1) = false := beq_eq_false_iff_ne.mpr c2
 have gv : (a0_0 != 1) = true := bne_iff_ne.mpr c2
 by_cases c5 : a0_0 = 2
 case pos =>
  rw [if_pos c5] at H
  have dE : (a0_0 == 2) = true := beq_iff_eq.mpr c5
  have fZ : (a0_0 != 2) = false := bne_eq_false_iff_eq.mpr c5
  clear c5
  obtain rfl := Option.some.inj H
  go_enter Tryz.func41, Tryz.ntmps41
  go_wp2_with (first | ((with_reducible refine gate_dst (N := 1) rfl ?_); refine box_event ?hg (N := 1) ?hd (cs := #[.int .i64 a0_0, .string a0_1, .slice A0_2 ab.length c0_2, .slice A0_3 aa.length c0_3]) (t := 37) ?hr ?_; (case hd => rfl); (case hg => rfl); (case hr => exact p9z); intro cJ hg w6 hbox hb; have z_ := asi4 (below_step p0z hb) (hbox) ((p21z : w.heap.size ≤ cJ)) ((p21z : w.heap.size ≤ cJ)); clear HB; obtain ⟨HB, ch, GW362, fK⟩ := z_; clear hb hbox hg; obtain ⟨hcz7_0, hcz7_1, hcz7_2, hcz7_3, hfz7_0, hfz7_1, hfz7_2, hfz7_3⟩ := cells4 ch.out))
  go_ret
  exact ⟨p7z, p15z⟩
 rw [if_neg c5] at H
 have dE : (a0_0 == 2) = false := beq_eq_false_iff_ne.mpr c5
 have fZ : (a0_0 != 2) = true := bne_iff_ne.mpr c5
 by_cases c8 : a0_0 = 3
 case pos =>
  rw [if_pos c8] at H
  have dK : (a0_0 == 3) = true := beq_iff_eq.mpr c8
  have jg : (a0_0 != 3) = false := bne_eq_false_iff_eq.mpr c8
  clear c8
  obtain rfl := Option.some.inj H
  go_enter Tryz.func41, Tryz.ntmps41
  go_wp2_with (first | ((with_reducible refine gate_dst (N := 1) rfl ?_); refine box_event ?hg (N := 1) ?hd (cs := #[.int .i64 a0_0, .string a0_1, .slice A0_2 ab.length c0_2, .slice A0_3 aa.length c0_3]) (t := 37) ?hr ?_; (case hd => rfl); (case hg => rfl); (case hr => exact p9z); intro cJ hg w9 hbox hb; have z_ := asi4 (below_step p0z hb) (hbox) ((p21z : w.heap.size ≤ cJ)) ((p21z : w.heap.size ≤ cJ)); clear HB; obtain ⟨HB, ch, GW362, fK⟩ := z_; clear hb hbox hg; obtain ⟨hcz10_0, hcz10_1, hcz10_2, hcz10_3, hfz10_0, hfz10_1, hfz10_2, hfz10_3⟩ := cells4 ch.out))
  go_ret
  exact ⟨p7z, p15z⟩
 rw [if_neg c8] at H
 have dK : (a0_0 == 3) = false := beq_eq_false_iff_ne.mpr c8
 have jg : (a0_0 != 3) = true := bne_iff_ne.mpr c8
 by_cases c11 : a0_0 = 4
 case pos =>
  rw [if_pos c11] at H
  have iH : (a0_0 == 4) = true := beq_iff_eq.mpr c11
  have jF : (a0_0 != 4) = false := bne_eq_false_iff_eq.mpr c11
  clear c11
  obtain rfl := Option.some.inj H
  go_enter Tryz.func41, Tryz.ntmps41
  go_wp2_with (first | ((with_reducible refine gate_dst (N := 1) rfl ?_); refine box_event ?hg (N := 1) ?hd (cs := #[.int .i64 a0_0, .string a0_1, .slice A0_2 ab.length c0_2, .slice A0_3 aa.length c0_3]) (t := 37) ?hr ?_; (case hd => rfl); (case hg => rfl); (case hr => exact p9z); intro cJ hg w12 hbox hb; have z_ := asi4 (below_step p0z hb) (hbox) ((p21z : w.heap.size ≤ cJ)) ((p21z : w.heap.size ≤ cJ)); clear HB; obtain ⟨HB, ch, GW362, fK⟩ := z_; clear hb hbox hg; obtain ⟨hcz13_0, hcz13_1, hcz13_2, hcz13_3, hfz13_0, hfz13_1, hfz13_2, hfz13_3⟩ := cells4 ch.out))
  go_ret
  exact ⟨p7z, p15z⟩
 rw [if_neg c11] at H
 have iH : (a0_0 == 4) = false := beq_eq_false_iff_ne.mpr c11
 have jF : (a0_0 != 4) = true := bne_iff_ne.mpr c11
 by_cases c14 : a0_0 = 5
 case pos =>
  rw [if_pos c14] at H
  have iT : (a0_0 == 5) = true := beq_iff_eq.mpr c14
  have c14b1 : (a0_0 != 5) = false := bne_eq_false_iff_eq.mpr c14
  clear c14
  replace H := Option.bind_eq_some_iff.mp H
  obtain ⟨ji, A150, H⟩ := H
  replace H : (some ji) = some r := H
  have A15 := Aside0.mk A150
  clear A150
  obtain rfl := Option.some.inj H
  go_enter Tryz.func41, Tryz.ntmps41
  go_wp2_with (first | ((with_reducible refine gate_dst (N := 1) rfl ?_); refine box_event ?hg (N := 1) ?hd (cs := #[.int .i64 a0_0, .string a0_1, .slice A0_2 ab.length c0_2, .slice A0_3 aa.length c0_3]) (t := 37) ?hr ?_; (case hd => rfl); (case hg => rfl); (case hr => exact p9z); intro cJ hg w16 hbox hb; have z_ := asi4 (below_step p0z hb) (hbox) ((p21z : w.heap.size ≤ cJ)) ((p21z : w.heap.size ≤ cJ)); clear HB; obtain ⟨HB, ch, GW362, fK⟩ := z_; clear hb hbox hg; obtain ⟨hcz17_0, hcz17_1, hcz17_2, hcz17_3, hfz17_0, hfz17_1, hfz17_2, hfz17_3⟩ := cells4 ch.out) | ((with_reducible refine gate_callee (f := 71) rfl ?_); refine goesL_ (some 21) rfl rfl Tryz.func71 p12z rfl #[.string a0_1] rfl p3z ?_; (with_reducible refine (a7.calls k a0_1 ji _ A15.out).mono ?_); rintro e w18 ⟨rfl, hb⟩; refine ⟨_, rfl, ?_⟩; have z_ := asi2 (blk_below (g := cJ) (o := .cells #[.int .i64 a0_0, .string a0_1, .slice A0_2 ab.length c0_2, .slice A0_3 aa.length c0_3] 37 (0, 0)) p40z hb) (below_step p15z hb); clear ch HB; obtain ⟨ch, HB⟩ := z_; (try clear hb)))
  go_ret
  exact ⟨p7z, p15z⟩
 rw [if_neg c14] at H
 have iT : (a0_0 == 5) = false := beq_eq_false_iff_ne.mpr c14
 have c14b1 : (a0_0 != 5) = true := bne_iff_ne.mpr c14
 have H' := Aside0.mk H
 clear H
 go_enter Tryz.func41, Tryz.ntmps41
 go_wp2_with (first | ((with_reducible refine gate_dst (N := 1) rfl ?_); refine box_event ?hg (N := 1) ?hd (cs := #[.int .i64 a0_0, .string a0_1, .slice A0_2 ab.length c0_2, .slice A0_3 aa.length c0_3]) (t := 37) ?hr ?_; (case hd => rfl); (case hg => rfl); (case hr => exact p9z); intro cJ hg w19 hbox hb; have z_ := asi4 (below_step p0z hb) (hbox) ((p21z : w.heap.size ≤ cJ)) ((p21z : w.heap.size ≤ cJ)); clear HB; obtain ⟨HB, ch, GW362, fK⟩ := z_; clear hb hbox hg; obtain ⟨hcz20_0, hcz20_1, hcz20_2, hcz20_3, hfz20_0, hfz20_1, hfz20_2, hfz20_3⟩ := cells4 ch.out))
 go_loopg [3, 4] k (fun kq v3 v4 w' => ∃ (aW : ByteArray) (aj : Int), v3 = .string aW ∧ v4 = .int .i64 aj ∧ Aside0 (af.l0 kq aW aj a0_0 a0_1 ab aa = some r) ∧ Aside0 (kq ≤ k) ∧ Aside0 (w'.heap[cJ]? = some (.cells #[.int .i64 a0_0, .string a0_1, (.slice A0_2 ab.length c0_2), (.slice A0_3 aa.length c0_3)] 37 (0, 0))) ∧ Aside0 (Below w.heap.size w w'))
 case atStart => exact ⟨((⟨#[]⟩ : ByteArray)), (0), p5z, p5z, H', ⟨Nat.le_refl _⟩, ⟨p40z⟩, ⟨p15z⟩⟩
 case round =>
  clear H'
  try clear c2
  try clear eQ
  try clear gv
  try clear c5
  try clear dE
  try clear fZ
  try clear c8
  try clear dK
  try clear jg
  try clear c11
  try clear iH
  try clear jF
  try clear c14
  try clear iT
  try clear c14b1
  try clear hcz20_0
  try clear hcz20_1
  try clear hcz20_2
  try clear hcz20_3
  try clear hfz20_0
  try clear hfz20_1
  try clear hfz20_2
  try clear hfz20_3
  obtain ⟨aW, aj, rfl, rfl, HA, HK1, ch, HB⟩ := hrel
  cases gk with
  | zero => exact absurd HA.out (by simp [af.l0])
  | succ k1 =>
   have H := HA.out
   clear HA
   simp only [af.l0] at H
   by_cases c21 : aj < (aa.length : Int)
   case neg =>
    rw [if_neg c21] at H
    have fC : decide (aj < (aa.length : Int)) = false := decide_eq_false c21
    clear c21
    by_cases c45 : a0_0 = 6
    case neg =>
     rw [if_neg c45] at H
     have jC : (a0_0 == 6) = false := beq_eq_false_iff_ne.mpr c45
     have c45b1 : (a0_0 != 6) = true := bne_iff_ne.mpr c45
     by_cases c49 : 1 + aW.size ≤ 9223372036854775807
     case neg =>
      rw [if_neg c49] at H
      exact absurd H (by simp)

     rw [if_pos c49] at H
     have c49b0 := eq_true c49
     have c49b1 : decide (1 + aW.size ≤ 9223372036854775807) = true := decide_eq_true c49
     try have c49b2 : (9223372036854775807 < 1 + aW.size) = False := eq_false (Nat.not_lt.2 c49)
     by_cases c50 : ((⟨#[123]⟩ : ByteArray) ++ aW).size + 1 ≤ 9223372036854775807
     case neg =>
      rw [if_neg c50] at H
      exact absurd H (by simp)
     rw [if_pos c50] at H
     have c50b0 := eq_true c50
     have c50b1 : decide (((⟨#[123]⟩ : ByteArray) ++ aW).size + 1 ≤ 9223372036854775807) = true := decide_eq_true c50
     try have c50b2 : (9223372036854775807 < ((⟨#[123]⟩ : ByteArray) ++ aW).size + 1) = False := eq_false (Nat.not_lt.2 c50)
     try have c50b4 : (9223372036854775807 < (⟨#[123]⟩ : ByteArray).size + aW.size + 1) = False := eq_false (Nat.not_lt.2 (by have h_ := c50; simp only [ByteArray.size_append] at h_; exact h_))
     try have c50b5 : (9223372036854775807 < 1 + aW.size + 1) = False := eq_false (Nat.not_lt.2 (by have h_ := c50; simp only [ByteArray.size_append] at h_; exact h_))
     obtain rfl := Option.some.inj H
     obtain ⟨hcz51_0, hcz51_1, hcz51_2, hcz51_3, hfz51_0, hfz51_1, hfz51_2, hfz51_3⟩ := cells4 ch.out
     go_wp2
     go_ret
     exact ⟨p7z, p15z⟩
    rw [if_pos c45] at H
    have jC : (a0_0 == 6) = true := beq_iff_eq.mpr c45
    have c45b1 : (a0_0 != 6) = false := bne_eq_false_iff_eq.mpr c45
    clear c45
    by_cases c46 : 1 + aW.size ≤ 9223372036854775807
    case neg =>
     rw [if_neg c46] at H
     exact absurd H (by simp)
    rw [if_pos c46] at H
    have c46b0 := eq_true c46
    have c46b1 : decide (1 + aW.size ≤ 9223372036854775807) = true := decide_eq_true c46
    try have c46b2 : (9223372036854775807 < 1 + aW.size) = False := eq_false (Nat.not_lt.2 c46)
    by_cases c47 : ((⟨#[91]⟩ : ByteArray) ++ aW).size + 1 ≤ 9223372036854775807
    case neg =>
     rw [if_neg c47] at H
     exact absurd H (by simp)
    rw [if_pos c47] at H
    have jD := eq_true c47
    have c47b1 : decide (((⟨#[91]⟩ : ByteArray) ++ aW).size + 1 ≤ 9223372036854775807) = true := decide_eq_true c47
    try have c47b2 : (9223372036854775807 < ((⟨#[91]⟩ : ByteArray) ++ aW).size + 1) = False := eq_false (Nat.not_lt.2 c47)
    try have c47b4 : (9223372036854775807 < (⟨#[91]⟩ : ByteArray).size + aW.size + 1) = False := eq_false (Nat.not_lt.2 (by have h_ := c47; simp only [ByteArray.size_append] at h_; exact h_))
    try have c47b5 : (9223372036854775807 < 1 + aW.size + 1) = False := eq_false (Nat.not_lt.2 (by have h_ := c47; simp only [ByteArray.size_append] at h_; exact h_))
    obtain rfl := Option.some.inj H
    obtain ⟨hcz48_0, hcz48_1, hcz48_2, hcz48_3, hfz48_0, hfz48_1, hfz48_2, hfz48_3⟩ := cells4 ch.out
    go_wp2
    go_ret
    exact ⟨p7z, p15z⟩
   rw [if_pos c21] at H
   have fC : decide (aj < (aa.length : Int)) = true := decide_eq_true c21
   clear c21
   have HC22 := Aside0.mk H
   clear H
   obtain ⟨hcz23_0, hcz23_1, hcz23_2, hcz23_3, hfz23_0, hfz23_1, hfz23_2, hfz23_3⟩ := cells4 ch.out
   go_upto_if 30 with (fail)
   go_cut [3] (fun v3 wc => ∃ (kq : Nat) (ce : ByteArray), v3 = .string ce ∧ Aside0 (af.j1 kq ce aj a0_0 a0_1 ab aa = some r) ∧ Aside0 (kq ≤ k1) ∧ Aside0 (wc.heap[cJ]? = some (.cells #[.int .i64 a0_0, .string a0_1, (.slice A0_2 ab.length c0_2), (.slice A0_3 aa.length c0_3)] 37 (0, 0))) ∧ Aside0 (Below w.heap.size w wc))
   case first =>
    have H := HC22.out
    clear HC22
    by_cases c24 : aj > 0
    case neg =>
     rw [if_neg c24] at H
     have ec : decide (0 < aj) = false := decide_eq_false c24
     clear c24
     (first | rw [ec] | (simp only [i64_w, i32_w]; rw [ec]) | skip)
     have H' := Aside0.mk H
     clear H
     go_wp2
     go_meet
     case rel => exact ⟨_, (aW), p5z, H', ⟨p75z⟩, ⟨p40z⟩, ⟨p15z⟩⟩
    rw [if_pos c24] at H
    have ec : decide (0 < aj) = true := decide_eq_true c24
    clear c24
    (first | rw [ec] | (simp only [i64_w, i32_w]; rw [ec]) | skip)
    by_cases c25 : aW.size + 1 ≤ 9223372036854775807
    case neg =>
     rw [if_neg c25] at H
     exact absurd H (by simp)
    rw [if_pos c25] at H
    have c25b0 := eq_true c25
    have c25b1 : decide (aW.size + 1 ≤ 9223372036854775807) = true := decide_eq_true c25
    try have c25b2 : (9223372036854775807 < aW.size + 1) = False := eq_false (Nat.not_lt.2 c25)
    have H' := Aside0.mk H
    clear H
    go_wp2
    go_meet
    case rel => exact ⟨_, (aW ++ (⟨#[44]⟩ : ByteArray)), p5z, H', ⟨p75z⟩, ⟨p40z⟩, ⟨p15z⟩⟩
   case rest =>
    clear HC22
    try clear fC
    try clear hcz23_0
    try clear hcz23_1
    try clear hcz23_2
    try clear hcz23_3
    try clear hfz23_0
    try clear hfz23_1
    try clear hfz23_2
    try clear hfz23_3
    obtain ⟨kq, ce, rfl, HA, HJ21, ch, HB⟩ := hcut
    cases kq with
    | zero => exact absurd HA.out (by simp [af.j1])
    | succ kj21 =>
     have H := HA.out
     clear HA
     simp only [af.j1] at H
     by_cases c26 : a0_0 = 7
     case neg =>
      rw [if_neg c26] at H
      have c26b0 : (a0_0 == 7) = false := beq_eq_false_iff_ne.mpr c26
      have c26b1 : (a0_0 != 7) = true := bne_iff_ne.mpr c26
      by_cases c39 : 0 ≤ aj
      case neg =>
       rw [if_neg c39] at H
       exact absurd H (by simp)
      rw [if_pos c39] at H
      have c39b0 : decide (0 ≤ aj) = true := decide_eq_true c39
      clear c39
      by_cases c40 : aj < (aa.length : Int)
      case neg =>
       rw [if_neg c40] at H
       exact absurd H (by simp)
      rw [if_pos c40] at H
      have c40b0 : decide (aj < (aa.length : Int)) = true := decide_eq_true c40
      clear c40
      replace H := Option.bind_eq_some_iff.mp H
      obtain ⟨fo, A410, H⟩ := H
      replace H : (if ce.size + fo.size ≤ 9223372036854775807 then (af.l0 kj21 (ce ++ fo) (wrap64 (aj + 1)) a0_0 a0_1 ab aa) else (none)) = some r := H
      have A41 := Aside0.mk A410
      clear A410
      by_cases c42 : ce.size + fo.size ≤ 9223372036854775807
      case neg =>
       rw [if_neg c42] at H
       exact absurd H (by simp)
      rw [if_pos c42] at H
      have c42b0 := eq_true c42
      have c42b1 : decide (ce.size + fo.size ≤ 9223372036854775807) = true := decide_eq_true c42
      try have c42b2 : (9223372036854775807 < ce.size + fo.size) = False := eq_false (Nat.not_lt.2 c42)
      have H' := Aside0.mk H
      clear H
      obtain ⟨hcz43_0, hcz43_1, hcz43_2, hcz43_3, hfz43_0, hfz43_1, hfz43_2, hfz43_3⟩ := cells4 ch.out
      have p368 : 0 ≤ (aj : Int) := of_decide_eq_true p4z
      have q368 : aj < (aa.length : Int) := of_decide_eq_true p4z
      obtain ⟨ad368, A368_2, c368_2, A368_3, c368_3, e368, hx368_0, hx368_1, hx368_2, hx368_3, hl368_2, hi368_2, hl368_3, hi368_3⟩ := at_T37 cP.out aj p368 q368
      cases e368
      replace hx368_0 := (HB.out.cell (World.block_lt_of_cell? w _ hx368_0)).trans hx368_0
      replace hx368_1 := (HB.out.cell (World.block_lt_of_cell? w _ hx368_1)).trans hx368_1
      replace hx368_2 := (HB.out.cell (World.block_lt_of_cell? w _ hx368_2)).trans hx368_2
      replace hx368_3 := (HB.out.cell (World.block_lt_of_cell? w _ hx368_3)).trans hx368_3
      have HR368_2 := Aside0.mk hi368_2
      have HC368_2 := Aside0.mk hl368_2
      clear hi368_2 hl368_2
      have HR368_3 := Aside0.mk hi368_3
      have HC368_3 := Aside0.mk hl368_3
      clear hi368_3 hl368_3
      replace p368 := eq_true p368
      replace q368 := eq_true q368
      go_wp2_with (first | ((with_reducible refine gate_callee (f := 41) rfl ?_); refine goesL_ (some 51) rfl rfl Tryz.func41 p12z rfl #[.agg #[.int .i64 ((rd_T37 aa aj).f0), .string ((rd_T37 aa aj).f1), .slice A368_2 ((rd_T37 aa aj).f2).length c368_2, .slice A368_3 ((rd_T37 aa aj).f3).length c368_3]] rfl p3z ?_; (with_reducible refine (ih kj21 (by have := HK1.out; have := HJ21.out; omega) ((rd_T37 aa aj).f0) ((rd_T37 aa aj).f1) _ _ ((rd_T37 aa aj).f2) _ _ ((rd_T37 aa aj).f3) fo _ ?side1 ?side2 ?side3 ?side4 A41.out).mono ?_); (case side1 => repeat (first | exact (Kd.C_below HR368_2.out HB.out) | (with_reducible refine Kd.C_alloc ?_ _) | (with_reducible refine Kd.C_drewN ?_ _) | (with_reducible refine Kd.C_drew ?_))); (case side2 => exact HC368_2.out); (case side3 => repeat (first | exact (Kd.C_below HR368_3.out HB.out) | (with_reducible refine Kd.C_alloc ?_ _) | (with_reducible refine Kd.C_drewN ?_ _) | (with_reducible refine Kd.C_drew ?_))); (case side4 => exact HC368_3.out); rintro e w44 ⟨rfl, hb⟩; refine ⟨_, rfl, ?_⟩; have z_ := asi2 (blk_below (g := cJ) (o := .cells #[.int .i64 a0_0, .string a0_1, .slice A0_2 ab.length c0_2, .slice (some ad368) aa.length c0_3] 37 (0, 0)) p40z hb) (below_step p15z hb); clear ch HB; obtain ⟨ch, HB⟩ := z_; (try clear hb)))
      go_roundg kj21
      case measure => have := HK1.out; have := HJ21.out; omega
      case rel => exact ⟨(ce ++ fo), (wrap64 (aj + 1)), p5z, p5z, H', ⟨by have := HK1.out; have := HJ21.out; omega⟩, ⟨p40z⟩, ⟨p15z⟩⟩
     rw [if_pos c26] at H
     have c26b0 : (a0_0 == 7) = true := beq_iff_eq.mpr c26
     have c26b1 : (a0_0 != 7) = false := bne_eq_false_iff_eq.mpr c26
     clear c26
     by_cases c27 : 0 ≤ aj
     case neg =>
      rw [if_neg c27] at H
      exact absurd H (by simp)
     rw [if_pos c27] at H
     have c27b0 : decide (0 ≤ aj) = true := decide_eq_true c27
     clear c27
     by_cases c28 : aj < (ab.length : Int)
     case neg =>
      rw [if_neg c28] at H
      exact absurd H (by simp)
     rw [if_pos c28] at H
     have c28b0 : decide (aj < (ab.length : Int)) = true := decide_eq_true c28
     clear c28
     replace H := Option.bind_eq_some_iff.mp H
     obtain ⟨d7, A290, H⟩ := H
     replace H : (if ce.size + d7.size ≤ 9223372036854775807 then (if (ce ++ d7).size + 1 ≤ 9223372036854775807 then (if aj < (aa.length : Int) then ((af.f kj21 ((rd_T37 aa aj).f0) ((rd_T37 aa aj).f1) ((rd_T37 aa aj).f2) ((rd_T37 aa aj).f3)).bind fun dS => (if ((ce ++ d7) ++ (⟨#[58]⟩ : ByteArray)).size + dS.size ≤ 9223372036854775807 then (af.l0 kj21 (((ce ++ d7) ++ (⟨#[58]⟩ : ByteArray)) ++ dS) (wrap64 (aj + 1)) a0_0 a0_1 ab aa) else (none))) else (none)) else (none)) else (none)) = some r := H
     have A29 := Aside0.mk A290
     clear A290
     by_cases c30 : ce.size + d7.size ≤ 9223372036854775807
     case neg =>
      rw [if_neg c30] at H
      exact absurd H (by simp)
     rw [if_pos c30] at H
     have c30b0 := eq_true c30
     have c30b1 : decide (ce.size + d7.size ≤ 9223372036854775807) = true := decide_eq_true c30
     try have c30b2 : (9223372036854775807 < ce.size + d7.size) = False := eq_false (Nat.not_lt.2 c30)
     by_cases c31 : (ce ++ d7).size + 1 ≤ 9223372036854775807
     case neg =>
      rw [if_neg c31] at H
      exact absurd H (by simp)
     rw [if_pos c31] at H
     have c31b0 := eq_true c31
     have c31b1 : decide ((ce ++ d7).size + 1 ≤ 9223372036854775807) = true := decide_eq_true c31
     try have c31b2 : (9223372036854775807 < (ce ++ d7).size + 1) = False := eq_false (Nat.not_lt.2 c31)
     try have c31b4 : (9223372036854775807 < ce.size + d7.size + 1) = False := eq_false (Nat.not_lt.2 (by have h_ := c31; simp only [ByteArray.size_append] at h_; exact h_))
     try have c31b5 : (9223372036854775807 < ce.size + d7.size + 1) = False := eq_false (Nat.not_lt.2 (by have h_ := c31; simp only [ByteArray.size_append] at h_; exact h_))
     by_cases c32 : aj < (aa.length : Int)
     case neg =>
      rw [if_neg c32] at H
      exact absurd H (by simp)
     rw [if_pos c32] at H
     have c32b0 : decide (aj < (aa.length : Int)) = true := decide_eq_true c32
     clear c32
     replace H := Option.bind_eq_some_iff.mp H
     obtain ⟨dS, A330, H⟩ := H
     replace H : (if ((ce ++ d7) ++ (⟨#[58]⟩ : ByteArray)).size + dS.size ≤ 9223372036854775807 then (af.l0 kj21 (((ce ++ d7) ++ (⟨#[58]⟩ : ByteArray)) ++ dS) (wrap64 (aj + 1)) a0_0 a0_1 ab aa) else (none)) = some r := H
     have A33 := Aside0.mk A330
     clear A330
     by_cases c34 : ((ce ++ d7) ++ (⟨#[58]⟩ : ByteArray)).size + dS.size ≤ 9223372036854775807
     case neg =>
      rw [if_neg c34] at H
      exact absurd H (by simp)
     rw [if_pos c34] at H
     have c34b0 := eq_true c34
     have c34b1 : decide (((ce ++ d7) ++ (⟨#[58]⟩ : ByteArray)).size + dS.size ≤ 9223372036854775807) = true := decide_eq_true c34
     try have c34b2 : (9223372036854775807 < ((ce ++ d7) ++ (⟨#[58]⟩ : ByteArray)).size + dS.size) = False := eq_false (Nat.not_lt.2 c34)
     try have c34b4 : (9223372036854775807 < ce.size + d7.size + (⟨#[58]⟩ : ByteArray).size + dS.size) = False := eq_false (Nat.not_lt.2 (by have h_ := c34; simp only [ByteArray.size_append] at h_; exact h_))
     try have c34b5 : (9223372036854775807 < ce.size + d7.size + 1 + dS.size) = False := eq_false (Nat.not_lt.2 (by have h_ := c34; simp only [ByteArray.size_append] at h_; exact h_))
     try have c34b3 : (9223372036854775807 < (ce ++ d7).size + (⟨#[58]⟩ : ByteArray).size + dS.size) = False := by rw [← ByteArray.size_append]; exact c34b2
     have H' := Aside0.mk H
     clear H
     obtain ⟨hcz35_0, hcz35_1, hcz35_2, hcz35_3, hfz35_0, hfz35_1, hfz35_2, hfz35_3⟩ := cells4 ch.out
     have p364 : 0 ≤ (aj : Int) := of_decide_eq_true p4z
     have q364 : aj < (ab.length : Int) := of_decide_eq_true p4z
     obtain ⟨ad364, e364, hx364_0⟩ := Kd.at_string cU.out aj p364 q364
     cases e364
     replace hx364_0 := (HB.out.cell (World.block_lt_of_cell? w _ hx364_0)).trans hx364_0
     replace p364 := eq_true p364
     replace q364 := eq_true q364
     go_wp2_with (first | ((with_reducible refine gate_callee (f := 71) rfl ?_); refine goesL_ (some 42) rfl rfl Tryz.func71 p12z rfl #[.string (rdOf ByteArray.empty ab aj)] rfl p3z ?_; (with_reducible refine (a7.calls kj21 (rdOf ByteArray.empty ab aj) d7 _ A29.out).mono ?_); rintro e w36 ⟨rfl, hb⟩; refine ⟨_, rfl, ?_⟩; have z_ := asi2 (blk_below (g := cJ) (o := .cells #[.int .i64 a0_0, .string a0_1, .slice (some ad364) ab.length c0_2, .slice A0_3 aa.length c0_3] 37 (0, 0)) p40z hb) (below_step p15z hb); clear ch HB; obtain ⟨ch, HB⟩ := z_; (try clear hb); obtain ⟨hcz37_0, hcz37_1, hcz37_2, hcz37_3, hfz37_0, hfz37_1, hfz37_2, hfz37_3⟩ := cells4 ch.out; have p366 : 0 ≤ (aj : Int) := of_decide_eq_true p4z; have q366 : aj < (aa.length : Int) := of_decide_eq_true p4z; obtain ⟨ad366, A366_2, c366_2, A366_3, c366_3, e366, hx366_0, hx366_1, hx366_2, hx366_3, hl366_2, hi366_2, hl366_3, hi366_3⟩ := at_T37 cP.out aj p366 q366; cases e366; replace hx366_0 := (HB.out.cell (World.block_lt_of_cell? w _ hx366_0)).trans hx366_0; replace hx366_1 := (HB.out.cell (World.block_lt_of_cell? w _ hx366_1)).trans hx366_1; replace hx366_2 := (HB.out.cell (World.block_lt_of_cell? w _ hx366_2)).trans hx366_2; replace hx366_3 := (HB.out.cell (World.block_lt_of_cell? w _ hx366_3)).trans hx366_3; have HR366_2 := Aside0.mk hi366_2; have HC366_2 := Aside0.mk hl366_2; clear hi366_2 hl366_2; have HR366_3 := Aside0.mk hi366_3; have HC366_3 := Aside0.mk hl366_3; clear hi366_3 hl366_3; replace p366 := eq_true p366; replace q366 := eq_true q366) | ((with_reducible refine gate_callee (f := 41) rfl ?_); refine goesL_ (some 51) rfl rfl Tryz.func41 p12z rfl #[.agg #[.int .i64 ((rd_T37 aa aj).f0), .string ((rd_T37 aa aj).f1), .slice A366_2 ((rd_T37 aa aj).f2).length c366_2, .slice A366_3 ((rd_T37 aa aj).f3).length c366_3]] rfl p3z ?_; (with_reducible refine (ih kj21 (by have := HK1.out; have := HJ21.out; omega) ((rd_T37 aa aj).f0) ((rd_T37 aa aj).f1) _ _ ((rd_T37 aa aj).f2) _ _ ((rd_T37 aa aj).f3) dS _ ?side1 ?side2 ?side3 ?side4 A33.out).mono ?_); (case side1 => repeat (first | exact (Kd.C_below HR366_2.out HB.out) | (with_reducible refine Kd.C_alloc ?_ _) | (with_reducible refine Kd.C_drewN ?_ _) | (with_reducible refine Kd.C_drew ?_))); (case side2 => exact HC366_2.out); (case side3 => repeat (first | exact (Kd.C_below HR366_3.out HB.out) | (with_reducible refine Kd.C_alloc ?_ _) | (with_reducible refine Kd.C_drewN ?_ _) | (with_reducible refine Kd.C_drew ?_))); (case side4 => exact HC366_3.out); rintro e w38 ⟨rfl, hb⟩; refine ⟨_, rfl, ?_⟩; have z_ := asi2 (blk_below (g := cJ) (o := .cells #[.int .i64 a0_0, .string a0_1, .slice (some ad364) ab.length c0_2, .slice (some ad366) aa.length c0_3] 37 (0, 0)) p40z hb) (below_step p15z hb); clear ch HB; obtain ⟨ch, HB⟩ := z_; (try clear hb)))
     go_roundg kj21
     case measure => have := HK1.out; have := HJ21.out; omega
     case rel => exact ⟨(((ce ++ d7) ++ (⟨#[58]⟩ : ByteArray)) ++ dS), (wrap64 (aj + 1)), p5z, p5z, H', ⟨by have := HK1.out; have := HJ21.out; omega⟩, ⟨p40z⟩, ⟨p15z⟩⟩
/-! ### bR: function 14 -/
def bR.f (k : Nat) (a0_0 : Int) (a0_1 : ByteArray) (ab : List ByteArray) (aa : List (S37)) : Option (ByteArray × Int) := (b7.f k a0_0 a0_1 ab aa).bind fun dV => (if dV = 0 then ((af.f k a0_0 a0_1 ab aa).bind fun gI => (some (gI, 0))) else (some ((⟨#[]⟩ : ByteArray), dV)))
theorem bR.calls (k : Nat) (a0_0 : Int) (a0_1 : ByteArray) (A0_2 : Option Addr) (c0_2 : Nat) (ab : List ByteArray) (A0_3 : Option Addr) (c0_3 : Nat) (aa : List (S37)) (r1 : ByteArray) (r2 : Int) (w : World) (hr0_2 : Kd.C Kd.string w A0_2 ab.length ab) (hc0_2 : ab.length ≤ c0_2) (hr0_3 : Kd.C k37 w A0_3 aa.length aa) (hc0_3 : aa.length ≤ c0_3) (h : bR.f k a0_0 a0_1 ab aa = some (r1, r2)) :
 Calls Tryz.prog 14 #[.agg #[.int .i64 a0_0, .string a0_1, .slice A0_2 ab.length c0_2, .slice A0_3 aa.length c0_3]] w fun e w' => e = .returned (.tuple #[.string r1, .int .i64 r2]) ∧ Below w.heap.size w w' := by
 have hu37 := Tryz.underlying37
 have cU := Aside0.mk hr0_2
 have bZ := Aside0.mk hc0_2
 clear hr0_2 hc0_2
 have cP := Aside0.mk hr0_3
 have cn := Aside0.mk hc0_3
 clear hr0_3 hc0_3
 have HB := Aside0.mk (Below.refl w.heap.size w)
 have H : ((b7.f k a0_0 a0_1 ab aa).bind fun dV => (if dV = 0 then ((af.f k a0_0 a0_1 ab aa).bind fun gI => (some (gI, 0))) else (some ((⟨#[]⟩ : ByteArray), dV)))) = some (r1, r2) := h
 clear h
 replace H := Option.bind_eq_some_iff.mp H
 obtain ⟨dV, A20, H⟩ := H
 replace H : (if dV = 0 then ((af.f k a0_0 a0_1 ab aa).bind fun gI => (some (gI, 0))) else (some ((⟨#[]⟩ : ByteArray), dV))) = some (r1, r2) := H
 have A2 := Aside0.mk A20
 clear A20
 by_cases c3 : dV = 0
 case neg =>
  rw [if_neg c3] at H
  have cW : (dV == 0) = false := beq_eq_false_iff_ne.mpr c3
  have ez : (dV != 0) = true := bne_iff_ne.mpr c3
  simp only [Option.some.injEq, Prod.mk.injEq] at H
  obtain ⟨rfl, rfl⟩ := H
  go_enter Tryz.func14, Tryz.ntmps14
  go_wp2_with (first | ((with_reducible refine gate_dst (N := 1) rfl ?_); refine box_event ?hg (N := 1) ?hd (cs := #[.int .i64 a0_0, .string a0_1, .slice A0_2 ab.length c0_2, .slice A0_3 aa.length c0_3]) (t := 37) ?hr ?_; (case hd => rfl); (case hg => rfl); (case hr => exact p9z); intro eI hg w10 hbox hb; have z_ := asi4 (below_step p0z hb) (hbox) ((p21z : w.heap.size ≤ eI)) ((p21z : w.heap.size ≤ eI)); clear HB; obtain ⟨HB, dM, GW370, GE370⟩ := z_; clear hb hbox hg; obtain ⟨hcz11_0, hcz11_1, hcz11_2, hcz11_3, hfz11_0, hfz11_1, hfz11_2, hfz11_3⟩ := cells4 dM.out) | ((with_reducible refine gate_callee (f := 19) rfl ?_); refine goesL_ (some 6) rfl rfl Tryz.func19 p12z rfl #[.agg #[.int .i64 a0_0, .string a0_1, .slice A0_2 ab.length c0_2, .slice A0_3 aa.length c0_3]] rfl p3z ?_; (with_reducible refine (b7.calls k a0_0 a0_1 _ _ ab _ _ aa dV _ ?side1 ?side2 ?side3 ?side4 A2.out).mono ?_); (case side1 => exact p8z); (case side2 => exact bZ.out); (case side3 => exact p13z); (case side4 => exact cn.out); rintro e w12 ⟨rfl, hb⟩; refine ⟨_, rfl, ?_⟩; have z_ := asi2 (blk_below (g := eI) (o := .cells #[.int .i64 a0_0, .string a0_1, .slice A0_2 ab.length c0_2, .slice A0_3 aa.length c0_3] 37 (0, 0)) p101z hb) (below_step p55z hb); clear dM HB; obtain ⟨dM, HB⟩ := z_; (try clear hb)))
  go_ret2
  exact ⟨p7z, p55z⟩
 rw [if_pos c3] at H
 have cW : (dV == 0) = true := beq_iff_eq.mpr c3
 have ez : (dV != 0) = false := bne_eq_false_iff_eq.mpr c3
 clear c3
 replace H := Option.bind_eq_some_iff.mp H
 obtain ⟨gI, A40, H⟩ := H
 replace H : (some (gI, 0)) = some (r1, r2) := H
 have A4 := Aside0.mk A40
 clear A40
 simp only [Option.some.injEq, Prod.mk.injEq] at H
 obtain ⟨rfl, rfl⟩ := H
 go_enter Tryz.func14, Tryz.ntmps14
 go_wp2_with (first | ((with_reducible refine gate_dst (N := 1) rfl ?_); refine box_event ?hg (N := 1) ?hd (cs := #[.int .i64 a0_0, .string a0_1, .slice A0_2 ab.length c0_2, .slice A0_3 aa.length c0_3]) (t := 37) ?hr ?_; (case hd => rfl); (case hg => rfl); (case hr => exact p9z); intro eI hg w5 hbox hb; have z_ := asi4 (below_step p0z hb) (hbox) ((p21z : w.heap.size ≤ eI)) ((p21z : w.heap.size ≤ eI)); clear HB; obtain ⟨HB, dM, GW370, GE370⟩ := z_; clear hb hbox hg; obtain ⟨hcz6_0, hcz6_1, hcz6_2, hcz6_3, hfz6_0, hfz6_1, hfz6_2, hfz6_3⟩ := cells4 dM.out) | ((with_reducible refine gate_callee (f := 19) rfl ?_); refine goesL_ (some 6) rfl rfl Tryz.func19 p12z rfl #[.agg #[.int .i64 a0_0, .string a0_1, .slice A0_2 ab.length c0_2, .slice A0_3 aa.length c0_3]] rfl p3z ?_; (with_reducible refine (b7.calls k a0_0 a0_1 _ _ ab _ _ aa dV _ ?side1 ?side2 ?side3 ?side4 A2.out).mono ?_); (case side1 => exact p8z); (case side2 => exact bZ.out); (case side3 => exact p13z); (case side4 => exact cn.out); rintro e w7 ⟨rfl, hb⟩; refine ⟨_, rfl, ?_⟩; have z_ := asi2 (blk_below (g := eI) (o := .cells #[.int .i64 a0_0, .string a0_1, .slice A0_2 ab.length c0_2, .slice A0_3 aa.length c0_3] 37 (0, 0)) p101z hb) (below_step p55z hb); clear dM HB; obtain ⟨dM, HB⟩ := z_; (try clear hb); obtain ⟨hcz8_0, hcz8_1, hcz8_2, hcz8_3, hfz8_0, hfz8_1, hfz8_2, hfz8_3⟩ := cells4 dM.out) | ((with_reducible refine gate_callee (f := 41) rfl ?_); refine goesL_ (some 11) rfl rfl Tryz.func41 p12z rfl #[.agg #[.int .i64 a0_0, .string a0_1, .slice A0_2 ab.length c0_2, .slice A0_3 aa.length c0_3]] rfl p3z ?_; (with_reducible refine (af.calls k a0_0 a0_1 _ _ ab _ _ aa gI _ ?side1 ?side2 ?side3 ?side4 A4.out).mono ?_); (case side1 => exact p8z); (case side2 => exact bZ.out); (case side3 => exact p13z); (case side4 => exact cn.out); rintro e w9 ⟨rfl, hb⟩; refine ⟨_, rfl, ?_⟩; have z_ := asi2 (blk_below (g := eI) (o := .cells #[.int .i64 a0_0, .string a0_1, .slice A0_2 ab.length c0_2, .slice A0_3 aa.length c0_3] 37 (0, 0)) p101z hb) (below_step p55z hb); clear dM HB; obtain ⟨dM, HB⟩ := z_; (try clear hb)))
 go_ret2
 exact ⟨p7z, p55z⟩
end Go.Proofs.YtodnggilomanbaaGreatDoor.PAll
