-- Written by this repo's program wip/tools/pr.py (over the kit's print) out of the translation. Not trusted: Lean checks it.
import Derived.Test.YtodnggilomanbaaGreatDoorAp
import Derived.Test.YtodnggilomanbaaGreatDoorGRz
set_option maxHeartbeats 8000000
set_option maxRecDepth 100000
namespace Go.Proofs.YtodnggilomanbaaGreatDoor.PAll
open Go.Proofs.YtodnggilomanbaaGreatDoor.Hand
open Go.RowKit Go.Proofs.YtodnggilomanbaaGreatDoorW.PrintWords Go.Proofs.YtodnggilomanbaaGreatDoorW.PrintLast Go.Proofs.YtodnggilomanbaaGreatDoorW.PrintMore
attribute [local go_sem] max2_int min2_int max_two min_two max_three min_three max_four min_four   -- for this text's walks alone
set_option linter.unusedVariables false
set_option linter.unusedSimpArgs false
attribute [-simp] List.length_take List.length_drop ByteArray.size_extract

/-! ### signetryref14_Same: function 20 -/
mutual
def signetryref14_Same.j0 : Nat → Bool → Int → ByteArray → List ByteArray → List (S37) → Int → ByteArray → List ByteArray → List (S37) → Option (Bool)
  | 0, _, _, _, _, _, _, _, _, _ => none
  | k + 1, x34, em, en, ep, cD, et, eu, ev, cE => if x34 = true then (none) else (signetryref14_Same.l0 k 0 em en ep cD et eu ev cE)
def signetryref14_Same.l0 : Nat → Int → Int → ByteArray → List ByteArray → List (S37) → Int → ByteArray → List ByteArray → List (S37) → Option (Bool)
  | 0, _, _, _, _, _, _, _, _, _ => none
  | k + 1, x5, em, en, ep, cD, et, eu, ev, cE => if x5 < (cD.length : Int) then (if 0 ≤ x5 then (if x5 < (cE.length : Int) then ((signetryref14_Same.f k ((rd_T37 cD x5).f0) ((rd_T37 cD x5).f1) ((rd_T37 cD x5).f2) ((rd_T37 cD x5).f3) ((rd_T37 cE x5).f0) ((rd_T37 cE x5).f1) ((rd_T37 cE x5).f2) ((rd_T37 cE x5).f3)).bind fun dL => (if dL = true then (signetryref14_Same.l0 k (wrap64 (x5 + 1)) em en ep cD et eu ev cE) else (none))) else (none)) else (none)) else (some true)
def signetryref14_Same.f : Nat → Int → ByteArray → List ByteArray → List (S37) → Int → ByteArray → List ByteArray → List (S37) → Option (Bool)
  | 0, _, _, _, _, _, _, _, _ => none
  | k + 1, a0_0, a0_1, ac, ab, a1_0, a1_1, bX, bh => if a0_0 = a1_0 then (if a0_1.toList = a1_1.toList then ((signetryref00_EqTexts.f k ac bX).bind fun t105 => (if t105 = true then (signetryref14_Same.j0 k ((ab.length : Int) != (bh.length : Int)) a0_0 a0_1 ac ab a1_0 a1_1 bX bh) else (none))) else (none)) else (none)
end
theorem signetryref14_Same.mono_l : ∀ k, (∀ y0 y1 y2 y3 y4 y5 y6 y7, LeO (signetryref14_Same.f k y0 y1 y2 y3 y4 y5 y6 y7) (signetryref14_Same.f (k + 1) y0 y1 y2 y3 y4 y5 y6 y7)) ∧ (∀ y0 y1 y2 y3 y4 y5 y6 y7 y8, LeO (signetryref14_Same.j0 k y0 y1 y2 y3 y4 y5 y6 y7 y8) (signetryref14_Same.j0 (k + 1) y0 y1 y2 y3 y4 y5 y6 y7 y8)) ∧ (∀ y0 y1 y2 y3 y4 y5 y6 y7 y8, LeO (signetryref14_Same.l0 k y0 y1 y2 y3 y4 y5 y6 y7 y8) (signetryref14_Same.l0 (k + 1) y0 y1 y2 y3 y4 y5 y6 y7 y8))
 | 0 => ⟨fun _ _ _ _ _ _ _ _ r h => by simp [signetryref14_Same.f] at h, fun _ _ _ _ _ _ _ _ _ r h => by simp [signetryref14_Same.j0] at h, fun _ _ _ _ _ _ _ _ _ r h => by simp [signetryref14_Same.l0] at h⟩
 | k + 1 => by
  obtain ⟨ih0, ih1, ih2⟩ := signetryref14_Same.mono_l k
  refine ⟨?_, ?_, ?_⟩
  ·intro y0 y1 y2 y3 y4 y5 y6 y7
   unfold signetryref14_Same.f
   have m0 := @signetryref00_EqTexts.mono
   exact moz
  ·intro y0 y1 y2 y3 y4 y5 y6 y7 y8
   unfold signetryref14_Same.j0
   have m0 := @signetryref00_EqTexts.mono
   exact moz
  ·intro y0 y1 y2 y3 y4 y5 y6 y7 y8
   unfold signetryref14_Same.l0
   have m0 := @signetryref00_EqTexts.mono
   exact moz
theorem signetryref14_Same.mono : ∀ a0 a1 a2 a3 a4 a5 a6 a7 k, LeO (signetryref14_Same.f k a0 a1 a2 a3 a4 a5 a6 a7) (signetryref14_Same.f (k + 1) a0 a1 a2 a3 a4 a5 a6 a7) := by
  intro a0 a1 a2 a3 a4 a5 a6 a7 k
  obtain ⟨ih0, ih1, ih2⟩ := signetryref14_Same.mono_l k
  exact ih0 a0 a1 a2 a3 a4 a5 a6 a7
def signetryref14_Same.T6 : Bool × List (List Nat × List Nat) := (true, [([], []), ([0], [0]), ([], []), ([1, 2], [1, 2]), ([3], [3]), ([], []), ([5], [5]), ([], []), ([6, 7], [6, 7]), ([8], [8]), ([4, 9], [4, 9]), ([10], [10])])
def signetryref14_Same.B6 : List Nat := [0, 1, 0, 7, 15, 0, 32, 0, 224, 480, 1023, 2047]
theorem signetryref14_Same.tab6 : rtab .any (opsOf Tryz.f20 6) = signetryref14_Same.T6 := p8z
theorem signetryref14_Same.bits6 : waitsOk signetryref14_Same.T6.2 signetryref14_Same.B6 = true := p8z
theorem signetryref14_Same.calls (k : Nat) : ∀ (a0_0 : Int) (a0_1 : ByteArray) (A0_2 : Option Addr) (c0_2 : Nat) (ac : List ByteArray) (A0_3 : Option Addr) (c0_3 : Nat) (ab : List (S37)) (a1_0 : Int) (a1_1 : ByteArray) (A1_2 : Option Addr) (c1_2 : Nat) (bX : List ByteArray) (A1_3 : Option Addr) (c1_3 : Nat) (bh : List (S37)) (r : Bool) (w : World) (hr0_2 : Kd.C Kd.string w A0_2 ac.length ac) (hc0_2 : ac.length ≤ c0_2) (hr0_3 : Kd.C k37 w A0_3 ab.length ab) (hc0_3 : ab.length ≤ c0_3) (hr1_2 : Kd.C Kd.string w A1_2 bX.length bX) (hc1_2 : bX.length ≤ c1_2) (hr1_3 : Kd.C k37 w A1_3 bh.length bh) (hc1_3 : bh.length ≤ c1_3) (h : signetryref14_Same.f k a0_0 a0_1 ac ab a1_0 a1_1 bX bh = some r),
 Calls Tryz.prog 20 #[.agg #[.int .i64 a0_0, .string a0_1, .slice A0_2 ac.length c0_2, .slice A0_3 ab.length c0_3], .agg #[.int .i64 a1_0, .string a1_1, .slice A1_2 bX.length c1_2, .slice A1_3 bh.length c1_3]] w fun e w' => e = .returned (.bool r) ∧ Below w.heap.size w w' := by
 induction k using Nat.strongRecOn with
 | _ k ih =>
 intro a0_0 a0_1 A0_2 c0_2 ac A0_3 c0_3 ab a1_0 a1_1 A1_2 c1_2 bX A1_3 c1_3 bh r w hr0_2 hc0_2 hr0_3 hc0_3 hr1_2 hc1_2 hr1_3 hc1_3 h
 cases k with
 | zero => exact absurd h (by simp [signetryref14_Same.f])
 | succ k =>
 simp only [signetryref14_Same.f] at h
 have hu37 := Tryz.underlying37
 have eX := Aside0.mk hr0_2
 have cP := Aside0.mk hc0_2
 clear hr0_2 hc0_2
 have dU := Aside0.mk hr0_3
 have cX := Aside0.mk hc0_3
 clear hr0_3 hc0_3
 have HR1_2 := Aside0.mk hr1_2
 have HC1_2 := Aside0.mk hc1_2
 clear hr1_2 hc1_2
 have HR1_3 := Aside0.mk hr1_3
 have HC1_3 := Aside0.mk hc1_3
 clear hr1_3 hc1_3
 have HB := Aside0.mk (Below.refl w.heap.size w)
 have H : (if a0_0 = a1_0 then (if a0_1.toList = a1_1.toList then ((signetryref00_EqTexts.f k ac bX).bind fun t105 => (if t105 = true then (signetryref14_Same.j0 k ((ab.length : Int) != (bh.length : Int)) a0_0 a0_1 ac ab a1_0 a1_1 bX bh) else (none))) else (none)) else (none)) = some r := h
 clear h
 have HC3 := Aside0.mk H
 clear H
 go_enter Tryz.func20, Tryz.ntmps20
 go_upto_region 1 with (first | ((with_reducible refine gate_dst (N := 2) rfl ?_); (try (refine gate_guard (by rfl) ?_; dsimp only)); refine box_event ?hg (N := 2) ?hd (cs := #[.int .i64 a0_0, .string a0_1, .slice A0_2 ac.length c0_2, .slice A0_3 ab.length c0_3]) (t := 37) ?hr ?_; (case hd => rfl); (case hg => rfl); (case hr => exact p12z); intro aZ hg w4 hbox hb; have z_ := asi4 (below_step p0z hb) (hbox) ((p41z : w.heap.size ≤ aZ)) ((p41z : w.heap.size ≤ aZ)); clear HB; obtain ⟨HB, au, GW103, eY⟩ := z_; clear hb hbox hg) | ((with_reducible refine gate_dst (N := 3) rfl ?_); (try (refine gate_guard (by rfl) ?_; dsimp only)); refine box_event ?hg (N := 3) ?hd (cs := #[.int .i64 a1_0, .string a1_1, .slice A1_2 bX.length c1_2, .slice A1_3 bh.length c1_3]) (t := 37) ?hr ?_; (case hd => rfl); (case hg => rfl); (case hr => exact p12z); intro cw hg w5 hbox hb; have z_ := asi7 (blk_below (g := aZ) (o := .cells #[.int .i64 a0_0, .string a0_1, .slice A0_2 ac.length c0_2, .slice A0_3 ab.length c0_3] 37 (0, 0)) p35z hb) (below_step p59z hb) (hbox) ((by rw [hg]; exact (below_size p59z) : w.heap.size ≤ cw)) ((by rw [hg]; exact (below_size p59z) : w.heap.size ≤ cw)) ((by rw [hg]; exact Nat.ne_of_lt (blk_lt (g := aZ) (o := .cells #[.int .i64 a0_0, .string a0_1, .slice A0_2 ac.length c0_2, .slice A0_3 ab.length c0_3] 37 (0, 0)) p35z) : aZ ≠ cw)) ((by rw [hg]; exact Nat.ne_of_gt (blk_lt (g := aZ) (o := .cells #[.int .i64 a0_0, .string a0_1, .slice A0_2 ac.length c0_2, .slice A0_3 ab.length c0_3] 37 (0, 0)) p35z) : cw ≠ aZ)); clear au HB; obtain ⟨au, HB, bP, GW104, GE104, NB103_104, NB104_103⟩ := z_; clear hb hbox hg))
 (try simp only [Act.put, List.setIfInBounds_toArray, List.set_cons_zero, List.set_cons_succ])
 go_cut [34] (fun v34 wc => ∃ (kq : Nat) (fb : Bool), v34 = .bool fb ∧ Aside0 (signetryref14_Same.j0 kq fb a0_0 a0_1 ac ab a1_0 a1_1 bX bh = some r) ∧ Aside0 (kq ≤ k) ∧ Aside0 (wc.heap[aZ]? = some (.cells #[.int .i64 a0_0, .string a0_1, (.slice A0_2 ac.length c0_2), (.slice A0_3 ab.length c0_3)] 37 (0, 0))) ∧ Aside0 (wc.heap[cw]? = some (.cells #[.int .i64 a1_0, .string a1_1, (.slice A1_2 bX.length c1_2), (.slice A1_3 bh.length c1_3)] 37 (0, 0))) ∧ Aside0 (Below w.heap.size w wc))
 case first =>
  have H := HC3.out
  clear HC3
  by_cases c6 : a0_0 = a1_0
  case neg =>
   rw [if_neg c6] at H
   exact absurd H (by simp)
  rw [if_pos c6] at H
  have cd : (a0_0 == a1_0) = true := beq_iff_eq.mpr c6
  have di : (a0_0 != a1_0) = false := bne_eq_false_iff_eq.mpr c6
  clear c6
  (first | rw [cd] | (simp only [i64_w, i32_w]; rw [cd]) | skip)
  by_cases c7 : a0_1.toList = a1_1.toList
  case neg =>
   rw [if_neg c7] at H
   exact absurd H (by simp)
  rw [if_pos c7] at H
  have dj : (a0_1.toList == a1_1.toList) = true := beq_iff_eq.mpr c7
  have c7b1 : (a0_1.toList != a1_1.toList) = false := bne_eq_false_iff_eq.mpr c7
  clear c7
  replace H := Option.bind_eq_some_iff.mp H
  obtain ⟨t105, A80, H⟩ := H
  replace H : (if t105 = true then (signetryref14_Same.j0 k ((ab.length : Int) != (bh.length : Int)) a0_0 a0_1 ac ab a1_0 a1_1 bX bh) else (none)) = some r := H
  have A8 := Aside0.mk A80
  clear A80
  by_cases c9 : t105 = true
  case neg =>
   replace c9 := Bool.eq_false_iff.mpr c9
   subst c9
   have H1 : (none) = some r := p27z
   clear H
   have H := H1
   clear H1
   exact absurd H (by simp)
  subst c9
  have H1 : (signetryref14_Same.j0 k ((ab.length : Int) != (bh.length : Int)) a0_0 a0_1 ac ab a1_0 a1_1 bX bh) = some r := p53z
  clear H
  have H := H1
  clear H1
  have H' := Aside0.mk H
  clear H
  have hnb10 := NB103_104.out
  have hnc10 := NB104_103.out
  have hcz11_0 : w5.cell? ⟨aZ, 0, none⟩ = some (.int .i64 a0_0) := (blk_cell au.out 0).trans rfl
  have hcz11_1 : w5.cell? ⟨aZ, 1, none⟩ = some (.string a0_1) := (blk_cell au.out 1).trans rfl
  have hcz11_2 : w5.cell? ⟨aZ, 2, none⟩ = some (.slice A0_2 ac.length c0_2) := (blk_cell au.out 2).trans rfl
  have hcz11_3 : w5.cell? ⟨aZ, 3, none⟩ = some (.slice A0_3 ab.length c0_3) := (blk_cell au.out 3).trans rfl
  have hfz11_0 := blk_frozen au.out 0
  have hfz11_1 := blk_frozen au.out 1
  have hfz11_2 := blk_frozen au.out 2
  have hfz11_3 := blk_frozen au.out 3
  have hcz12_0 : w5.cell? ⟨cw, 0, none⟩ = some (.int .i64 a1_0) := (blk_cell bP.out 0).trans rfl
  have hcz12_1 : w5.cell? ⟨cw, 1, none⟩ = some (.string a1_1) := (blk_cell bP.out 1).trans rfl
  have hcz12_2 : w5.cell? ⟨cw, 2, none⟩ = some (.slice A1_2 bX.length c1_2) := (blk_cell bP.out 2).trans rfl
  have hcz12_3 : w5.cell? ⟨cw, 3, none⟩ = some (.slice A1_3 bh.length c1_3) := (blk_cell bP.out 3).trans rfl
  have hfz12_0 := blk_frozen bP.out 0
  have hfz12_1 := blk_frozen bP.out 1
  have hfz12_2 := blk_frozen bP.out 2
  have hfz12_3 := blk_frozen bP.out 3
  go_wp2_with (first | (go_at_call 47; (with_reducible refine (signetryref00_EqTexts.calls k _ _ ac _ _ bX true _ ?side1 ?side2 ?side3 ?side4 A8.out).mono ?_); (case side1 => exact p16z); (case side2 => exact cP.out); (case side3 => repeat (first | exact (Kd.C_below HR1_2.out HB.out) | (with_reducible refine Kd.C_alloc ?_ _) | (with_reducible refine Kd.C_drewN ?_ _) | (with_reducible refine Kd.C_drew ?_))); (case side4 => exact HC1_2.out); rintro e w' ⟨rfl, ⟨nd, rfl⟩⟩))
  go_meet
  case rel => exact ⟨_, (((ab.length : Int) != (bh.length : Int))), p7z, H', ⟨p66z⟩, ⟨p35z⟩, ⟨p57z⟩, ⟨p33z⟩⟩
 case rest =>
  clear HC3
  try clear c1
  try clear c2
  try clear p2
  try clear c6
  try clear cd
  try clear di
  try clear c7
  try clear dj
  try clear c7b1
  try clear c9
  try clear c10
  try clear hcz11_0
  try clear hcz11_1
  try clear hcz11_2
  try clear hcz11_3
  try clear hcz12_0
  try clear hcz12_1
  try clear hcz12_2
  try clear hcz12_3
  try clear hfz11_0
  try clear hfz11_1
  try clear hfz11_2
  try clear hfz11_3
  try clear hfz12_0
  try clear hfz12_1
  try clear hfz12_2
  try clear hfz12_3
  obtain ⟨kq, fb, rfl, HA, HJ2, au, bP, HB⟩ := hcut
  cases kq with
  | zero => exact absurd HA.out (by simp [signetryref14_Same.j0])
  | succ kj2 =>
   have H := HA.out
   clear HA
   simp only [signetryref14_Same.j0] at H
   by_cases c13 : fb = true
   case pos =>
    subst c13
    have H1 : (none) = some r := p53z
    clear H
    have H := H1
    clear H1
    exact absurd H (by simp)
   replace c13 := Bool.eq_false_iff.mpr c13
   subst c13
   have H1 : (signetryref14_Same.l0 kj2 0 a0_0 a0_1 ac ab a1_0 a1_1 bX bh) = some r := p27z
   clear H
   have H := H1
   clear H1
   have H' := Aside0.mk H
   clear H
   go_wp2
   go_loopg [5] kj2 (fun kq v5 w' => ∃ (aD : Int), v5 = .int .i64 aD ∧ Aside0 (signetryref14_Same.l0 kq aD a0_0 a0_1 ac ab a1_0 a1_1 bX bh = some r) ∧ Aside0 (kq ≤ kj2) ∧ Aside0 (w'.heap[aZ]? = some (.cells #[.int .i64 a0_0, .string a0_1, (.slice A0_2 ac.length c0_2), (.slice A0_3 ab.length c0_3)] 37 (0, 0))) ∧ Aside0 (w'.heap[cw]? = some (.cells #[.int .i64 a1_0, .string a1_1, (.slice A1_2 bX.length c1_2), (.slice A1_3 bh.length c1_3)] 37 (0, 0))) ∧ Aside0 (Below w.heap.size w w'))
   case atStart => exact ⟨(0), p7z, H', ⟨Nat.le_refl _⟩, ⟨p35z⟩, ⟨p57z⟩, ⟨p33z⟩⟩
   case round =>
    clear H'
    try clear c1
    try clear c2
    try clear p2
    try clear c6
    try clear cd
    try clear di
    try clear c7
    try clear dj
    try clear c7b1
    try clear c9
    try clear c10
    try clear c13
    try clear hcz11_0
    try clear hcz11_1
    try clear hcz11_2
    try clear hcz11_3
    try clear hcz12_0
    try clear hcz12_1
    try clear hcz12_2
    try clear hcz12_3
    try clear hfz11_0
    try clear hfz11_1
    try clear hfz11_2
    try clear hfz11_3
    try clear hfz12_0
    try clear hfz12_1
    try clear hfz12_2
    try clear hfz12_3
    try clear p2
    obtain ⟨aD, rfl, HA, HK2, au, bP, HB⟩ := hrel
    cases gk with
    | zero => exact absurd HA.out (by simp [signetryref14_Same.l0])
    | succ k2 =>
     have H := HA.out
     clear HA
     simp only [signetryref14_Same.l0] at H
     by_cases c14 : aD < (ab.length : Int)
     case neg =>
      rw [if_neg c14] at H
      have dV : decide (aD < (ab.length : Int)) = false := decide_eq_false c14
      clear c14
      obtain rfl := Option.some.inj H
      have hnb23 := NB103_104.out
      have hnc23 := NB104_103.out
      have hcz24_0 : wr.cell? ⟨aZ, 0, none⟩ = some (.int .i64 a0_0) := (blk_cell au.out 0).trans rfl
      have hcz24_1 : wr.cell? ⟨aZ, 1, none⟩ = some (.string a0_1) := (blk_cell au.out 1).trans rfl
      have hcz24_2 : wr.cell? ⟨aZ, 2, none⟩ = some (.slice A0_2 ac.length c0_2) := (blk_cell au.out 2).trans rfl
      have hcz24_3 : wr.cell? ⟨aZ, 3, none⟩ = some (.slice A0_3 ab.length c0_3) := (blk_cell au.out 3).trans rfl
      have hfz24_0 := blk_frozen au.out 0
      have hfz24_1 := blk_frozen au.out 1
      have hfz24_2 := blk_frozen au.out 2
      have hfz24_3 := blk_frozen au.out 3
      go_wp2
      go_ret
      exact ⟨p6z, p33z⟩

     rw [if_pos c14] at H
     have dV : decide (aD < (ab.length : Int)) = true := decide_eq_true c14
     clear c14
     by_cases c15 : 0 ≤ aD
     case neg =>
      rw [if_neg c15] at H
      exact absurd H (by simp)
     rw [if_pos c15] at H
     have fc : decide (0 ≤ aD) = true := decide_eq_true c15
     clear c15
     by_cases c16 : aD < (bh.length : Int)
     case neg =>
      rw [if_neg c16] at H
      exact absurd H (by simp)
     rw [if_pos c16] at H
     have dX : decide (aD < (bh.length : Int)) = true := decide_eq_true c16
     clear c16
     replace H := Option.bind_eq_some_iff.mp H
     obtain ⟨dL, A170, H⟩ := H
     replace H : (if dL = true then (signetryref14_Same.l0 k2 (wrap64 (aD + 1)) a0_0 a0_1 ac ab a1_0 a1_1 bX bh) else (none)) = some r := H
     have A17 := Aside0.mk A170
     clear A170
     by_cases c18 : dL = true
     case neg =>
      replace c18 := Bool.eq_false_iff.mpr c18
      subst c18
      have H1 : (none) = some r := p27z
      clear H
      have H := H1
      clear H1
      exact absurd H (by simp)
     subst c18
     have H1 : (signetryref14_Same.l0 k2 (wrap64 (aD + 1)) a0_0 a0_1 ac ab a1_0 a1_1 bX bh) = some r := p53z
     clear H
     have H := H1
     clear H1
     have H' := Aside0.mk H
     clear H
     have hnb19 := NB103_104.out
     have hnc19 := NB104_103.out
     have hcz20_0 : wr.cell? ⟨aZ, 0, none⟩ = some (.int .i64 a0_0) := (blk_cell au.out 0).trans rfl
     have hcz20_1 : wr.cell? ⟨aZ, 1, none⟩ = some (.string a0_1) := (blk_cell au.out 1).trans rfl
     have hcz20_2 : wr.cell? ⟨aZ, 2, none⟩ = some (.slice A0_2 ac.length c0_2) := (blk_cell au.out 2).trans rfl
     have hcz20_3 : wr.cell? ⟨aZ, 3, none⟩ = some (.slice A0_3 ab.length c0_3) := (blk_cell au.out 3).trans rfl
     have hfz20_0 := blk_frozen au.out 0
     have hfz20_1 := blk_frozen au.out 1
     have hfz20_2 := blk_frozen au.out 2
     have hfz20_3 := blk_frozen au.out 3
     try go_wp2
     have n0_ := Aside0.mk (blk_drew au.out)
     have n1_ := Aside0.mk (blk_drew bP.out)
     have n2_ := Aside0.mk (below_drew1 HB.out)
     clear au
     clear bP
     clear HB
     have au := n0_
     have bP := n1_
     have HB := n2_
     clear n0_ n1_ n2_
     have p106 : 0 ≤ (aD : Int) := of_decide_eq_true p4z
     have q106 : aD < (ab.length : Int) := of_decide_eq_true p4z
     obtain ⟨ad106, A106_2, c106_2, A106_3, c106_3, e106, hx106_0, hx106_1, hx106_2, hx106_3, hl106_2, hi106_2, hl106_3, hi106_3⟩ := at_T37 dU.out aD p106 q106
     have hw106_3 := hx106_3
     have hw106_2 := hx106_2
     have hw106_1 := hx106_1
     have hw106_0 := hx106_0
     cases e106
     replace hx106_0 := (HB.out.cell (World.block_lt_of_cell? w _ hx106_0)).trans hx106_0
     replace hx106_1 := (HB.out.cell (World.block_lt_of_cell? w _ hx106_1)).trans hx106_1
     replace hx106_2 := (HB.out.cell (World.block_lt_of_cell? w _ hx106_2)).trans hx106_2
     replace hx106_3 := (HB.out.cell (World.block_lt_of_cell? w _ hx106_3)).trans hx106_3
     have fd := Aside0.mk hi106_2
     have HC106_2 := Aside0.mk hl106_2
     clear hi106_2 hl106_2
     have fe := Aside0.mk hi106_3
     have HC106_3 := Aside0.mk hl106_3
     clear hi106_3 hl106_3
     replace p106 := eq_true p106
     replace q106 := eq_true q106
     have p107 : 0 ≤ (aD : Int) := of_decide_eq_true p4z
     have q107 : aD < (bh.length : Int) := of_decide_eq_true p4z
     obtain ⟨ad107, A107_2, c107_2, A107_3, c107_3, e107, hx107_0, hx107_1, hx107_2, hx107_3, hl107_2, hi107_2, hl107_3, hi107_3⟩ := at_T37 HR1_3.out aD p107 q107
     have hw107_3 := hx107_3
     have hw107_2 := hx107_2
     have hw107_1 := hx107_1
     have hw107_0 := hx107_0
     cases e107
     replace hx107_0 := (HB.out.cell (World.block_lt_of_cell? w _ hx107_0)).trans hx107_0
     replace hx107_1 := (HB.out.cell (World.block_lt_of_cell? w _ hx107_1)).trans hx107_1
     replace hx107_2 := (HB.out.cell (World.block_lt_of_cell? w _ hx107_2)).trans hx107_2
     replace hx107_3 := (HB.out.cell (World.block_lt_of_cell? w _ hx107_3)).trans hx107_3
     have ff := Aside0.mk hi107_2
     have HC107_2 := Aside0.mk hl107_2
     clear hi107_2 hl107_2
     have fg := Aside0.mk hi107_3
     have HC107_3 := Aside0.mk hl107_3
     clear hi107_3 hl107_3
     replace p107 := eq_true p107
     replace q107 := eq_true q107
     refine start_ (n := 12) (S := fun w' => w'.cell? ⟨aZ, 0, none⟩ = some (.int .i64 a0_0) ∧ w'.cell? ⟨aZ, 1, none⟩ = some (.string a0_1) ∧ w'.cell? ⟨aZ, 2, none⟩ = some (.slice A0_2 ac.length c0_2) ∧ w'.cell? ⟨aZ, 3, none⟩ = some (.slice (some ad106) ab.length c0_3) ∧ w'.cell? ⟨cw, 0, none⟩ = some (.int .i64 a1_0) ∧ w'.cell? ⟨cw, 1, none⟩ = some (.string a1_1) ∧ w'.cell? ⟨cw, 2, none⟩ = some (.slice A1_2 bX.length c1_2) ∧ w'.cell? ⟨cw, 3, none⟩ = some (.slice (some ad107) bh.length c1_3) ∧ w'.cell? (ad106.add ((aD).toNat * 4)) = some (.int .i64 ((rd_T37 ab aD).f0)) ∧ w'.cell? ⟨(ad106.add ((aD).toNat * 4)).block, (ad106.add ((aD).toNat * 4)).off + 1, none⟩ = some (.string ((rd_T37 ab aD).f1)) ∧ w'.cell? ⟨(ad106.add ((aD).toNat * 4)).block, (ad106.add ((aD).toNat * 4)).off + 2, none⟩ = some (.slice A106_2 ((rd_T37 ab aD).f2).length c106_2) ∧ w'.cell? ⟨(ad106.add ((aD).toNat * 4)).block, (ad106.add ((aD).toNat * 4)).off + 3, none⟩ = some (.slice A106_3 ((rd_T37 ab aD).f3).length c106_3) ∧ w'.cell? (ad107.add ((aD).toNat * 4)) = some (.int .i64 ((rd_T37 bh aD).f0)) ∧ w'.cell? ⟨(ad107.add ((aD).toNat * 4)).block, (ad107.add ((aD).toNat * 4)).off + 1, none⟩ = some (.string ((rd_T37 bh aD).f1)) ∧ w'.cell? ⟨(ad107.add ((aD).toNat * 4)).block, (ad107.add ((aD).toNat * 4)).off + 2, none⟩ = some (.slice A107_2 ((rd_T37 bh aD).f2).length c107_2) ∧ w'.cell? ⟨(ad107.add ((aD).toNat * 4)).block, (ad107.add ((aD).toNat * 4)).off + 3, none⟩ = some (.slice A107_3 ((rd_T37 bh aD).f3).length c107_3)) (ds := []) #[false, false, false, false, false, false, false, false, false, false, false, false] p8z rfl rfl ⟨(blk_cell au.out 0).trans rfl, (blk_cell au.out 1).trans rfl, (blk_cell au.out 2).trans rfl, (blk_cell au.out 3).trans rfl, (blk_cell bP.out 0).trans rfl, (blk_cell bP.out 1).trans rfl, (blk_cell bP.out 2).trans rfl, (blk_cell bP.out 3).trans rfl, ((HB.out.cell (World.block_lt_of_cell? w _ hw106_0)).trans hw106_0), ((HB.out.cell (World.block_lt_of_cell? w _ hw106_1)).trans hw106_1), ((HB.out.cell (World.block_lt_of_cell? w _ hw106_2)).trans hw106_2), ((HB.out.cell (World.block_lt_of_cell? w _ hw106_3)).trans hw106_3), ((HB.out.cell (World.block_lt_of_cell? w _ hw107_0)).trans hw107_0), ((HB.out.cell (World.block_lt_of_cell? w _ hw107_1)).trans hw107_1), ((HB.out.cell (World.block_lt_of_cell? w _ hw107_2)).trans hw107_2), ((HB.out.cell (World.block_lt_of_cell? w _ hw107_3)).trans hw107_3)⟩ (fun hHeld => ?_); refine with_tabW signetryref14_Same.tab6 signetryref14_Same.bits6 (fun HT_ HW_ => ?_)
     generalize wr.drew = w21 at au bP HB fd fe ff fg hx106_0 hx106_1 hx106_2 hx106_3 hx107_0 hx107_1 hx107_2 hx107_3 hHeld ⊢
     refine pure_ (i := 0) (N := some 42) (v := ?_) (a' := ?_) #[true, false, false, false, false, false, false, false, false, false, false, false] rfl rfl (any_of HT_.out p8z) (fun _ _ _ h => h) (Or.inl ⟨by rfl, ?_⟩) ?_ ?_
     rotate_left
     ·intro w'
      go_simp
      with_reducible rfl
     rotate_left
     ·simp only [Act.put, List.setIfInBounds_toArray, List.set_cons_zero, List.set_cons_succ, i64_w, i32_w]
      rfl
     refine pure_ (i := 2) (N := some 44) (v := ?_) (a' := ?_) #[true, false, true, false, false, false, false, false, false, false, false, false] rfl rfl (any_of HT_.out p8z) (fun _ _ _ h => h) (Or.inl ⟨by rfl, ?_⟩) ?_ ?_
     rotate_left
     ·intro w'
      go_simp
      with_reducible rfl
     rotate_left
     ·simp only [Act.put, List.setIfInBounds_toArray, List.set_cons_zero, List.set_cons_succ, i64_w, i32_w]
      rfl
     refine pure_ (i := 5) (N := some 47) (v := ?_) (a' := ?_) #[true, false, true, false, false, true, false, false, false, false, false, false] rfl rfl (any_of HT_.out p8z) (fun _ _ _ h => h) (Or.inl ⟨by rfl, ?_⟩) ?_ ?_
     rotate_left
     ·intro w'
      go_simp
      with_reducible rfl
     rotate_left
     ·simp only [Act.put, List.setIfInBounds_toArray, List.set_cons_zero, List.set_cons_succ, i64_w, i32_w]
      rfl
     refine pure_ (i := 7) (N := some 49) (v := ?_) (a' := ?_) #[true, false, true, false, false, true, false, true, false, false, false, false] rfl rfl (any_of HT_.out p8z) (fun _ _ _ h => h) (Or.inl ⟨by rfl, ?_⟩) ?_ ?_
     rotate_left
     ·intro w'
      go_simp
      with_reducible rfl
     rotate_left
     ·simp only [Act.put, List.setIfInBounds_toArray, List.set_cons_zero, List.set_cons_succ, i64_w, i32_w]
      rfl
     refine take_ (i := 1) (N := some 43) (v := ?_) (a' := ?_) #[true, true, true, false, false, true, false, true, false, false, false, false] rfl rfl (take_ofW HT_.out HW_.out p8z) (fun _ _ _ h => h) (Or.inl ⟨by rfl, ?_⟩) hHeld ?_ ?_
     rotate_left
     ·rintro w' ⟨s0, s1, s2, s3, s4, s5, s6, s7, s8, s9, s10, s11, s12, s13, s14, s15⟩
      go_simp
      with_reducible rfl
     rotate_left
     ·simp only [Act.put, List.setIfInBounds_toArray, List.set_cons_zero, List.set_cons_succ, i64_w, i32_w]
      rfl
     refine pure_ (i := 3) (N := some 45) (v := ?_) (a' := ?_) #[true, true, true, true, false, true, false, true, false, false, false, false] rfl rfl (any_of HT_.out p8z) (fun _ _ _ h => h) (Or.inl ⟨by rfl, ?_⟩) ?_ ?_
     rotate_left
     ·intro w'
      go_simp
      with_reducible rfl
     rotate_left
     ·simp only [Act.put, List.setIfInBounds_toArray, List.set_cons_zero, List.set_cons_succ, i64_w, i32_w]
      rfl
     refine take_ (i := 4) (N := some 46) (v := ?_) (a' := ?_) #[true, true, true, true, true, true, false, true, false, false, false, false] rfl rfl (take_ofW HT_.out HW_.out p8z) (fun _ _ _ h => h) (Or.inl ⟨by rfl, ?_⟩) hHeld ?_ ?_
     rotate_left
     ·rintro w' ⟨s0, s1, s2, s3, s4, s5, s6, s7, s8, s9, s10, s11, s12, s13, s14, s15⟩
      go_simp
      with_reducible rfl
     rotate_left
     ·simp only [Act.put, List.setIfInBounds_toArray, List.set_cons_zero, List.set_cons_succ, i64_w, i32_w]
      rfl
     refine take_ (i := 6) (N := some 48) (v := ?_) (a' := ?_) #[true, true, true, true, true, true, true, true, false, false, false, false] rfl rfl (take_ofW HT_.out HW_.out p8z) (fun _ _ _ h => h) (Or.inl ⟨by rfl, ?_⟩) hHeld ?_ ?_
     rotate_left
     ·rintro w' ⟨s0, s1, s2, s3, s4, s5, s6, s7, s8, s9, s10, s11, s12, s13, s14, s15⟩
      go_simp
      with_reducible rfl
     rotate_left
     ·simp only [Act.put, List.setIfInBounds_toArray, List.set_cons_zero, List.set_cons_succ, i64_w, i32_w]
      rfl
     refine pure_ (i := 8) (N := some 50) (v := ?_) (a' := ?_) #[true, true, true, true, true, true, true, true, true, false, false, false] rfl rfl (any_of HT_.out p8z) (fun _ _ _ h => h) (Or.inl ⟨by rfl, ?_⟩) ?_ ?_
     rotate_left
     ·intro w'
      go_simp
      with_reducible rfl
     rotate_left
     ·simp only [Act.put, List.setIfInBounds_toArray, List.set_cons_zero, List.set_cons_succ, i64_w, i32_w]
      rfl
     refine take_ (i := 9) (N := some 51) (v := ?_) (a' := ?_) #[true, true, true, true, true, true, true, true, true, true, false, false] rfl rfl (take_ofW HT_.out HW_.out p8z) (fun _ _ _ h => h) (Or.inl ⟨by rfl, ?_⟩) hHeld ?_ ?_
     rotate_left
     ·rintro w' ⟨s0, s1, s2, s3, s4, s5, s6, s7, s8, s9, s10, s11, s12, s13, s14, s15⟩
      go_simp
      with_reducible rfl
     rotate_left
     ·simp only [Act.put, List.setIfInBounds_toArray, List.set_cons_zero, List.set_cons_succ, i64_w, i32_w]
      rfl
     refine one_ (i := 10) (N := some 52) #[true, true, true, true, true, true, true, true, true, true, true, false] rfl rfl (one_of HT_.out p8z) (by decide) (fun K hK => ?_)
     refine goes_ Tryz.func20 p8z rfl #[.agg #[.int .i64 ((rd_T37 ab aD).f0), .string ((rd_T37 ab aD).f1), .slice A106_2 ((rd_T37 ab aD).f2).length c106_2, .slice A106_3 ((rd_T37 ab aD).f3).length c106_3], .agg #[.int .i64 ((rd_T37 bh aD).f0), .string ((rd_T37 bh aD).f1), .slice A107_2 ((rd_T37 bh aD).f2).length c107_2, .slice A107_3 ((rd_T37 bh aD).f3).length c107_3]] (by rfl) rfl rfl p5z ?_
     with_reducible refine (ih k2 (by have := HJ2.out; have := HK2.out; omega) ((rd_T37 ab aD).f0) ((rd_T37 ab aD).f1) _ _ ((rd_T37 ab aD).f2) _ _ ((rd_T37 ab aD).f3) ((rd_T37 bh aD).f0) ((rd_T37 bh aD).f1) _ _ ((rd_T37 bh aD).f2) _ _ ((rd_T37 bh aD).f3) true _ ?side1 ?side2 ?side3 ?side4 ?side5 ?side6 ?side7 ?side8 A17.out).mono ?_
     (case side1 => repeat (first | exact (Kd.C_below fd.out HB.out) | (with_reducible refine Kd.C_alloc ?_ _) | (with_reducible refine Kd.C_drewN ?_ _) | (with_reducible refine Kd.C_drew ?_)))
     (case side2 => exact HC106_2.out)
     (case side3 => repeat (first | exact (Kd.C_below fe.out HB.out) | (with_reducible refine Kd.C_alloc ?_ _) | (with_reducible refine Kd.C_drewN ?_ _) | (with_reducible refine Kd.C_drew ?_)))
     (case side4 => exact HC106_3.out)
     (case side5 => repeat (first | exact (Kd.C_below ff.out HB.out) | (with_reducible refine Kd.C_alloc ?_ _) | (with_reducible refine Kd.C_drewN ?_ _) | (with_reducible refine Kd.C_drew ?_)))
     (case side6 => exact HC107_2.out)
     (case side7 => repeat (first | exact (Kd.C_below fg.out HB.out) | (with_reducible refine Kd.C_alloc ?_ _) | (with_reducible refine Kd.C_drewN ?_ _) | (with_reducible refine Kd.C_drew ?_)))
     (case side8 => exact HC107_3.out)
     rintro e w22 ⟨rfl, hb⟩
     refine ⟨_, rfl, ?_⟩
     have n0_ := Aside0.mk (blk_below (g := aZ) (o := .cells #[.int .i64 a0_0, .string a0_1, .slice A0_2 ac.length c0_2, .slice (some ad106) ab.length c0_3] 37 (0, 0)) p35z hb)
     have n1_ := Aside0.mk (blk_below (g := cw) (o := .cells #[.int .i64 a1_0, .string a1_1, .slice A1_2 bX.length c1_2, .slice (some ad107) bh.length c1_3] 37 (0, 0)) p57z hb)
     have n2_ := Aside0.mk (below_step p33z hb)
     clear au
     clear bP
     clear HB
     have au := n0_
     have bP := n1_
     have HB := n2_
     clear n0_ n1_ n2_
     (try clear hb)
     (try clear hb2)
     (try clear hk)
     (try clear hi)
     refine hK.out _ _ ⟨(blk_cell au.out 0).trans rfl, (blk_cell au.out 1).trans rfl, (blk_cell au.out 2).trans rfl, (blk_cell au.out 3).trans rfl, (blk_cell bP.out 0).trans rfl, (blk_cell bP.out 1).trans rfl, (blk_cell bP.out 2).trans rfl, (blk_cell bP.out 3).trans rfl, ((HB.out.cell (World.block_lt_of_cell? w _ hw106_0)).trans hw106_0), ((HB.out.cell (World.block_lt_of_cell? w _ hw106_1)).trans hw106_1), ((HB.out.cell (World.block_lt_of_cell? w _ hw106_2)).trans hw106_2), ((HB.out.cell (World.block_lt_of_cell? w _ hw106_3)).trans hw106_3), ((HB.out.cell (World.block_lt_of_cell? w _ hw107_0)).trans hw107_0), ((HB.out.cell (World.block_lt_of_cell? w _ hw107_1)).trans hw107_1), ((HB.out.cell (World.block_lt_of_cell? w _ hw107_2)).trans hw107_2), ((HB.out.cell (World.block_lt_of_cell? w _ hw107_3)).trans hw107_3)⟩ (fun hHeld => ?_)
     clear hK K
     refine norm_ (a' := ?_) ?_ ?_
     rotate_left
     ·show Act.put _ (some 52) _ = _
      simp only [Act.put, List.setIfInBounds_toArray, List.set_cons_zero, List.set_cons_succ, i64_w, i32_w]
      rfl
     refine pure_ (i := 11) (N := some 53) (v := ?_) (a' := ?_) #[true, true, true, true, true, true, true, true, true, true, true, true] rfl rfl (any_of HT_.out p8z) (fun _ _ _ h => h) (Or.inl ⟨by rfl, ?_⟩) ?_ ?_
     rotate_left
     ·intro w'
      go_simp
      with_reducible rfl
     rotate_left
     ·simp only [Act.put, List.setIfInBounds_toArray, List.set_cons_zero, List.set_cons_succ, i64_w, i32_w]
      rfl
     refine done_ (done_of HT_.out p8z) ?_
     try go_wp2
     go_roundg k2
     case measure => have := HJ2.out; have := HK2.out; omega
     case rel => exact ⟨(wrap64 (aD + 1)), p7z, H', ⟨by have := HJ2.out; have := HK2.out; omega⟩, ⟨p35z⟩, ⟨p57z⟩, ⟨p33z⟩⟩
-- NOT PRINTED: function 12 (signetrylaw14_own)
end Go.Proofs.YtodnggilomanbaaGreatDoor.PAll
