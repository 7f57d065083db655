-- Written by this repo's program wip/tools/pr.py (over the kit's print) out of the translation. Not trusted: Lean checks it.
import Derived.Test.YtodnggilomanbaaGreatDoorGX
import Derived.Test.YtodnggilomanbaaGreatDoorPX0
namespace Go.Proofs.YtodnggilomanbaaGreatDoor.PAll
open Go.Proofs.YtodnggilomanbaaGreatDoor.Hand
open Go.RowKit Go.Proofs.YtodnggilomanbaaGreatDoorW.PrintWords Go.Proofs.YtodnggilomanbaaGreatDoorW.PrintLast Go.Proofs.YtodnggilomanbaaGreatDoorW.PrintMore
attribute [local go_sem] max2_int min2_int max_two min_two max_three min_three max_four min_four   -- for this text's walks alone
set_option linter.unusedVariables false
set_option linter.unusedSimpArgs false
attribute [-simp] List.length_take List.length_drop ByteArray.size_extract

/-! ### signetrylaw14_spaced: function 26 -/
mutual
def signetrylaw14_spaced.l0 : Nat → ByteArray → ByteArray → Int → Int → ByteArray → List ByteArray → List (S28) → Option (ByteArray)
  | 0, _, _, _, _, _, _, _ => none
  | k + 1, x1, x7, x8, x179000, x179001, x179002, x179003 => if x8 < (x179003.length : Int) then (if x8 > 0 then (if x7.size + 1 ≤ 9223372036854775807 then (signetrylaw14_spaced.j1 k x1 (x7 ++ (⟨#[44]⟩ : ByteArray)) x8 x179000 x179001 x179002 x179003) else (none)) else (signetrylaw14_spaced.j1 k x1 x7 x8 x179000 x179001 x179002 x179003)) else (if x179000 = 6 then (if x1.size + 1 ≤ 9223372036854775807 then (if (x1 ++ (⟨#[91]⟩ : ByteArray)).size + x1.size ≤ 9223372036854775807 then (if ((x1 ++ (⟨#[91]⟩ : ByteArray)) ++ x1).size + x7.size ≤ 9223372036854775807 then (if (((x1 ++ (⟨#[91]⟩ : ByteArray)) ++ x1) ++ x7).size + x1.size ≤ 9223372036854775807 then (if ((((x1 ++ (⟨#[91]⟩ : ByteArray)) ++ x1) ++ x7) ++ x1).size + 1 ≤ 9223372036854775807 then (if (((((x1 ++ (⟨#[91]⟩ : ByteArray)) ++ x1) ++ x7) ++ x1) ++ (⟨#[93]⟩ : ByteArray)).size + x1.size ≤ 9223372036854775807 then (some ((((((x1 ++ (⟨#[91]⟩ : ByteArray)) ++ x1) ++ x7) ++ x1) ++ (⟨#[93]⟩ : ByteArray)) ++ x1)) else (none)) else (none)) else (none)) else (none)) else (none)) else (none)) else (if x1.size + 1 ≤ 9223372036854775807 then (if (x1 ++ (⟨#[123]⟩ : ByteArray)).size + x1.size ≤ 9223372036854775807 then (if ((x1 ++ (⟨#[123]⟩ : ByteArray)) ++ x1).size + x7.size ≤ 9223372036854775807 then (if (((x1 ++ (⟨#[123]⟩ : ByteArray)) ++ x1) ++ x7).size + x1.size ≤ 9223372036854775807 then (if ((((x1 ++ (⟨#[123]⟩ : ByteArray)) ++ x1) ++ x7) ++ x1).size + 1 ≤ 9223372036854775807 then (if (((((x1 ++ (⟨#[123]⟩ : ByteArray)) ++ x1) ++ x7) ++ x1) ++ (⟨#[125]⟩ : ByteArray)).size + x1.size ≤ 9223372036854775807 then (some ((((((x1 ++ (⟨#[123]⟩ : ByteArray)) ++ x1) ++ x7) ++ x1) ++ (⟨#[125]⟩ : ByteArray)) ++ x1)) else (none)) else (none)) else (none)) else (none)) else (none)) else (none)))
def signetrylaw14_spaced.j1 : Nat → ByteArray → ByteArray → Int → Int → ByteArray → List ByteArray → List (S28) → Option (ByteArray)
  | 0, _, _, _, _, _, _, _ => none
  | k + 1, x1, x7, x8, x179000, x179001, x179002, x179003 => if x179000 = 7 then (if 0 ≤ x8 then (if x8 < (x179002.length : Int) then ((jtree_Text.f k 5 (rdOf ByteArray.empty x179002 x8) ([] : List ByteArray) ([] : List (S28))).bind fun bt182 => (if x7.size + x1.size ≤ 9223372036854775807 then (if (x7 ++ x1).size + bt182.1.size ≤ 9223372036854775807 then (if ((x7 ++ x1) ++ bt182.1).size + x1.size ≤ 9223372036854775807 then (if (((x7 ++ x1) ++ bt182.1) ++ x1).size + 1 ≤ 9223372036854775807 then (if x8 < (x179003.length : Int) then ((signetrylaw14_spaced.f k ((rd_T28 x179003 x8).f0) ((rd_T28 x179003 x8).f1) ((rd_T28 x179003 x8).f2) ((rd_T28 x179003 x8).f3) x1).bind fun t185 => (if ((((x7 ++ x1) ++ bt182.1) ++ x1) ++ (⟨#[58]⟩ : ByteArray)).size + t185.size ≤ 9223372036854775807 then (signetrylaw14_spaced.l0 k x1 (((((x7 ++ x1) ++ bt182.1) ++ x1) ++ (⟨#[58]⟩ : ByteArray)) ++ t185) (wrap64 (x8 + 1)) x179000 x179001 x179002 x179003) else (none))) else (none)) else (none)) else (none)) else (none)) else (none))) else (none)) else (none)) else (if 0 ≤ x8 then (if x8 < (x179003.length : Int) then ((signetrylaw14_spaced.f k ((rd_T28 x179003 x8).f0) ((rd_T28 x179003 x8).f1) ((rd_T28 x179003 x8).f2) ((rd_T28 x179003 x8).f3) x1).bind fun t187 => (if x7.size + t187.size ≤ 9223372036854775807 then (signetrylaw14_spaced.l0 k x1 (x7 ++ t187) (wrap64 (x8 + 1)) x179000 x179001 x179002 x179003) else (none))) else (none)) else (none))
def signetrylaw14_spaced.f : Nat → Int → ByteArray → List ByteArray → List (S28) → ByteArray → Option (ByteArray)
  | 0, _, _, _, _, _ => none
  | k + 1, a0_0, a0_1, l0_2, l0_3, a1 => if a0_0 < 6 then ((jtree_Text.f k a0_0 a0_1 l0_2 l0_3).bind fun bt179 => (if a1.size + bt179.1.size ≤ 9223372036854775807 then (if (a1 ++ bt179.1).size + a1.size ≤ 9223372036854775807 then (some ((a1 ++ bt179.1) ++ a1)) else (none)) else (none))) else (signetrylaw14_spaced.l0 k a1 (⟨#[]⟩ : ByteArray) 0 a0_0 a0_1 l0_2 l0_3)
end
theorem signetrylaw14_spaced.mono_l : ∀ k, (∀ y0 y1 y2 y3 y4, LeO (signetrylaw14_spaced.f k y0 y1 y2 y3 y4) (signetrylaw14_spaced.f (k + 1) y0 y1 y2 y3 y4)) ∧ (∀ y0 y1 y2 y3 y4 y5 y6, LeO (signetrylaw14_spaced.l0 k y0 y1 y2 y3 y4 y5 y6) (signetrylaw14_spaced.l0 (k + 1) y0 y1 y2 y3 y4 y5 y6)) ∧ (∀ y0 y1 y2 y3 y4 y5 y6, LeO (signetrylaw14_spaced.j1 k y0 y1 y2 y3 y4 y5 y6) (signetrylaw14_spaced.j1 (k + 1) y0 y1 y2 y3 y4 y5 y6))
  | 0 => ⟨fun _ _ _ _ _ r h => by simp [signetrylaw14_spaced.f] at h, fun _ _ _ _ _ _ _ r h => by simp [signetrylaw14_spaced.l0] at h, fun _ _ _ _ _ _ _ r h => by simp [signetrylaw14_spaced.j1] at h⟩
  | k + 1 => by
    obtain ⟨ih0, ih1, ih2⟩ := signetrylaw14_spaced.mono_l k
    refine ⟨?_, ?_, ?_⟩
    · intro y0 y1 y2 y3 y4
      unfold signetrylaw14_spaced.f
      repeat' first
      | (with_reducible exact ih0 _ _ _ _ _)
      | (with_reducible exact ih1 _ _ _ _ _ _ _)
      | (with_reducible exact ih2 _ _ _ _ _ _ _)
      | (with_reducible exact jtree_Text.mono _ _ _ _ _)
      | (with_reducible exact LeO.refl _)
      | (with_reducible exact LeO.none _)
      | (with_reducible refine LeO.ite ?_ ?_)
      | (with_reducible refine LeO.bind ?_ (fun _ => ?_))
      | exact ih0 _ _ _ _ _
      | exact ih1 _ _ _ _ _ _ _
      | exact ih2 _ _ _ _ _ _ _
      | exact jtree_Text.mono _ _ _ _ _
      | exact LeO.none _
      | refine LeO.ite ?_ ?_
      | refine LeO.bind ?_ (fun _ => ?_)
    · intro y0 y1 y2 y3 y4 y5 y6
      unfold signetrylaw14_spaced.l0
      repeat' first
      | (with_reducible exact ih0 _ _ _ _ _)
      | (with_reducible exact ih1 _ _ _ _ _ _ _)
      | (with_reducible exact ih2 _ _ _ _ _ _ _)
      | (with_reducible exact jtree_Text.mono _ _ _ _ _)
      | (with_reducible exact LeO.refl _)
      | (with_reducible exact LeO.none _)
      | (with_reducible refine LeO.ite ?_ ?_)
      | (with_reducible refine LeO.bind ?_ (fun _ => ?_))
      | exact ih0 _ _ _ _ _
      | exact ih1 _ _ _ _ _ _ _
      | exact ih2 _ _ _ _ _ _ _
      | exact jtree_Text.mono _ _ _ _ _
      | exact LeO.none _
      | refine LeO.ite ?_ ?_
      | refine LeO.bind ?_ (fun _ => ?_)
    · intro y0 y1 y2 y3 y4 y5 y6
      unfold signetrylaw14_spaced.j1
      repeat' first
      | (with_reducible exact ih0 _ _ _ _ _)
      | (with_reducible exact ih1 _ _ _ _ _ _ _)
      | (with_reducible exact ih2 _ _ _ _ _ _ _)
      | (with_reducible exact jtree_Text.mono _ _ _ _ _)
      | (with_reducible exact LeO.refl _)
      | (with_reducible exact LeO.none _)
      | (with_reducible refine LeO.ite ?_ ?_)
      | (with_reducible refine LeO.bind ?_ (fun _ => ?_))
      | exact ih0 _ _ _ _ _
      | exact ih1 _ _ _ _ _ _ _
      | exact ih2 _ _ _ _ _ _ _
      | exact jtree_Text.mono _ _ _ _ _
      | exact LeO.none _
      | refine LeO.ite ?_ ?_
      | refine LeO.bind ?_ (fun _ => ?_)
theorem signetrylaw14_spaced.mono : ∀ a0 a1 a2 a3 a4 k, LeO (signetrylaw14_spaced.f k a0 a1 a2 a3 a4) (signetrylaw14_spaced.f (k + 1) a0 a1 a2 a3 a4) := by
  intro a0 a1 a2 a3 a4 k
  obtain ⟨ih0, ih1, ih2⟩ := signetrylaw14_spaced.mono_l k
  exact ih0 a0 a1 a2 a3 a4
set_option maxHeartbeats 8000000 in
set_option maxRecDepth 100000 in
theorem signetrylaw14_spaced.calls (k : Nat) : ∀ (a0_0 : Int) (a0_1 : ByteArray) (A0_2 : Option Addr) (c0_2 : Nat) (l0_2 : List ByteArray) (A0_3 : Option Addr) (c0_3 : Nat) (l0_3 : List (S28)) (a1 : ByteArray) (r : ByteArray) (w : World) (hr0_2 : Kd.C Kd.string w A0_2 l0_2.length l0_2) (hc0_2 : l0_2.length ≤ c0_2) (hr0_3 : Kd.C k28 w A0_3 l0_3.length l0_3) (hc0_3 : l0_3.length ≤ c0_3) (h : signetrylaw14_spaced.f k a0_0 a0_1 l0_2 l0_3 a1 = some r) (HTB_ : Tabs w),
    Calls Tryz.prog 26 #[.agg #[.int .i64 a0_0, .string a0_1, .slice A0_2 l0_2.length c0_2, .slice A0_3 l0_3.length c0_3], .string a1] w fun e w' => e = .returned (.string r) ∧ Below w.heap.size w w' := by
  induction k using Nat.strongRecOn with
  | _ k ih =>
  intro a0_0 a0_1 A0_2 c0_2 l0_2 A0_3 c0_3 l0_3 a1 r w hr0_2 hc0_2 hr0_3 hc0_3 h HTB_
  cases k with
  | zero => exact absurd h (by simp [signetrylaw14_spaced.f])
  | succ k =>
  simp only [signetrylaw14_spaced.f] at h
  have hu28 := Tryz.underlying28
  have HR0_2 := Aside0.mk hr0_2
  have HC0_2 := Aside0.mk hc0_2
  clear hr0_2 hc0_2
  have HR0_3 := Aside0.mk hr0_3
  have HC0_3 := Aside0.mk hc0_3
  clear hr0_3 hc0_3
  have HB := Aside0.mk (Below.refl w.heap.size w)
  have H : (if a0_0 < 6 then ((jtree_Text.f k a0_0 a0_1 l0_2 l0_3).bind fun bt179 => (if a1.size + bt179.1.size ≤ 9223372036854775807 then (if (a1 ++ bt179.1).size + a1.size ≤ 9223372036854775807 then (some ((a1 ++ bt179.1) ++ a1)) else (none)) else (none))) else (signetrylaw14_spaced.l0 k a1 (⟨#[]⟩ : ByteArray) 0 a0_0 a0_1 l0_2 l0_3)) = some r := h
  clear h
  by_cases c3 : a0_0 < 6
  · rw [if_pos c3] at H
    have c3b0 : decide (a0_0 < 6) = true := decide_eq_true c3
    clear c3
    replace H := Option.bind_eq_some_iff.mp H
    obtain ⟨⟨t179, t180⟩, A40, H⟩ := H
    replace H : (if a1.size + t179.size ≤ 9223372036854775807 then (if (a1 ++ t179).size + a1.size ≤ 9223372036854775807 then (some ((a1 ++ t179) ++ a1)) else (none)) else (none)) = some r := H
    have A4 := Aside0.mk A40
    clear A40
    by_cases c5 : a1.size + t179.size ≤ 9223372036854775807
    · rw [if_pos c5] at H
      have c5b0 := eq_true c5
      have c5b1 : decide (a1.size + t179.size ≤ 9223372036854775807) = true := decide_eq_true c5
      try have c5b2 : (9223372036854775807 < a1.size + t179.size) = False := eq_false (Nat.not_lt.2 c5)
      by_cases c6 : (a1 ++ t179).size + a1.size ≤ 9223372036854775807
      · rw [if_pos c6] at H
        have c6b0 := eq_true c6
        have c6b1 : decide ((a1 ++ t179).size + a1.size ≤ 9223372036854775807) = true := decide_eq_true c6
        try have c6b2 : (9223372036854775807 < (a1 ++ t179).size + a1.size) = False := eq_false (Nat.not_lt.2 c6)
        try have c6b4 : (9223372036854775807 < a1.size + t179.size + a1.size) = False := eq_false (Nat.not_lt.2 (by have h_ := c6; simp only [ByteArray.size_append] at h_; exact h_))
        try have c6b5 : (9223372036854775807 < a1.size + t179.size + a1.size) = False := eq_false (Nat.not_lt.2 (by have h_ := c6; simp only [ByteArray.size_append] at h_; exact h_))
        obtain rfl := Option.some.inj H
        go_enter Tryz.func26, Tryz.ntmps26
        go_wp2_with (first | ((with_reducible refine gate_dst (N := 2) rfl ?_); refine box_event ?hg (N := 2) ?hd (cs := #[.int .i64 a0_0, .string a0_1, .slice A0_2 l0_2.length c0_2, .slice A0_3 l0_3.length c0_3]) (t := 28) ?hr ?_; (case hd => rfl); (case hg => rfl); (case hr => first | (go_simp; done) | (go_simp; rfl)); intro gb178 hg w7 hbox hb; have n0_ := Aside0.mk (below_step (by repeat (first | (with_reducible first | exact HB.out | apply below_alloc | apply pw_below_drewN | apply below_drew1) | exact HB.out)) hb); have n1_ := Aside0.mk (hbox); have n2_ := Aside0.mk ((by rw [hg]; exact (below_size (by repeat (first | (with_reducible first | exact HB.out | apply below_alloc | apply pw_below_drewN | apply below_drew1) | exact HB.out))) : w.heap.size ≤ gb178)); have n3_ := Aside0.mk ((by rw [hg]; exact (below_size (by repeat (first | (with_reducible first | exact HB.out | apply below_alloc | apply pw_below_drewN | apply below_drew1) | exact HB.out))) : w.heap.size ≤ gb178)); clear HB; have HB := n0_; have BK178 := n1_; have GW178 := n2_; have GE178 := n3_; clear n0_ n1_ n2_ n3_; clear hb hbox hg; have hcz8_0 : w7.cell? ⟨gb178, 0, none⟩ = some (.int .i64 a0_0) := (blk_cell BK178.out 0).trans rfl; have hcz8_1 : w7.cell? ⟨gb178, 1, none⟩ = some (.string a0_1) := (blk_cell BK178.out 1).trans rfl; have hcz8_2 : w7.cell? ⟨gb178, 2, none⟩ = some (.slice A0_2 l0_2.length c0_2) := (blk_cell BK178.out 2).trans rfl; have hcz8_3 : w7.cell? ⟨gb178, 3, none⟩ = some (.slice A0_3 l0_3.length c0_3) := (blk_cell BK178.out 3).trans rfl; have hfz8_0 := blk_frozen BK178.out 0; have hfz8_1 := blk_frozen BK178.out 1; have hfz8_2 := blk_frozen BK178.out 2; have hfz8_3 := blk_frozen BK178.out 3) | ((with_reducible refine gate_callee (f := 13) rfl ?_); refine goesL_ (some 16) rfl rfl Tryz.func13 (by kernel_rfl) rfl #[.agg #[.int .i64 a0_0, .string a0_1, .slice A0_2 l0_2.length c0_2, .slice A0_3 l0_3.length c0_3]] rfl (by (try simp only [List.map_toArray, List.map_cons, List.map_nil]); first | done | rfl | (simp only [List.length_drop, List.length_take]; rfl)) ?_; (with_reducible refine (jtree_Text.calls k a0_0 a0_1 _ _ l0_2 _ _ l0_3 t179 t180 _ ?side1 ?side2 ?side3 ?side4 A4.out (HTB_.below (by repeat (first | (with_reducible first | exact HB.out | apply below_alloc | apply pw_below_drewN | apply below_drew1 | refine below_set ?_ GE178.out) | exact HB.out)))).mono ?_); (case side1 => repeat (first | exact (Kd.C_below HR0_2.out HB.out) | (with_reducible refine Kd.C_alloc ?_ _) | (with_reducible refine Kd.C_drewN ?_ _) | (with_reducible refine Kd.C_drew ?_))); (case side2 => exact HC0_2.out); (case side3 => repeat (first | exact (Kd.C_below HR0_3.out HB.out) | (with_reducible refine Kd.C_alloc ?_ _) | (with_reducible refine Kd.C_drewN ?_ _) | (with_reducible refine Kd.C_drew ?_))); (case side4 => exact HC0_3.out); rintro e w9 ⟨rfl, hb⟩; refine ⟨_, rfl, ?_⟩; have n0_ := Aside0.mk (blk_below (g := gb178) (o := .cells #[.int .i64 a0_0, .string a0_1, .slice A0_2 l0_2.length c0_2, .slice A0_3 l0_3.length c0_3] 28 (0, 0)) (by (with_reducible repeat (first | refine blk_drewN ?_ _ | refine blk_drew ?_ | refine blk_alloc ?_ _)); exact BK178.out) hb); have n1_ := Aside0.mk (below_step (by repeat (first | (with_reducible first | exact HB.out | apply below_alloc | apply pw_below_drewN | apply below_drew1 | refine below_set ?_ GE178.out) | exact HB.out)) hb); clear BK178; clear HB; have BK178 := n0_; have HB := n1_; clear n0_ n1_; (try clear hb); (try clear hb2); (try clear hk); (try clear hi)))
        go_ret
        exact ⟨by first | rfl | (simp [errW_none, errW_some] <;> rfl) | (simp [*, errW_none, errW_some] <;> rfl), by repeat (first | (with_reducible first | exact HB.out | apply below_alloc | apply pw_below_drewN | apply below_drew1 | refine below_set ?_ GE178.out) | exact HB.out)⟩
      · rw [if_neg c6] at H
        exact absurd H (by simp)
    · rw [if_neg c5] at H
      exact absurd H (by simp)
  · rw [if_neg c3] at H
    have c3b0 : decide (a0_0 < 6) = false := decide_eq_false c3
    clear c3
    have H' := Aside0.mk H
    clear H
    go_enter Tryz.func26, Tryz.ntmps26
    go_wp2_with (first | ((with_reducible refine gate_dst (N := 2) rfl ?_); refine box_event ?hg (N := 2) ?hd (cs := #[.int .i64 a0_0, .string a0_1, .slice A0_2 l0_2.length c0_2, .slice A0_3 l0_3.length c0_3]) (t := 28) ?hr ?_; (case hd => rfl); (case hg => rfl); (case hr => first | (go_simp; done) | (go_simp; rfl)); intro gb178 hg w10 hbox hb; have n0_ := Aside0.mk (below_step (by repeat (first | (with_reducible first | exact HB.out | apply below_alloc | apply pw_below_drewN | apply below_drew1) | exact HB.out)) hb); have n1_ := Aside0.mk (hbox); have n2_ := Aside0.mk ((by rw [hg]; exact (below_size (by repeat (first | (with_reducible first | exact HB.out | apply below_alloc | apply pw_below_drewN | apply below_drew1) | exact HB.out))) : w.heap.size ≤ gb178)); have n3_ := Aside0.mk ((by rw [hg]; exact (below_size (by repeat (first | (with_reducible first | exact HB.out | apply below_alloc | apply pw_below_drewN | apply below_drew1) | exact HB.out))) : w.heap.size ≤ gb178)); clear HB; have HB := n0_; have BK178 := n1_; have GW178 := n2_; have GE178 := n3_; clear n0_ n1_ n2_ n3_; clear hb hbox hg; have hcz11_0 : w10.cell? ⟨gb178, 0, none⟩ = some (.int .i64 a0_0) := (blk_cell BK178.out 0).trans rfl; have hcz11_1 : w10.cell? ⟨gb178, 1, none⟩ = some (.string a0_1) := (blk_cell BK178.out 1).trans rfl; have hcz11_2 : w10.cell? ⟨gb178, 2, none⟩ = some (.slice A0_2 l0_2.length c0_2) := (blk_cell BK178.out 2).trans rfl; have hcz11_3 : w10.cell? ⟨gb178, 3, none⟩ = some (.slice A0_3 l0_3.length c0_3) := (blk_cell BK178.out 3).trans rfl; have hfz11_0 := blk_frozen BK178.out 0; have hfz11_1 := blk_frozen BK178.out 1; have hfz11_2 := blk_frozen BK178.out 2; have hfz11_3 := blk_frozen BK178.out 3))
    go_loopg [7, 8] k (fun kq v7 v8 w' => ∃ (x7_1 : ByteArray) (x8_1 : Int), v7 = .string x7_1 ∧ v8 = .int .i64 x8_1 ∧ Aside0 (signetrylaw14_spaced.l0 kq a1 x7_1 x8_1 a0_0 a0_1 l0_2 l0_3 = some r) ∧ Aside0 (kq ≤ k) ∧ Aside0 (w'.heap[gb178]? = some (.cells #[.int .i64 a0_0, .string a0_1, (.slice A0_2 l0_2.length c0_2), (.slice A0_3 l0_3.length c0_3)] 28 (0, 0))) ∧ Aside0 (Below w.heap.size w w'))
    case atStart => exact ⟨((⟨#[]⟩ : ByteArray)), (0), (by first | rfl | (simp; done) | (simp [*]; done)), (by first | rfl | (simp; done) | (simp [*]; done)), H', ⟨Nat.le_refl _⟩, ⟨by (with_reducible repeat (first | refine blk_drewN ?_ _ | refine blk_drew ?_ | refine blk_alloc ?_ _)); exact BK178.out⟩, ⟨by repeat (first | (with_reducible first | exact HB.out | apply below_alloc | apply pw_below_drewN | apply below_drew1 | refine below_set ?_ GE178.out) | exact HB.out)⟩⟩
    case round =>
      clear H'
      try clear c1
      try clear c2
      try clear p2
      try clear c3
      try clear c3b0
      try clear c5
      try clear c5b0
      try clear c5b1
      try clear c5b2
      try clear c6
      try clear c6b0
      try clear c6b1
      try clear c6b2
      try clear hcz11_0
      try clear hcz11_1
      try clear hcz11_2
      try clear hcz11_3
      try clear hcz8_0
      try clear hcz8_1
      try clear hcz8_2
      try clear hcz8_3
      try clear hfz11_0
      try clear hfz11_1
      try clear hfz11_2
      try clear hfz11_3
      try clear hfz8_0
      try clear hfz8_1
      try clear hfz8_2
      try clear hfz8_3
      obtain ⟨x7_1, x8_1, rfl, rfl, HA, HK1, BK178, HB⟩ := hrel
      cases gk with
      | zero => exact absurd HA.out (by simp [signetrylaw14_spaced.l0])
      | succ k1 =>
        have H := HA.out
        clear HA
        simp only [signetrylaw14_spaced.l0] at H
        by_cases c12 : x8_1 < (l0_3.length : Int)
        · rw [if_pos c12] at H
          have c12b0 : decide (x8_1 < (l0_3.length : Int)) = true := decide_eq_true c12
          clear c12
          have HC13 := Aside0.mk H
          clear H
          have hcz14_0 : wr.cell? ⟨gb178, 0, none⟩ = some (.int .i64 a0_0) := (blk_cell BK178.out 0).trans rfl
          have hcz14_1 : wr.cell? ⟨gb178, 1, none⟩ = some (.string a0_1) := (blk_cell BK178.out 1).trans rfl
          have hcz14_2 : wr.cell? ⟨gb178, 2, none⟩ = some (.slice A0_2 l0_2.length c0_2) := (blk_cell BK178.out 2).trans rfl
          have hcz14_3 : wr.cell? ⟨gb178, 3, none⟩ = some (.slice A0_3 l0_3.length c0_3) := (blk_cell BK178.out 3).trans rfl
          have hfz14_0 := blk_frozen BK178.out 0
          have hfz14_1 := blk_frozen BK178.out 1
          have hfz14_2 := blk_frozen BK178.out 2
          have hfz14_3 := blk_frozen BK178.out 3
          go_upto_if 32 with (fail)
          go_cut [7] (fun v7 wc => ∃ (kq : Nat) (x7_12 : ByteArray), v7 = .string x7_12 ∧ Aside0 (signetrylaw14_spaced.j1 kq a1 x7_12 x8_1 a0_0 a0_1 l0_2 l0_3 = some r) ∧ Aside0 (kq ≤ k1) ∧ Aside0 (wc.heap[gb178]? = some (.cells #[.int .i64 a0_0, .string a0_1, (.slice A0_2 l0_2.length c0_2), (.slice A0_3 l0_3.length c0_3)] 28 (0, 0))) ∧ Aside0 (Below w.heap.size w wc))
          case first =>
            have H := HC13.out
            clear HC13
            by_cases c15 : x8_1 > 0
            · rw [if_pos c15] at H
              have c15b0 : decide (0 < x8_1) = true := decide_eq_true c15
              clear c15
              (first | rw [c15b0] | (simp only [i64_w, i32_w]; rw [c15b0]) | skip)
              by_cases c16 : x7_1.size + 1 ≤ 9223372036854775807
              · rw [if_pos c16] at H
                have c16b0 := eq_true c16
                have c16b1 : decide (x7_1.size + 1 ≤ 9223372036854775807) = true := decide_eq_true c16
                try have c16b2 : (9223372036854775807 < x7_1.size + 1) = False := eq_false (Nat.not_lt.2 c16)
                have H' := Aside0.mk H
                clear H
                go_wp2
                go_meet
                case rel => exact ⟨_, (x7_1 ++ (⟨#[44]⟩ : ByteArray)), (by first | rfl | (simp; done) | (simp [*]; done)), H', ⟨by have := HK1.out; first | omega | exact Nat.le_refl _⟩, ⟨by (with_reducible repeat (first | refine blk_drewN ?_ _ | refine blk_drew ?_ | refine blk_alloc ?_ _)); exact BK178.out⟩, ⟨by repeat (first | (with_reducible first | exact HB.out | apply below_alloc | apply pw_below_drewN | apply below_drew1 | refine below_set ?_ GE178.out) | exact HB.out)⟩⟩
              · rw [if_neg c16] at H
                exact absurd H (by simp)
            · rw [if_neg c15] at H
              have c15b0 : decide (0 < x8_1) = false := decide_eq_false c15
              clear c15
              (first | rw [c15b0] | (simp only [i64_w, i32_w]; rw [c15b0]) | skip)
              have H' := Aside0.mk H
              clear H
              go_wp2
              go_meet
              case rel => exact ⟨_, (x7_1), (by first | rfl | (simp; done) | (simp [*]; done)), H', ⟨by have := HK1.out; first | omega | exact Nat.le_refl _⟩, ⟨by (with_reducible repeat (first | refine blk_drewN ?_ _ | refine blk_drew ?_ | refine blk_alloc ?_ _)); exact BK178.out⟩, ⟨by repeat (first | (with_reducible first | exact HB.out | apply below_alloc | apply pw_below_drewN | apply below_drew1 | refine below_set ?_ GE178.out) | exact HB.out)⟩⟩
          case rest =>
            clear HC13
            try clear c1
            try clear c2
            try clear p2
            try clear c3
            try clear c3b0
            try clear c5
            try clear c5b0
            try clear c5b1
            try clear c5b2
            try clear c6
            try clear c6b0
            try clear c6b1
            try clear c6b2
            try clear c12
            try clear c12b0
            try clear c13
            try clear c15
            try clear c15b0
            try clear c16
            try clear c16b0
            try clear c16b1
            try clear c16b2
            try clear hcz11_0
            try clear hcz11_1
            try clear hcz11_2
            try clear hcz11_3
            try clear hcz14_0
            try clear hcz14_1
            try clear hcz14_2
            try clear hcz14_3
            try clear hcz8_0
            try clear hcz8_1
            try clear hcz8_2
            try clear hcz8_3
            try clear hfz11_0
            try clear hfz11_1
            try clear hfz11_2
            try clear hfz11_3
            try clear hfz14_0
            try clear hfz14_1
            try clear hfz14_2
            try clear hfz14_3
            try clear hfz8_0
            try clear hfz8_1
            try clear hfz8_2
            try clear hfz8_3
            try clear p2
            obtain ⟨kq, x7_12, rfl, HA, HJ12, BK178, HB⟩ := hcut
            cases kq with
            | zero => exact absurd HA.out (by simp [signetrylaw14_spaced.j1])
            | succ kj12 =>
              have H := HA.out
              clear HA
              simp only [signetrylaw14_spaced.j1] at H
              by_cases c17 : a0_0 = 7
              · rw [if_pos c17] at H
                have c17b0 : (a0_0 == 7) = true := beq_iff_eq.mpr c17
                have c17b1 : (a0_0 != 7) = false := bne_eq_false_iff_eq.mpr c17
                clear c17
                by_cases c18 : 0 ≤ x8_1
                · rw [if_pos c18] at H
                  have c18b0 : decide (0 ≤ x8_1) = true := decide_eq_true c18
                  clear c18
                  by_cases c19 : x8_1 < (l0_2.length : Int)
                  · rw [if_pos c19] at H
                    have c19b0 : decide (x8_1 < (l0_2.length : Int)) = true := decide_eq_true c19
                    clear c19
                    replace H := Option.bind_eq_some_iff.mp H
                    obtain ⟨⟨t182, t183⟩, A200, H⟩ := H
                    replace H : (if x7_12.size + a1.size ≤ 9223372036854775807 then (if (x7_12 ++ a1).size + t182.size ≤ 9223372036854775807 then (if ((x7_12 ++ a1) ++ t182).size + a1.size ≤ 9223372036854775807 then (if (((x7_12 ++ a1) ++ t182) ++ a1).size + 1 ≤ 9223372036854775807 then (if x8_1 < (l0_3.length : Int) then ((signetrylaw14_spaced.f kj12 ((rd_T28 l0_3 x8_1).f0) ((rd_T28 l0_3 x8_1).f1) ((rd_T28 l0_3 x8_1).f2) ((rd_T28 l0_3 x8_1).f3) a1).bind fun t185 => (if ((((x7_12 ++ a1) ++ t182) ++ a1) ++ (⟨#[58]⟩ : ByteArray)).size + t185.size ≤ 9223372036854775807 then (signetrylaw14_spaced.l0 kj12 a1 (((((x7_12 ++ a1) ++ t182) ++ a1) ++ (⟨#[58]⟩ : ByteArray)) ++ t185) (wrap64 (x8_1 + 1)) a0_0 a0_1 l0_2 l0_3) else (none))) else (none)) else (none)) else (none)) else (none)) else (none)) = some r := H
                    have A20 := Aside0.mk A200
                    clear A200
                    by_cases c21 : x7_12.size + a1.size ≤ 9223372036854775807
                    · rw [if_pos c21] at H
                      have c21b0 := eq_true c21
                      have c21b1 : decide (x7_12.size + a1.size ≤ 9223372036854775807) = true := decide_eq_true c21
                      try have c21b2 : (9223372036854775807 < x7_12.size + a1.size) = False := eq_false (Nat.not_lt.2 c21)
                      by_cases c22 : (x7_12 ++ a1).size + t182.size ≤ 9223372036854775807
                      · rw [if_pos c22] at H
                        have c22b0 := eq_true c22
                        have c22b1 : decide ((x7_12 ++ a1).size + t182.size ≤ 9223372036854775807) = true := decide_eq_true c22
                        try have c22b2 : (9223372036854775807 < (x7_12 ++ a1).size + t182.size) = False := eq_false (Nat.not_lt.2 c22)
                        try have c22b4 : (9223372036854775807 < x7_12.size + a1.size + t182.size) = False := eq_false (Nat.not_lt.2 (by have h_ := c22; simp only [ByteArray.size_append] at h_; exact h_))
                        try have c22b5 : (9223372036854775807 < x7_12.size + a1.size + t182.size) = False := eq_false (Nat.not_lt.2 (by have h_ := c22; simp only [ByteArray.size_append] at h_; exact h_))
                        by_cases c23 : ((x7_12 ++ a1) ++ t182).size + a1.size ≤ 9223372036854775807
                        · rw [if_pos c23] at H
                          have c23b0 := eq_true c23
                          have c23b1 : decide (((x7_12 ++ a1) ++ t182).size + a1.size ≤ 9223372036854775807) = true := decide_eq_true c23
                          try have c23b2 : (9223372036854775807 < ((x7_12 ++ a1) ++ t182).size + a1.size) = False := eq_false (Nat.not_lt.2 c23)
                          try have c23b4 : (9223372036854775807 < x7_12.size + a1.size + t182.size + a1.size) = False := eq_false (Nat.not_lt.2 (by have h_ := c23; simp only [ByteArray.size_append] at h_; exact h_))
                          try have c23b5 : (9223372036854775807 < x7_12.size + a1.size + t182.size + a1.size) = False := eq_false (Nat.not_lt.2 (by have h_ := c23; simp only [ByteArray.size_append] at h_; exact h_))
                          by_cases c24 : (((x7_12 ++ a1) ++ t182) ++ a1).size + 1 ≤ 9223372036854775807
                          · rw [if_pos c24] at H
                            have c24b0 := eq_true c24
                            have c24b1 : decide ((((x7_12 ++ a1) ++ t182) ++ a1).size + 1 ≤ 9223372036854775807) = true := decide_eq_true c24
                            try have c24b2 : (9223372036854775807 < (((x7_12 ++ a1) ++ t182) ++ a1).size + 1) = False := eq_false (Nat.not_lt.2 c24)
                            try have c24b4 : (9223372036854775807 < x7_12.size + a1.size + t182.size + a1.size + 1) = False := eq_false (Nat.not_lt.2 (by have h_ := c24; simp only [ByteArray.size_append] at h_; exact h_))
                            try have c24b5 : (9223372036854775807 < x7_12.size + a1.size + t182.size + a1.size + 1) = False := eq_false (Nat.not_lt.2 (by have h_ := c24; simp only [ByteArray.size_append] at h_; exact h_))
                            by_cases c25 : x8_1 < (l0_3.length : Int)
                            · rw [if_pos c25] at H
                              have c25b0 : decide (x8_1 < (l0_3.length : Int)) = true := decide_eq_true c25
                              clear c25
                              replace H := Option.bind_eq_some_iff.mp H
                              obtain ⟨t185, A260, H⟩ := H
                              replace H : (if ((((x7_12 ++ a1) ++ t182) ++ a1) ++ (⟨#[58]⟩ : ByteArray)).size + t185.size ≤ 9223372036854775807 then (signetrylaw14_spaced.l0 kj12 a1 (((((x7_12 ++ a1) ++ t182) ++ a1) ++ (⟨#[58]⟩ : ByteArray)) ++ t185) (wrap64 (x8_1 + 1)) a0_0 a0_1 l0_2 l0_3) else (none)) = some r := H
                              have A26 := Aside0.mk A260
                              clear A260
                              by_cases c27 : ((((x7_12 ++ a1) ++ t182) ++ a1) ++ (⟨#[58]⟩ : ByteArray)).size + t185.size ≤ 9223372036854775807
                              · rw [if_pos c27] at H
                                have c27b0 := eq_true c27
                                have c27b1 : decide (((((x7_12 ++ a1) ++ t182) ++ a1) ++ (⟨#[58]⟩ : ByteArray)).size + t185.size ≤ 9223372036854775807) = true := decide_eq_true c27
                                try have c27b2 : (9223372036854775807 < ((((x7_12 ++ a1) ++ t182) ++ a1) ++ (⟨#[58]⟩ : ByteArray)).size + t185.size) = False := eq_false (Nat.not_lt.2 c27)
                                try have c27b4 : (9223372036854775807 < x7_12.size + a1.size + t182.size + a1.size + (⟨#[58]⟩ : ByteArray).size + t185.size) = False := eq_false (Nat.not_lt.2 (by have h_ := c27; simp only [ByteArray.size_append] at h_; exact h_))
                                try have c27b5 : (9223372036854775807 < x7_12.size + a1.size + t182.size + a1.size + 1 + t185.size) = False := eq_false (Nat.not_lt.2 (by have h_ := c27; simp only [ByteArray.size_append] at h_; exact h_))
                                try have c27b3 : (9223372036854775807 < (((x7_12 ++ a1) ++ t182) ++ a1).size + (⟨#[58]⟩ : ByteArray).size + t185.size) = False := by rw [← ByteArray.size_append]; exact c27b2
                                have H' := Aside0.mk H
                                clear H
                                have hcz28_0 : wc.cell? ⟨gb178, 0, none⟩ = some (.int .i64 a0_0) := (blk_cell BK178.out 0).trans rfl
                                have hcz28_1 : wc.cell? ⟨gb178, 1, none⟩ = some (.string a0_1) := (blk_cell BK178.out 1).trans rfl
                                have hcz28_2 : wc.cell? ⟨gb178, 2, none⟩ = some (.slice A0_2 l0_2.length c0_2) := (blk_cell BK178.out 2).trans rfl
                                have hcz28_3 : wc.cell? ⟨gb178, 3, none⟩ = some (.slice A0_3 l0_3.length c0_3) := (blk_cell BK178.out 3).trans rfl
                                have hfz28_0 := blk_frozen BK178.out 0
                                have hfz28_1 := blk_frozen BK178.out 1
                                have hfz28_2 := blk_frozen BK178.out 2
                                have hfz28_3 := blk_frozen BK178.out 3
                                have p181 : 0 ≤ (x8_1 : Int) := of_decide_eq_true (by first | (with_reducible assumption) | assumption)
                                have q181 : x8_1 < (l0_2.length : Int) := of_decide_eq_true (by first | (with_reducible assumption) | assumption)
                                obtain ⟨ad181, e181, hx181_0⟩ := Kd.at_string HR0_2.out x8_1 p181 q181
                                cases e181
                                replace hx181_0 := (HB.out.cell (World.block_lt_of_cell? w _ hx181_0)).trans hx181_0
                                replace p181 := eq_true p181
                                replace q181 := eq_true q181
                                go_wp2_with (first | ((with_reducible refine gate_callee (f := 13) rfl ?_); refine goesL_ (some 45) rfl rfl Tryz.func13 (by kernel_rfl) rfl #[.agg #[.int .i64 5, .string (rdOf ByteArray.empty l0_2 x8_1), .slice none 0 0, .slice none 0 0]] rfl (by (try simp only [List.map_toArray, List.map_cons, List.map_nil]); first | done | rfl | (simp only [List.length_drop, List.length_take]; rfl)) ?_; (refine (jtree_Text.calls kj12 5 (rdOf ByteArray.empty l0_2 x8_1) _ _ ([] : List ByteArray) _ _ ([] : List (S28)) t182 t183 _ ?side1 ?side2 ?side3 ?side4 A20.out (HTB_.below (by repeat (first | (with_reducible first | exact HB.out | apply below_alloc | apply pw_below_drewN | apply below_drew1 | refine below_set ?_ GE178.out) | exact HB.out)))).mono ?_); (case side1 => exact Kd.C_nil _ _); (case side2 => exact Nat.le_refl _); (case side3 => exact Kd.C_nil _ _); (case side4 => exact Nat.le_refl _); rintro e w29 ⟨rfl, hb⟩; refine ⟨_, rfl, ?_⟩; have n0_ := Aside0.mk (blk_below (g := gb178) (o := .cells #[.int .i64 a0_0, .string a0_1, .slice (some ad181) l0_2.length c0_2, .slice A0_3 l0_3.length c0_3] 28 (0, 0)) (by (with_reducible repeat (first | refine blk_drewN ?_ _ | refine blk_drew ?_ | refine blk_alloc ?_ _)); exact BK178.out) hb); have n1_ := Aside0.mk (below_step (by repeat (first | (with_reducible first | exact HB.out | apply below_alloc | apply pw_below_drewN | apply below_drew1 | refine below_set ?_ GE178.out) | exact HB.out)) hb); clear BK178; clear HB; have BK178 := n0_; have HB := n1_; clear n0_ n1_; (try clear hb); (try clear hb2); (try clear hk); (try clear hi); have hcz30_0 : w29.cell? ⟨gb178, 0, none⟩ = some (.int .i64 a0_0) := (blk_cell BK178.out 0).trans rfl; have hcz30_1 : w29.cell? ⟨gb178, 1, none⟩ = some (.string a0_1) := (blk_cell BK178.out 1).trans rfl; have hcz30_2 : w29.cell? ⟨gb178, 2, none⟩ = some (.slice (some ad181) l0_2.length c0_2) := (blk_cell BK178.out 2).trans rfl; have hcz30_3 : w29.cell? ⟨gb178, 3, none⟩ = some (.slice A0_3 l0_3.length c0_3) := (blk_cell BK178.out 3).trans rfl; have hfz30_0 := blk_frozen BK178.out 0; have hfz30_1 := blk_frozen BK178.out 1; have hfz30_2 := blk_frozen BK178.out 2; have hfz30_3 := blk_frozen BK178.out 3; have p184 : 0 ≤ (x8_1 : Int) := of_decide_eq_true (by first | (with_reducible assumption) | assumption); have q184 : x8_1 < (l0_3.length : Int) := of_decide_eq_true (by first | (with_reducible assumption) | assumption); obtain ⟨ad184, A184_2, c184_2, A184_3, c184_3, e184, hx184_0, hx184_1, hx184_2, hx184_3, hl184_2, hi184_2, hl184_3, hi184_3⟩ := at_T28 HR0_3.out x8_1 p184 q184; cases e184; replace hx184_0 := (HB.out.cell (World.block_lt_of_cell? w _ hx184_0)).trans hx184_0; replace hx184_1 := (HB.out.cell (World.block_lt_of_cell? w _ hx184_1)).trans hx184_1; replace hx184_2 := (HB.out.cell (World.block_lt_of_cell? w _ hx184_2)).trans hx184_2; replace hx184_3 := (HB.out.cell (World.block_lt_of_cell? w _ hx184_3)).trans hx184_3; have HR184_2 := Aside0.mk hi184_2; have HC184_2 := Aside0.mk hl184_2; clear hi184_2 hl184_2; have HR184_3 := Aside0.mk hi184_3; have HC184_3 := Aside0.mk hl184_3; clear hi184_3 hl184_3; replace p184 := eq_true p184; replace q184 := eq_true q184) | ((with_reducible refine gate_callee (f := 26) rfl ?_); refine goesL_ (some 63) rfl rfl Tryz.func26 (by kernel_rfl) rfl #[.agg #[.int .i64 ((rd_T28 l0_3 x8_1).f0), .string ((rd_T28 l0_3 x8_1).f1), .slice A184_2 ((rd_T28 l0_3 x8_1).f2).length c184_2, .slice A184_3 ((rd_T28 l0_3 x8_1).f3).length c184_3], .string a1] rfl (by (try simp only [List.map_toArray, List.map_cons, List.map_nil]); first | done | rfl | (simp only [List.length_drop, List.length_take]; rfl)) ?_; (with_reducible refine (ih kj12 (by have := HK1.out; have := HJ12.out; omega) ((rd_T28 l0_3 x8_1).f0) ((rd_T28 l0_3 x8_1).f1) _ _ ((rd_T28 l0_3 x8_1).f2) _ _ ((rd_T28 l0_3 x8_1).f3) a1 t185 _ ?side1 ?side2 ?side3 ?side4 A26.out (HTB_.below (by repeat (first | (with_reducible first | exact HB.out | apply below_alloc | apply pw_below_drewN | apply below_drew1 | refine below_set ?_ GE178.out) | exact HB.out)))).mono ?_); (case side1 => repeat (first | exact (Kd.C_below HR184_2.out HB.out) | (with_reducible refine Kd.C_alloc ?_ _) | (with_reducible refine Kd.C_drewN ?_ _) | (with_reducible refine Kd.C_drew ?_))); (case side2 => exact HC184_2.out); (case side3 => repeat (first | exact (Kd.C_below HR184_3.out HB.out) | (with_reducible refine Kd.C_alloc ?_ _) | (with_reducible refine Kd.C_drewN ?_ _) | (with_reducible refine Kd.C_drew ?_))); (case side4 => exact HC184_3.out); rintro e w31 ⟨rfl, hb⟩; refine ⟨_, rfl, ?_⟩; have n0_ := Aside0.mk (blk_below (g := gb178) (o := .cells #[.int .i64 a0_0, .string a0_1, .slice (some ad181) l0_2.length c0_2, .slice (some ad184) l0_3.length c0_3] 28 (0, 0)) (by (with_reducible repeat (first | refine blk_drewN ?_ _ | refine blk_drew ?_ | refine blk_alloc ?_ _)); exact BK178.out) hb); have n1_ := Aside0.mk (below_step (by repeat (first | (with_reducible first | exact HB.out | apply below_alloc | apply pw_below_drewN | apply below_drew1 | refine below_set ?_ GE178.out) | exact HB.out)) hb); clear BK178; clear HB; have BK178 := n0_; have HB := n1_; clear n0_ n1_; (try clear hb); (try clear hb2); (try clear hk); (try clear hi)))
                                go_roundg kj12
                                case measure => have := HK1.out; have := HJ12.out; omega
                                case rel => exact ⟨(((((x7_12 ++ a1) ++ t182) ++ a1) ++ (⟨#[58]⟩ : ByteArray)) ++ t185), (wrap64 (x8_1 + 1)), (by first | rfl | (simp; done) | (simp [*]; done)), (by first | rfl | (simp; done) | (simp [*]; done)), H', ⟨by have := HK1.out; have := HJ12.out; omega⟩, ⟨by (with_reducible repeat (first | refine blk_drewN ?_ _ | refine blk_drew ?_ | refine blk_alloc ?_ _)); exact BK178.out⟩, ⟨by repeat (first | (with_reducible first | exact HB.out | apply below_alloc | apply pw_below_drewN | apply below_drew1 | refine below_set ?_ GE178.out) | exact HB.out)⟩⟩
                              · rw [if_neg c27] at H
                                exact absurd H (by simp)
                            · rw [if_neg c25] at H
                              exact absurd H (by simp)
                          · rw [if_neg c24] at H
                            exact absurd H (by simp)
                        · rw [if_neg c23] at H
                          exact absurd H (by simp)
                      · rw [if_neg c22] at H
                        exact absurd H (by simp)
                    · rw [if_neg c21] at H
                      exact absurd H (by simp)
                  · rw [if_neg c19] at H
                    exact absurd H (by simp)
                · rw [if_neg c18] at H
                  exact absurd H (by simp)
              · rw [if_neg c17] at H
                have c17b0 : (a0_0 == 7) = false := beq_eq_false_iff_ne.mpr c17
                have c17b1 : (a0_0 != 7) = true := bne_iff_ne.mpr c17
                by_cases c32 : 0 ≤ x8_1
                · rw [if_pos c32] at H
                  have c32b0 : decide (0 ≤ x8_1) = true := decide_eq_true c32
                  clear c32
                  by_cases c33 : x8_1 < (l0_3.length : Int)
                  · rw [if_pos c33] at H
                    have c33b0 : decide (x8_1 < (l0_3.length : Int)) = true := decide_eq_true c33
                    clear c33
                    replace H := Option.bind_eq_some_iff.mp H
                    obtain ⟨t187, A340, H⟩ := H
                    replace H : (if x7_12.size + t187.size ≤ 9223372036854775807 then (signetrylaw14_spaced.l0 kj12 a1 (x7_12 ++ t187) (wrap64 (x8_1 + 1)) a0_0 a0_1 l0_2 l0_3) else (none)) = some r := H
                    have A34 := Aside0.mk A340
                    clear A340
                    by_cases c35 : x7_12.size + t187.size ≤ 9223372036854775807
                    · rw [if_pos c35] at H
                      have c35b0 := eq_true c35
                      have c35b1 : decide (x7_12.size + t187.size ≤ 9223372036854775807) = true := decide_eq_true c35
                      try have c35b2 : (9223372036854775807 < x7_12.size + t187.size) = False := eq_false (Nat.not_lt.2 c35)
                      have H' := Aside0.mk H
                      clear H
                      have hcz36_0 : wc.cell? ⟨gb178, 0, none⟩ = some (.int .i64 a0_0) := (blk_cell BK178.out 0).trans rfl
                      have hcz36_1 : wc.cell? ⟨gb178, 1, none⟩ = some (.string a0_1) := (blk_cell BK178.out 1).trans rfl
                      have hcz36_2 : wc.cell? ⟨gb178, 2, none⟩ = some (.slice A0_2 l0_2.length c0_2) := (blk_cell BK178.out 2).trans rfl
                      have hcz36_3 : wc.cell? ⟨gb178, 3, none⟩ = some (.slice A0_3 l0_3.length c0_3) := (blk_cell BK178.out 3).trans rfl
                      have hfz36_0 := blk_frozen BK178.out 0
                      have hfz36_1 := blk_frozen BK178.out 1
                      have hfz36_2 := blk_frozen BK178.out 2
                      have hfz36_3 := blk_frozen BK178.out 3
                      have p186 : 0 ≤ (x8_1 : Int) := of_decide_eq_true (by first | (with_reducible assumption) | assumption)
                      have q186 : x8_1 < (l0_3.length : Int) := of_decide_eq_true (by first | (with_reducible assumption) | assumption)
                      obtain ⟨ad186, A186_2, c186_2, A186_3, c186_3, e186, hx186_0, hx186_1, hx186_2, hx186_3, hl186_2, hi186_2, hl186_3, hi186_3⟩ := at_T28 HR0_3.out x8_1 p186 q186
                      cases e186
                      replace hx186_0 := (HB.out.cell (World.block_lt_of_cell? w _ hx186_0)).trans hx186_0
                      replace hx186_1 := (HB.out.cell (World.block_lt_of_cell? w _ hx186_1)).trans hx186_1
                      replace hx186_2 := (HB.out.cell (World.block_lt_of_cell? w _ hx186_2)).trans hx186_2
                      replace hx186_3 := (HB.out.cell (World.block_lt_of_cell? w _ hx186_3)).trans hx186_3
                      have HR186_2 := Aside0.mk hi186_2
                      have HC186_2 := Aside0.mk hl186_2
                      clear hi186_2 hl186_2
                      have HR186_3 := Aside0.mk hi186_3
                      have HC186_3 := Aside0.mk hl186_3
                      clear hi186_3 hl186_3
                      replace p186 := eq_true p186
                      replace q186 := eq_true q186
                      go_wp2_with (first | ((with_reducible refine gate_callee (f := 26) rfl ?_); refine goesL_ (some 63) rfl rfl Tryz.func26 (by kernel_rfl) rfl #[.agg #[.int .i64 ((rd_T28 l0_3 x8_1).f0), .string ((rd_T28 l0_3 x8_1).f1), .slice A186_2 ((rd_T28 l0_3 x8_1).f2).length c186_2, .slice A186_3 ((rd_T28 l0_3 x8_1).f3).length c186_3], .string a1] rfl (by (try simp only [List.map_toArray, List.map_cons, List.map_nil]); first | done | rfl | (simp only [List.length_drop, List.length_take]; rfl)) ?_; (with_reducible refine (ih kj12 (by have := HK1.out; have := HJ12.out; omega) ((rd_T28 l0_3 x8_1).f0) ((rd_T28 l0_3 x8_1).f1) _ _ ((rd_T28 l0_3 x8_1).f2) _ _ ((rd_T28 l0_3 x8_1).f3) a1 t187 _ ?side1 ?side2 ?side3 ?side4 A34.out (HTB_.below (by repeat (first | (with_reducible first | exact HB.out | apply below_alloc | apply pw_below_drewN | apply below_drew1 | refine below_set ?_ GE178.out) | exact HB.out)))).mono ?_); (case side1 => repeat (first | exact (Kd.C_below HR186_2.out HB.out) | (with_reducible refine Kd.C_alloc ?_ _) | (with_reducible refine Kd.C_drewN ?_ _) | (with_reducible refine Kd.C_drew ?_))); (case side2 => exact HC186_2.out); (case side3 => repeat (first | exact (Kd.C_below HR186_3.out HB.out) | (with_reducible refine Kd.C_alloc ?_ _) | (with_reducible refine Kd.C_drewN ?_ _) | (with_reducible refine Kd.C_drew ?_))); (case side4 => exact HC186_3.out); rintro e w37 ⟨rfl, hb⟩; refine ⟨_, rfl, ?_⟩; have n0_ := Aside0.mk (blk_below (g := gb178) (o := .cells #[.int .i64 a0_0, .string a0_1, .slice A0_2 l0_2.length c0_2, .slice (some ad186) l0_3.length c0_3] 28 (0, 0)) (by (with_reducible repeat (first | refine blk_drewN ?_ _ | refine blk_drew ?_ | refine blk_alloc ?_ _)); exact BK178.out) hb); have n1_ := Aside0.mk (below_step (by repeat (first | (with_reducible first | exact HB.out | apply below_alloc | apply pw_below_drewN | apply below_drew1 | refine below_set ?_ GE178.out) | exact HB.out)) hb); clear BK178; clear HB; have BK178 := n0_; have HB := n1_; clear n0_ n1_; (try clear hb); (try clear hb2); (try clear hk); (try clear hi)))
                      go_roundg kj12
                      case measure => have := HK1.out; have := HJ12.out; omega
                      case rel => exact ⟨(x7_12 ++ t187), (wrap64 (x8_1 + 1)), (by first | rfl | (simp; done) | (simp [*]; done)), (by first | rfl | (simp; done) | (simp [*]; done)), H', ⟨by have := HK1.out; have := HJ12.out; omega⟩, ⟨by (with_reducible repeat (first | refine blk_drewN ?_ _ | refine blk_drew ?_ | refine blk_alloc ?_ _)); exact BK178.out⟩, ⟨by repeat (first | (with_reducible first | exact HB.out | apply below_alloc | apply pw_below_drewN | apply below_drew1 | refine below_set ?_ GE178.out) | exact HB.out)⟩⟩
                    · rw [if_neg c35] at H
                      exact absurd H (by simp)
                  · rw [if_neg c33] at H
                    exact absurd H (by simp)
                · rw [if_neg c32] at H
                  exact absurd H (by simp)
        · rw [if_neg c12] at H
          have c12b0 : decide (x8_1 < (l0_3.length : Int)) = false := decide_eq_false c12
          clear c12
          by_cases c38 : a0_0 = 6
          · rw [if_pos c38] at H
            have c38b0 : (a0_0 == 6) = true := beq_iff_eq.mpr c38
            have c38b1 : (a0_0 != 6) = false := bne_eq_false_iff_eq.mpr c38
            clear c38
            by_cases c39 : a1.size + 1 ≤ 9223372036854775807
            · rw [if_pos c39] at H
              have c39b0 := eq_true c39
              have c39b1 : decide (a1.size + 1 ≤ 9223372036854775807) = true := decide_eq_true c39
              try have c39b2 : (9223372036854775807 < a1.size + 1) = False := eq_false (Nat.not_lt.2 c39)
              by_cases c40 : (a1 ++ (⟨#[91]⟩ : ByteArray)).size + a1.size ≤ 9223372036854775807
              · rw [if_pos c40] at H
                have c40b0 := eq_true c40
                have c40b1 : decide ((a1 ++ (⟨#[91]⟩ : ByteArray)).size + a1.size ≤ 9223372036854775807) = true := decide_eq_true c40
                try have c40b2 : (9223372036854775807 < (a1 ++ (⟨#[91]⟩ : ByteArray)).size + a1.size) = False := eq_false (Nat.not_lt.2 c40)
                try have c40b4 : (9223372036854775807 < a1.size + (⟨#[91]⟩ : ByteArray).size + a1.size) = False := eq_false (Nat.not_lt.2 (by have h_ := c40; simp only [ByteArray.size_append] at h_; exact h_))
                try have c40b5 : (9223372036854775807 < a1.size + 1 + a1.size) = False := eq_false (Nat.not_lt.2 (by have h_ := c40; simp only [ByteArray.size_append] at h_; exact h_))
                by_cases c41 : ((a1 ++ (⟨#[91]⟩ : ByteArray)) ++ a1).size + x7_1.size ≤ 9223372036854775807
                · rw [if_pos c41] at H
                  have c41b0 := eq_true c41
                  have c41b1 : decide (((a1 ++ (⟨#[91]⟩ : ByteArray)) ++ a1).size + x7_1.size ≤ 9223372036854775807) = true := decide_eq_true c41
                  try have c41b2 : (9223372036854775807 < ((a1 ++ (⟨#[91]⟩ : ByteArray)) ++ a1).size + x7_1.size) = False := eq_false (Nat.not_lt.2 c41)
                  try have c41b4 : (9223372036854775807 < a1.size + (⟨#[91]⟩ : ByteArray).size + a1.size + x7_1.size) = False := eq_false (Nat.not_lt.2 (by have h_ := c41; simp only [ByteArray.size_append] at h_; exact h_))
                  try have c41b5 : (9223372036854775807 < a1.size + 1 + a1.size + x7_1.size) = False := eq_false (Nat.not_lt.2 (by have h_ := c41; simp only [ByteArray.size_append] at h_; exact h_))
                  by_cases c42 : (((a1 ++ (⟨#[91]⟩ : ByteArray)) ++ a1) ++ x7_1).size + a1.size ≤ 9223372036854775807
                  · rw [if_pos c42] at H
                    have c42b0 := eq_true c42
                    have c42b1 : decide ((((a1 ++ (⟨#[91]⟩ : ByteArray)) ++ a1) ++ x7_1).size + a1.size ≤ 9223372036854775807) = true := decide_eq_true c42
                    try have c42b2 : (9223372036854775807 < (((a1 ++ (⟨#[91]⟩ : ByteArray)) ++ a1) ++ x7_1).size + a1.size) = False := eq_false (Nat.not_lt.2 c42)
                    try have c42b4 : (9223372036854775807 < a1.size + (⟨#[91]⟩ : ByteArray).size + a1.size + x7_1.size + a1.size) = False := eq_false (Nat.not_lt.2 (by have h_ := c42; simp only [ByteArray.size_append] at h_; exact h_))
                    try have c42b5 : (9223372036854775807 < a1.size + 1 + a1.size + x7_1.size + a1.size) = False := eq_false (Nat.not_lt.2 (by have h_ := c42; simp only [ByteArray.size_append] at h_; exact h_))
                    by_cases c43 : ((((a1 ++ (⟨#[91]⟩ : ByteArray)) ++ a1) ++ x7_1) ++ a1).size + 1 ≤ 9223372036854775807
                    · rw [if_pos c43] at H
                      have c43b0 := eq_true c43
                      have c43b1 : decide (((((a1 ++ (⟨#[91]⟩ : ByteArray)) ++ a1) ++ x7_1) ++ a1).size + 1 ≤ 9223372036854775807) = true := decide_eq_true c43
                      try have c43b2 : (9223372036854775807 < ((((a1 ++ (⟨#[91]⟩ : ByteArray)) ++ a1) ++ x7_1) ++ a1).size + 1) = False := eq_false (Nat.not_lt.2 c43)
                      try have c43b4 : (9223372036854775807 < a1.size + (⟨#[91]⟩ : ByteArray).size + a1.size + x7_1.size + a1.size + 1) = False := eq_false (Nat.not_lt.2 (by have h_ := c43; simp only [ByteArray.size_append] at h_; exact h_))
                      try have c43b5 : (9223372036854775807 < a1.size + 1 + a1.size + x7_1.size + a1.size + 1) = False := eq_false (Nat.not_lt.2 (by have h_ := c43; simp only [ByteArray.size_append] at h_; exact h_))
                      by_cases c44 : (((((a1 ++ (⟨#[91]⟩ : ByteArray)) ++ a1) ++ x7_1) ++ a1) ++ (⟨#[93]⟩ : ByteArray)).size + a1.size ≤ 9223372036854775807
                      · rw [if_pos c44] at H
                        have c44b0 := eq_true c44
                        have c44b1 : decide ((((((a1 ++ (⟨#[91]⟩ : ByteArray)) ++ a1) ++ x7_1) ++ a1) ++ (⟨#[93]⟩ : ByteArray)).size + a1.size ≤ 9223372036854775807) = true := decide_eq_true c44
                        try have c44b2 : (9223372036854775807 < (((((a1 ++ (⟨#[91]⟩ : ByteArray)) ++ a1) ++ x7_1) ++ a1) ++ (⟨#[93]⟩ : ByteArray)).size + a1.size) = False := eq_false (Nat.not_lt.2 c44)
                        try have c44b4 : (9223372036854775807 < a1.size + (⟨#[91]⟩ : ByteArray).size + a1.size + x7_1.size + a1.size + (⟨#[93]⟩ : ByteArray).size + a1.size) = False := eq_false (Nat.not_lt.2 (by have h_ := c44; simp only [ByteArray.size_append] at h_; exact h_))
                        try have c44b5 : (9223372036854775807 < a1.size + 1 + a1.size + x7_1.size + a1.size + 1 + a1.size) = False := eq_false (Nat.not_lt.2 (by have h_ := c44; simp only [ByteArray.size_append] at h_; exact h_))
                        try have c44b3 : (9223372036854775807 < ((((a1 ++ (⟨#[91]⟩ : ByteArray)) ++ a1) ++ x7_1) ++ a1).size + (⟨#[93]⟩ : ByteArray).size + a1.size) = False := by rw [← ByteArray.size_append]; exact c44b2
                        obtain rfl := Option.some.inj H
                        have hcz45_0 : wr.cell? ⟨gb178, 0, none⟩ = some (.int .i64 a0_0) := (blk_cell BK178.out 0).trans rfl
                        have hcz45_1 : wr.cell? ⟨gb178, 1, none⟩ = some (.string a0_1) := (blk_cell BK178.out 1).trans rfl
                        have hcz45_2 : wr.cell? ⟨gb178, 2, none⟩ = some (.slice A0_2 l0_2.length c0_2) := (blk_cell BK178.out 2).trans rfl
                        have hcz45_3 : wr.cell? ⟨gb178, 3, none⟩ = some (.slice A0_3 l0_3.length c0_3) := (blk_cell BK178.out 3).trans rfl
                        have hfz45_0 := blk_frozen BK178.out 0
                        have hfz45_1 := blk_frozen BK178.out 1
                        have hfz45_2 := blk_frozen BK178.out 2
                        have hfz45_3 := blk_frozen BK178.out 3
                        go_wp2
                        go_ret
                        exact ⟨by first | rfl | (simp [errW_none, errW_some] <;> rfl) | (simp [*, errW_none, errW_some] <;> rfl), by repeat (first | (with_reducible first | exact HB.out | apply below_alloc | apply pw_below_drewN | apply below_drew1 | refine below_set ?_ GE178.out) | exact HB.out)⟩
                      · rw [if_neg c44] at H
                        exact absurd H (by simp)
                    · rw [if_neg c43] at H
                      exact absurd H (by simp)
                  · rw [if_neg c42] at H
                    exact absurd H (by simp)
                · rw [if_neg c41] at H
                  exact absurd H (by simp)
              · rw [if_neg c40] at H
                exact absurd H (by simp)
            · rw [if_neg c39] at H
              exact absurd H (by simp)
          · rw [if_neg c38] at H
            have c38b0 : (a0_0 == 6) = false := beq_eq_false_iff_ne.mpr c38
            have c38b1 : (a0_0 != 6) = true := bne_iff_ne.mpr c38
            by_cases c46 : a1.size + 1 ≤ 9223372036854775807
            · rw [if_pos c46] at H
              have c46b0 := eq_true c46
              have c46b1 : decide (a1.size + 1 ≤ 9223372036854775807) = true := decide_eq_true c46
              try have c46b2 : (9223372036854775807 < a1.size + 1) = False := eq_false (Nat.not_lt.2 c46)
              by_cases c47 : (a1 ++ (⟨#[123]⟩ : ByteArray)).size + a1.size ≤ 9223372036854775807
              · rw [if_pos c47] at H
                have c47b0 := eq_true c47
                have c47b1 : decide ((a1 ++ (⟨#[123]⟩ : ByteArray)).size + a1.size ≤ 9223372036854775807) = true := decide_eq_true c47
                try have c47b2 : (9223372036854775807 < (a1 ++ (⟨#[123]⟩ : ByteArray)).size + a1.size) = False := eq_false (Nat.not_lt.2 c47)
                try have c47b4 : (9223372036854775807 < a1.size + (⟨#[123]⟩ : ByteArray).size + a1.size) = False := eq_false (Nat.not_lt.2 (by have h_ := c47; simp only [ByteArray.size_append] at h_; exact h_))
                try have c47b5 : (9223372036854775807 < a1.size + 1 + a1.size) = False := eq_false (Nat.not_lt.2 (by have h_ := c47; simp only [ByteArray.size_append] at h_; exact h_))
                by_cases c48 : ((a1 ++ (⟨#[123]⟩ : ByteArray)) ++ a1).size + x7_1.size ≤ 9223372036854775807
                · rw [if_pos c48] at H
                  have c48b0 := eq_true c48
                  have c48b1 : decide (((a1 ++ (⟨#[123]⟩ : ByteArray)) ++ a1).size + x7_1.size ≤ 9223372036854775807) = true := decide_eq_true c48
                  try have c48b2 : (9223372036854775807 < ((a1 ++ (⟨#[123]⟩ : ByteArray)) ++ a1).size + x7_1.size) = False := eq_false (Nat.not_lt.2 c48)
                  try have c48b4 : (9223372036854775807 < a1.size + (⟨#[123]⟩ : ByteArray).size + a1.size + x7_1.size) = False := eq_false (Nat.not_lt.2 (by have h_ := c48; simp only [ByteArray.size_append] at h_; exact h_))
                  try have c48b5 : (9223372036854775807 < a1.size + 1 + a1.size + x7_1.size) = False := eq_false (Nat.not_lt.2 (by have h_ := c48; simp only [ByteArray.size_append] at h_; exact h_))
                  by_cases c49 : (((a1 ++ (⟨#[123]⟩ : ByteArray)) ++ a1) ++ x7_1).size + a1.size ≤ 9223372036854775807
                  · rw [if_pos c49] at H
                    have c49b0 := eq_true c49
                    have c49b1 : decide ((((a1 ++ (⟨#[123]⟩ : ByteArray)) ++ a1) ++ x7_1).size + a1.size ≤ 9223372036854775807) = true := decide_eq_true c49
                    try have c49b2 : (9223372036854775807 < (((a1 ++ (⟨#[123]⟩ : ByteArray)) ++ a1) ++ x7_1).size + a1.size) = False := eq_false (Nat.not_lt.2 c49)
                    try have c49b4 : (9223372036854775807 < a1.size + (⟨#[123]⟩ : ByteArray).size + a1.size + x7_1.size + a1.size) = False := eq_false (Nat.not_lt.2 (by have h_ := c49; simp only [ByteArray.size_append] at h_; exact h_))
                    try have c49b5 : (9223372036854775807 < a1.size + 1 + a1.size + x7_1.size + a1.size) = False := eq_false (Nat.not_lt.2 (by have h_ := c49; simp only [ByteArray.size_append] at h_; exact h_))
                    by_cases c50 : ((((a1 ++ (⟨#[123]⟩ : ByteArray)) ++ a1) ++ x7_1) ++ a1).size + 1 ≤ 9223372036854775807
                    · rw [if_pos c50] at H
                      have c50b0 := eq_true c50
                      have c50b1 : decide (((((a1 ++ (⟨#[123]⟩ : ByteArray)) ++ a1) ++ x7_1) ++ a1).size + 1 ≤ 9223372036854775807) = true := decide_eq_true c50
                      try have c50b2 : (9223372036854775807 < ((((a1 ++ (⟨#[123]⟩ : ByteArray)) ++ a1) ++ x7_1) ++ a1).size + 1) = False := eq_false (Nat.not_lt.2 c50)
                      try have c50b4 : (9223372036854775807 < a1.size + (⟨#[123]⟩ : ByteArray).size + a1.size + x7_1.size + a1.size + 1) = False := eq_false (Nat.not_lt.2 (by have h_ := c50; simp only [ByteArray.size_append] at h_; exact h_))
                      try have c50b5 : (9223372036854775807 < a1.size + 1 + a1.size + x7_1.size + a1.size + 1) = False := eq_false (Nat.not_lt.2 (by have h_ := c50; simp only [ByteArray.size_append] at h_; exact h_))
                      by_cases c51 : (((((a1 ++ (⟨#[123]⟩ : ByteArray)) ++ a1) ++ x7_1) ++ a1) ++ (⟨#[125]⟩ : ByteArray)).size + a1.size ≤ 9223372036854775807
                      · rw [if_pos c51] at H
                        have c51b0 := eq_true c51
                        have c51b1 : decide ((((((a1 ++ (⟨#[123]⟩ : ByteArray)) ++ a1) ++ x7_1) ++ a1) ++ (⟨#[125]⟩ : ByteArray)).size + a1.size ≤ 9223372036854775807) = true := decide_eq_true c51
                        try have c51b2 : (9223372036854775807 < (((((a1 ++ (⟨#[123]⟩ : ByteArray)) ++ a1) ++ x7_1) ++ a1) ++ (⟨#[125]⟩ : ByteArray)).size + a1.size) = False := eq_false (Nat.not_lt.2 c51)
                        try have c51b4 : (9223372036854775807 < a1.size + (⟨#[123]⟩ : ByteArray).size + a1.size + x7_1.size + a1.size + (⟨#[125]⟩ : ByteArray).size + a1.size) = False := eq_false (Nat.not_lt.2 (by have h_ := c51; simp only [ByteArray.size_append] at h_; exact h_))
                        try have c51b5 : (9223372036854775807 < a1.size + 1 + a1.size + x7_1.size + a1.size + 1 + a1.size) = False := eq_false (Nat.not_lt.2 (by have h_ := c51; simp only [ByteArray.size_append] at h_; exact h_))
                        try have c51b3 : (9223372036854775807 < ((((a1 ++ (⟨#[123]⟩ : ByteArray)) ++ a1) ++ x7_1) ++ a1).size + (⟨#[125]⟩ : ByteArray).size + a1.size) = False := by rw [← ByteArray.size_append]; exact c51b2
                        obtain rfl := Option.some.inj H
                        have hcz52_0 : wr.cell? ⟨gb178, 0, none⟩ = some (.int .i64 a0_0) := (blk_cell BK178.out 0).trans rfl
                        have hcz52_1 : wr.cell? ⟨gb178, 1, none⟩ = some (.string a0_1) := (blk_cell BK178.out 1).trans rfl
                        have hcz52_2 : wr.cell? ⟨gb178, 2, none⟩ = some (.slice A0_2 l0_2.length c0_2) := (blk_cell BK178.out 2).trans rfl
                        have hcz52_3 : wr.cell? ⟨gb178, 3, none⟩ = some (.slice A0_3 l0_3.length c0_3) := (blk_cell BK178.out 3).trans rfl
                        have hfz52_0 := blk_frozen BK178.out 0
                        have hfz52_1 := blk_frozen BK178.out 1
                        have hfz52_2 := blk_frozen BK178.out 2
                        have hfz52_3 := blk_frozen BK178.out 3
                        go_wp2
                        go_ret
                        exact ⟨by first | rfl | (simp [errW_none, errW_some] <;> rfl) | (simp [*, errW_none, errW_some] <;> rfl), by repeat (first | (with_reducible first | exact HB.out | apply below_alloc | apply pw_below_drewN | apply below_drew1 | refine below_set ?_ GE178.out) | exact HB.out)⟩
                      · rw [if_neg c51] at H
                        exact absurd H (by simp)
                    · rw [if_neg c50] at H
                      exact absurd H (by simp)
                  · rw [if_neg c49] at H
                    exact absurd H (by simp)
                · rw [if_neg c48] at H
                  exact absurd H (by simp)
              · rw [if_neg c47] at H
                exact absurd H (by simp)
            · rw [if_neg c46] at H
              exact absurd H (by simp)
end Go.Proofs.YtodnggilomanbaaGreatDoor.PAll
