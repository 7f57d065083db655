-- Written by this repo's program wip/tools/pr.py (over the kit's print) out of the translation. Not trusted: Lean checks it.
import Derived.Test.YtaklkcnohbbfoaaDoorPAllx0
import Derived.Test.YtaklkcnohbbfoaaDoorGW
import Derived.Test.YtaklkcnohbbfoaaDoorHandKey
namespace Go.Proofs.YtaklkcnohbbfoaaDoor.PAll
open Go.Proofs.YtaklkcnohbbfoaaDoor.Hand
open Go.RowKit Go.Proofs.YtaklkcnohbbfoaaDoorW.PrintWords Go.Proofs.YtaklkcnohbbfoaaDoorW.PrintLast Go.Proofs.YtaklkcnohbbfoaaDoorW.PrintMore
attribute [local go_sem] max2_int min2_int max_two min_two max_three min_three max_four min_four   -- for this text's walks alone
attribute [-simp] List.length_take List.length_drop ByteArray.size_extract
set_option linter.unusedVariables false
set_option linter.unusedSimpArgs false

/-! ### signetrylaw02_TextKeys: function 10 -/
mutual
def signetrylaw02_TextKeys.j0 : Nat → ByteArray → ByteArray → Bool → Option (Bool)
  | 0, _, _, _ => none
  | k + 1, x0, x3, x29 => if x29 = true then (none) else (signetrylaw02_TextKeys.l0 k x0 x3 (⟨#[97]⟩ : ByteArray) 0)
def signetrylaw02_TextKeys.l0 : Nat → ByteArray → ByteArray → ByteArray → Int → Option (Bool)
  | 0, _, _, _, _ => none
  | k + 1, x0, x3, x4, x5 => if x5 < (x0.size : Int) then (if 0 ≤ x5 then (if 0 ≤ (Int.tmod (bt x0 x5) 10) then (if (Int.tmod (bt x0 x5) 10) < 10 then (if (Int.tmod (bt x0 x5) 3) = 0 then (if (bt (⟨#[97, 98, 99, 120, 121, 122, 48, 49, 56, 57]⟩ : ByteArray) (Int.tmod (bt x0 x5) 10)) ≥ 97 then (if x4.size + 1 ≤ 9223372036854775807 then ((some (([bt (⟨#[97, 98, 99, 120, 121, 122, 48, 49, 56, 57]⟩ : ByteArray) (Int.tmod (bt x0 x5) 10)] : List Int) : List Int)).bind fun y507 => (if (x4 ++ (⟨#[95]⟩ : ByteArray)).size + (strOfNums y507).size ≤ 9223372036854775807 then (signetrylaw02_TextKeys.l0 k x0 x3 ((x4 ++ (⟨#[95]⟩ : ByteArray)) ++ (strOfNums y507)) (wrap64 (x5 + 1))) else (none))) else (none)) else ((some (([bt (⟨#[97, 98, 99, 120, 121, 122, 48, 49, 56, 57]⟩ : ByteArray) (Int.tmod (bt x0 x5) 10)] : List Int) : List Int)).bind fun y510 => (if x4.size + (strOfNums y510).size ≤ 9223372036854775807 then (signetrylaw02_TextKeys.l0 k x0 x3 (x4 ++ (strOfNums y510)) (wrap64 (x5 + 1))) else (none)))) else ((some (([bt (⟨#[97, 98, 99, 120, 121, 122, 48, 49, 56, 57]⟩ : ByteArray) (Int.tmod (bt x0 x5) 10)] : List Int) : List Int)).bind fun y513 => (if x4.size + (strOfNums y513).size ≤ 9223372036854775807 then (signetrylaw02_TextKeys.l0 k x0 x3 (x4 ++ (strOfNums y513)) (wrap64 (x5 + 1))) else (none)))) else (none)) else (none)) else (none)) else ((text_Key.f x4).bind fun t516 => (signetrylaw02_TextKeys.l1 k x3 x4 (⟨#[]⟩ : ByteArray) t516 0))
def signetrylaw02_TextKeys.l1 : Nat → ByteArray → ByteArray → ByteArray → ByteArray → Int → Option (Bool)
  | 0, _, _, _, _, _ => none
  | k + 1, x3, x4, x7, x8, x9 => if x9 < (x8.size : Int) then (if 0 ≤ x9 then (if (bt x8 x9) ≥ 65 then (if (bt x8 x9) ≤ 90 then (if x7.size + 1 ≤ 9223372036854775807 then ((some (([((((bt x8 x9) - 65) % 256) + 97) % 256] : List Int) : List Int)).bind fun y517 => (if (x7 ++ (⟨#[95]⟩ : ByteArray)).size + (strOfNums y517).size ≤ 9223372036854775807 then (signetrylaw02_TextKeys.l1 k x3 x4 ((x7 ++ (⟨#[95]⟩ : ByteArray)) ++ (strOfNums y517)) x8 (wrap64 (x9 + 1))) else (none))) else (none)) else ((some (([bt x8 x9] : List Int) : List Int)).bind fun y520 => (if x7.size + (strOfNums y520).size ≤ 9223372036854775807 then (signetrylaw02_TextKeys.l1 k x3 x4 (x7 ++ (strOfNums y520)) x8 (wrap64 (x9 + 1))) else (none)))) else ((some (([bt x8 x9] : List Int) : List Int)).bind fun y523 => (if x7.size + (strOfNums y523).size ≤ 9223372036854775807 then (signetrylaw02_TextKeys.l1 k x3 x4 (x7 ++ (strOfNums y523)) x8 (wrap64 (x9 + 1))) else (none)))) else (none)) else (signetrylaw02_TextKeys.l2 k x3 x4 x7 0)
def signetrylaw02_TextKeys.l2 : Nat → ByteArray → ByteArray → ByteArray → Int → Option (Bool)
  | 0, _, _, _, _ => none
  | k + 1, x3, x4, x7, x11 => if x11 < (x3.size : Int) then (if 0 ≤ x11 then (if (bt x3 x11) = 95 then (none) else (signetrylaw02_TextKeys.l2 k x3 x4 x7 (wrap64 (x11 + 1)))) else (none)) else (if x7.toList = x4.toList then ((signetrylaw02_works.f k).bind fun t526 => (some t526)) else (none))
end
def signetrylaw02_TextKeys.f (k : Nat) (a0 : ByteArray) : Option (Bool) := if 0 ≤ (mn (a0.size : Int) 100) then (if (mn (a0.size : Int) 100) ≤ (a0.size : Int) then ((text_Key.f (a0.extract 0 ((mn (a0.size : Int) 100) : Int).toNat)).bind fun t505 => ((text_Key.f t505).bind fun t506 => (if t506.toList = t505.toList then (signetrylaw02_TextKeys.j0 k (a0.extract 0 ((mn (a0.size : Int) 100) : Int).toNat) t505 (decide ((t505.size : Int) > ((a0.extract 0 ((mn (a0.size : Int) 100) : Int).toNat).size : Int)))) else (none)))) else (none)) else (none)
theorem signetrylaw02_TextKeys.mono_l : ∀ k, (∀ y0 y1 y2, LeO (signetrylaw02_TextKeys.j0 k y0 y1 y2) (signetrylaw02_TextKeys.j0 (k + 1) y0 y1 y2)) ∧ (∀ y0 y1 y2 y3, LeO (signetrylaw02_TextKeys.l0 k y0 y1 y2 y3) (signetrylaw02_TextKeys.l0 (k + 1) y0 y1 y2 y3)) ∧ (∀ y0 y1 y2 y3 y4, LeO (signetrylaw02_TextKeys.l1 k y0 y1 y2 y3 y4) (signetrylaw02_TextKeys.l1 (k + 1) y0 y1 y2 y3 y4)) ∧ (∀ y0 y1 y2 y3, LeO (signetrylaw02_TextKeys.l2 k y0 y1 y2 y3) (signetrylaw02_TextKeys.l2 (k + 1) y0 y1 y2 y3))
  | 0 => ⟨fun _ _ _ r h => by simp [signetrylaw02_TextKeys.j0] at h, fun _ _ _ _ r h => by simp [signetrylaw02_TextKeys.l0] at h, fun _ _ _ _ _ r h => by simp [signetrylaw02_TextKeys.l1] at h, fun _ _ _ _ r h => by simp [signetrylaw02_TextKeys.l2] at h⟩
  | k + 1 => by
    obtain ⟨ih0, ih1, ih2, ih3⟩ := signetrylaw02_TextKeys.mono_l k
    refine ⟨?_, ?_, ?_, ?_⟩
    · intro y0 y1 y2
      unfold signetrylaw02_TextKeys.j0
      repeat' first
      | (with_reducible exact ih0 _ _ _)
      | (with_reducible exact ih1 _ _ _ _)
      | (with_reducible exact ih2 _ _ _ _ _)
      | (with_reducible exact ih3 _ _ _ _)
      | (with_reducible exact signetrylaw02_works.mono _)
      | (with_reducible exact LeO.refl _)
      | (with_reducible exact LeO.none _)
      | (with_reducible refine LeO.ite ?_ ?_)
      | (with_reducible refine LeO.bind ?_ (fun _ => ?_))
      | exact ih0 _ _ _
      | exact ih1 _ _ _ _
      | exact ih2 _ _ _ _ _
      | exact ih3 _ _ _ _
      | exact signetrylaw02_works.mono _
      | exact LeO.none _
      | refine LeO.ite ?_ ?_
      | refine LeO.bind ?_ (fun _ => ?_)
    · intro y0 y1 y2 y3
      unfold signetrylaw02_TextKeys.l0
      repeat' first
      | (with_reducible exact ih0 _ _ _)
      | (with_reducible exact ih1 _ _ _ _)
      | (with_reducible exact ih2 _ _ _ _ _)
      | (with_reducible exact ih3 _ _ _ _)
      | (with_reducible exact signetrylaw02_works.mono _)
      | (with_reducible exact LeO.refl _)
      | (with_reducible exact LeO.none _)
      | (with_reducible refine LeO.ite ?_ ?_)
      | (with_reducible refine LeO.bind ?_ (fun _ => ?_))
      | exact ih0 _ _ _
      | exact ih1 _ _ _ _
      | exact ih2 _ _ _ _ _
      | exact ih3 _ _ _ _
      | exact signetrylaw02_works.mono _
      | exact LeO.none _
      | refine LeO.ite ?_ ?_
      | refine LeO.bind ?_ (fun _ => ?_)
    · intro y0 y1 y2 y3 y4
      unfold signetrylaw02_TextKeys.l1
      repeat' first
      | (with_reducible exact ih0 _ _ _)
      | (with_reducible exact ih1 _ _ _ _)
      | (with_reducible exact ih2 _ _ _ _ _)
      | (with_reducible exact ih3 _ _ _ _)
      | (with_reducible exact signetrylaw02_works.mono _)
      | (with_reducible exact LeO.refl _)
      | (with_reducible exact LeO.none _)
      | (with_reducible refine LeO.ite ?_ ?_)
      | (with_reducible refine LeO.bind ?_ (fun _ => ?_))
      | exact ih0 _ _ _
      | exact ih1 _ _ _ _
      | exact ih2 _ _ _ _ _
      | exact ih3 _ _ _ _
      | exact signetrylaw02_works.mono _
      | exact LeO.none _
      | refine LeO.ite ?_ ?_
      | refine LeO.bind ?_ (fun _ => ?_)
    · intro y0 y1 y2 y3
      unfold signetrylaw02_TextKeys.l2
      repeat' first
      | (with_reducible exact ih0 _ _ _)
      | (with_reducible exact ih1 _ _ _ _)
      | (with_reducible exact ih2 _ _ _ _ _)
      | (with_reducible exact ih3 _ _ _ _)
      | (with_reducible exact signetrylaw02_works.mono _)
      | (with_reducible exact LeO.refl _)
      | (with_reducible exact LeO.none _)
      | (with_reducible refine LeO.ite ?_ ?_)
      | (with_reducible refine LeO.bind ?_ (fun _ => ?_))
      | exact ih0 _ _ _
      | exact ih1 _ _ _ _
      | exact ih2 _ _ _ _ _
      | exact ih3 _ _ _ _
      | exact signetrylaw02_works.mono _
      | exact LeO.none _
      | refine LeO.ite ?_ ?_
      | refine LeO.bind ?_ (fun _ => ?_)
theorem signetrylaw02_TextKeys.mono : ∀ a0 k, LeO (signetrylaw02_TextKeys.f k a0) (signetrylaw02_TextKeys.f (k + 1) a0) := by
  intro a0 k
  obtain ⟨ih0, ih1, ih2, ih3⟩ := signetrylaw02_TextKeys.mono_l k
  unfold signetrylaw02_TextKeys.f
  repeat' first
      | (with_reducible exact ih0 _ _ _)
      | (with_reducible exact ih1 _ _ _ _)
      | (with_reducible exact ih2 _ _ _ _ _)
      | (with_reducible exact ih3 _ _ _ _)
      | (with_reducible exact signetrylaw02_works.mono _)
      | (with_reducible exact LeO.refl _)
      | (with_reducible exact LeO.none _)
      | (with_reducible refine LeO.ite ?_ ?_)
      | (with_reducible refine LeO.bind ?_ (fun _ => ?_))
      | exact ih0 _ _ _
      | exact ih1 _ _ _ _
      | exact ih2 _ _ _ _ _
      | exact ih3 _ _ _ _
      | exact signetrylaw02_works.mono _
      | exact LeO.none _
      | refine LeO.ite ?_ ?_
      | refine LeO.bind ?_ (fun _ => ?_)
set_option maxHeartbeats 8000000 in
set_option maxRecDepth 100000 in
theorem signetrylaw02_TextKeys.calls (k : Nat) (a0 : ByteArray) (r : Bool) (w : World) (h : signetrylaw02_TextKeys.f k a0 = some r) (HTB_ : Tabs w) :
    Calls Tryd.prog 10 #[.string a0] w fun e w' => e = .returned (.bool r) ∧ Below w.heap.size w w' := by
  have HB := Aside0.mk (Below.refl w.heap.size w)
  have H : (if 0 ≤ (mn (a0.size : Int) 100) then (if (mn (a0.size : Int) 100) ≤ (a0.size : Int) then ((text_Key.f (a0.extract 0 ((mn (a0.size : Int) 100) : Int).toNat)).bind fun t505 => ((text_Key.f t505).bind fun t506 => (if t506.toList = t505.toList then (signetrylaw02_TextKeys.j0 k (a0.extract 0 ((mn (a0.size : Int) 100) : Int).toNat) t505 (decide ((t505.size : Int) > ((a0.extract 0 ((mn (a0.size : Int) 100) : Int).toNat).size : Int)))) else (none)))) else (none)) else (none)) = some r := h
  clear h
  obtain ⟨ji2, hji2⟩ : ∃ j_ : Int, (mn (a0.size : Int) 100) = j_ := ⟨_, rfl⟩
  replace H : (if 0 ≤ (ji2) then (if (ji2) ≤ (a0.size : Int) then ((text_Key.f (a0.extract 0 ((ji2) : Int).toNat)).bind fun t505 => ((text_Key.f t505).bind fun t506 => (if t506.toList = t505.toList then (signetrylaw02_TextKeys.j0 k (a0.extract 0 ((ji2) : Int).toNat) t505 (decide ((t505.size : Int) > ((a0.extract 0 ((ji2) : Int).toNat).size : Int)))) else (none)))) else (none)) else (none)) = some r := by first | (rw [hji2] at H; exact H) | (simp only [hji2] at H ⊢; exact H)
  (try (have hji2h : ji2 ≤ 100 := by (rw [← hji2]; unfold mn; (repeat' split) <;> omega)))
  (try (have hji2g : ji2 ≤ 64 := by omega))
  (try (have hji2l : 0 ≤ ji2 := by (rw [← hji2]; unfold mn; (repeat' split) <;> omega)))
  (try (have hji2m : 0 ≤ ji2 := by omega))
  have hji2_ : (if 100 < (a0.size : Int) then 100 else (a0.size : Int)) = ji2 := hji2
  by_cases c3 : 0 ≤ (ji2)
  · rw [if_pos c3] at H
    have c3b0 := eq_true c3
    have c3b1 : decide (0 ≤ (ji2)) = true := decide_eq_true c3
    clear c3
    by_cases c4 : (ji2) ≤ (a0.size : Int)
    · rw [if_pos c4] at H
      have c4b0 := eq_true c4
      have c4b1 : decide ((ji2) ≤ (a0.size : Int)) = true := decide_eq_true c4
      clear c4
      replace H := Option.bind_eq_some_iff.mp H
      obtain ⟨t505, A50, H⟩ := H
      replace H : ((text_Key.f t505).bind fun t506 => (if t506.toList = t505.toList then (signetrylaw02_TextKeys.j0 k (a0.extract 0 ((ji2) : Int).toNat) t505 (decide ((t505.size : Int) > ((a0.extract 0 ((ji2) : Int).toNat).size : Int)))) else (none))) = some r := H
      have A5 := Aside0.mk A50
      clear A50
      have HC6 := Aside0.mk H
      clear H
      go_enter Tryd.func10, Tryd.ntmps10
      go_upto_region 3 with (first | ((with_reducible refine gate_callee (f := 26) rfl ?_); refine goesL_ (some 18) rfl rfl Tryd.func26 (by kernel_rfl) rfl #[.string (a0.extract 0 ((ji2) : Int).toNat)] rfl (by (try simp only [List.map_toArray, List.map_cons, List.map_nil]); first | done | (simp only [hji2]; rfl) | rfl | (simp only [List.length_drop, List.length_take]; rfl)) ?_; (with_reducible refine (text_Key.calls (a0.extract 0 ((ji2) : Int).toNat) t505 _ A5.out).mono ?_); rintro e w7 ⟨rfl, hb⟩; refine ⟨_, rfl, ?_⟩; have n0_ := Aside0.mk (below_step (by repeat (first | (with_reducible first | exact HB.out | apply below_alloc | apply pw_below_drewN | apply below_drew1) | exact HB.out)) hb); clear HB; have HB := n0_; clear n0_; (try clear hb); (try clear hb2); (try clear hk); (try clear hi)))
      (try simp only [Act.put, List.setIfInBounds_toArray, List.set_cons_zero, List.set_cons_succ])
      go_cut [29] (fun v29 wc => ∃ (kq : Nat) (x29_5 : Bool), v29 = .bool x29_5 ∧ Aside0 (signetrylaw02_TextKeys.j0 kq (a0.extract 0 ((ji2) : Int).toNat) t505 x29_5 = some r) ∧ Aside0 (kq ≤ k) ∧ Aside0 (Below w.heap.size w wc))
      case first =>
        have H := HC6.out
        clear HC6
        replace H := Option.bind_eq_some_iff.mp H
        obtain ⟨t506, A80, H⟩ := H
        replace H : (if t506.toList = t505.toList then (signetrylaw02_TextKeys.j0 k (a0.extract 0 ((ji2) : Int).toNat) t505 (decide ((t505.size : Int) > ((a0.extract 0 ((ji2) : Int).toNat).size : Int)))) else (none)) = some r := H
        have A8 := Aside0.mk A80
        clear A80
        by_cases c9 : t506.toList = t505.toList
        · rw [if_pos c9] at H
          have c9b0 : (t506.toList == t505.toList) = true := beq_iff_eq.mpr c9
          have c9b1 : (t506.toList != t505.toList) = false := bne_eq_false_iff_eq.mpr c9
          clear c9
          (first | rw [c9b0] | (simp only [i64_w, i32_w]; rw [c9b0]) | skip)
          have H' := Aside0.mk H
          clear H
          go_wp2_with (first | ((with_reducible refine gate_callee (f := 26) rfl ?_); refine goesL_ (some 20) rfl rfl Tryd.func26 (by kernel_rfl) rfl #[.string t505] rfl (by (try simp only [List.map_toArray, List.map_cons, List.map_nil]); first | done | rfl | (simp only [List.length_drop, List.length_take]; rfl)) ?_; (with_reducible refine (text_Key.calls t505 t506 _ A8.out).mono ?_); rintro e w10 ⟨rfl, hb⟩; refine ⟨_, rfl, ?_⟩; have n0_ := Aside0.mk (below_step (by repeat (first | (with_reducible first | exact HB.out | apply below_alloc | apply pw_below_drewN | apply below_drew1) | exact HB.out)) hb); clear HB; have HB := n0_; clear n0_; (try clear hb); (try clear hb2); (try clear hk); (try clear hi)))
          go_meet
          case rel => exact ⟨_, (decide ((t505.size : Int) > ((a0.extract 0 ((ji2) : Int).toNat).size : Int))), (by first | rfl | (simp; done) | (simp only [← hji2] <;> (first | rfl | simp)) | (simp [*]; done)), H', ⟨by first | omega | exact Nat.le_refl _⟩, ⟨by repeat (first | (with_reducible first | exact HB.out | apply below_alloc | apply pw_below_drewN | apply below_drew1) | exact HB.out)⟩⟩
        · rw [if_neg c9] at H
          exact absurd H (by simp)
      case rest =>
        clear HC6
        try clear c1
        try clear c2
        try clear p2
        try clear c3
        try clear c3b0
        try clear c3b1
        try clear c4
        try clear c4b0
        try clear c4b1
        try clear c9
        try clear c9b0
        try clear c9b1
        try clear c10
        obtain ⟨kq, x29_5, rfl, HA, HJ5, HB⟩ := hcut
        cases kq with
        | zero => exact absurd HA.out (by simp [signetrylaw02_TextKeys.j0])
        | succ kj5 =>
          have H := HA.out
          clear HA
          simp only [signetrylaw02_TextKeys.j0] at H
          by_cases c11 : x29_5 = true
          · subst c11
            have H1 : (none) = some r := by rw [if_pos rfl] at H; exact H
            clear H
            have H := H1
            clear H1
            exact absurd H (by simp)
          · replace c11 := Bool.eq_false_iff.mpr c11
            subst c11
            have H1 : (signetrylaw02_TextKeys.l0 kj5 (a0.extract 0 ((ji2) : Int).toNat) t505 (⟨#[97]⟩ : ByteArray) 0) = some r := by rw [if_neg (show ¬ (false = true) by decide)] at H; exact H
            clear H
            have H := H1
            clear H1
            have H' := Aside0.mk H
            clear H
            go_wp2
            go_loopg [4, 5] kj5 (fun kq v4 v5 w' => ∃ (x4_2 : ByteArray) (x5_2 : Int), v4 = .string x4_2 ∧ v5 = .int .i64 x5_2 ∧ Aside0 (signetrylaw02_TextKeys.l0 kq (a0.extract 0 ((ji2) : Int).toNat) t505 x4_2 x5_2 = some r) ∧ Aside0 (kq ≤ kj5) ∧ Aside0 (Below w.heap.size w w'))
            case atStart => exact ⟨((⟨#[97]⟩ : ByteArray)), (0), (by first | rfl | (simp; done) | (simp [*]; done)), (by first | rfl | (simp; done) | (simp [*]; done)), H', ⟨Nat.le_refl _⟩, ⟨by repeat (first | (with_reducible first | exact HB.out | apply below_alloc | apply pw_below_drewN | apply below_drew1) | exact HB.out)⟩⟩
            case round =>
              clear H'
              try clear c1
              try clear c2
              try clear p2
              try clear c3
              try clear c3b0
              try clear c3b1
              try clear c4
              try clear c4b0
              try clear c4b1
              try clear c9
              try clear c9b0
              try clear c9b1
              try clear c10
              try clear c11
              try clear p2
              obtain ⟨x4_2, x5_2, rfl, rfl, HA, HK2, HB⟩ := hrel
              cases gk with
              | zero => exact absurd HA.out (by simp [signetrylaw02_TextKeys.l0])
              | succ k2 =>
                have H := HA.out
                clear HA
                simp only [signetrylaw02_TextKeys.l0] at H
                by_cases c12 : x5_2 < ((a0.extract 0 ((ji2) : Int).toNat).size : Int)
                · rw [if_pos c12] at H
                  have c12b0 : decide (x5_2 < ((a0.extract 0 ((ji2) : Int).toNat).size : Int)) = true := decide_eq_true c12
                  clear c12
                  by_cases c13 : 0 ≤ x5_2
                  · rw [if_pos c13] at H
                    have c13b0 : decide (0 ≤ x5_2) = true := decide_eq_true c13
                    clear c13
                    obtain ⟨ji15, hji15⟩ : ∃ j_ : Int, (Int.tmod (bt (a0.extract 0 ((ji2) : Int).toNat) x5_2) 10) = j_ := ⟨_, rfl⟩
                    replace H : (if 0 ≤ (ji15) then (if (ji15) < 10 then (if (Int.tmod (bt (a0.extract 0 ((ji2) : Int).toNat) x5_2) 3) = 0 then (if (bt (⟨#[97, 98, 99, 120, 121, 122, 48, 49, 56, 57]⟩ : ByteArray) (ji15)) ≥ 97 then (if x4_2.size + 1 ≤ 9223372036854775807 then ((some (([bt (⟨#[97, 98, 99, 120, 121, 122, 48, 49, 56, 57]⟩ : ByteArray) (ji15)] : List Int) : List Int)).bind fun y507 => (if (x4_2 ++ (⟨#[95]⟩ : ByteArray)).size + (strOfNums y507).size ≤ 9223372036854775807 then (signetrylaw02_TextKeys.l0 k2 (a0.extract 0 ((ji2) : Int).toNat) t505 ((x4_2 ++ (⟨#[95]⟩ : ByteArray)) ++ (strOfNums y507)) (wrap64 (x5_2 + 1))) else (none))) else (none)) else ((some (([bt (⟨#[97, 98, 99, 120, 121, 122, 48, 49, 56, 57]⟩ : ByteArray) (ji15)] : List Int) : List Int)).bind fun y510 => (if x4_2.size + (strOfNums y510).size ≤ 9223372036854775807 then (signetrylaw02_TextKeys.l0 k2 (a0.extract 0 ((ji2) : Int).toNat) t505 (x4_2 ++ (strOfNums y510)) (wrap64 (x5_2 + 1))) else (none)))) else ((some (([bt (⟨#[97, 98, 99, 120, 121, 122, 48, 49, 56, 57]⟩ : ByteArray) (ji15)] : List Int) : List Int)).bind fun y513 => (if x4_2.size + (strOfNums y513).size ≤ 9223372036854775807 then (signetrylaw02_TextKeys.l0 k2 (a0.extract 0 ((ji2) : Int).toNat) t505 (x4_2 ++ (strOfNums y513)) (wrap64 (x5_2 + 1))) else (none)))) else (none)) else (none)) = some r := by first | (rw [hji15] at H; exact H) | (simp only [hji15] at H ⊢; exact H)
                    by_cases c16 : 0 ≤ (ji15)
                    · rw [if_pos c16] at H
                      have c16b0 : decide (0 ≤ (ji15)) = true := decide_eq_true c16
                      clear c16
                      by_cases c17 : (ji15) < 10
                      · rw [if_pos c17] at H
                        have c17b0 : decide ((ji15) < 10) = true := decide_eq_true c17
                        clear c17
                        by_cases c20 : (Int.tmod (bt (a0.extract 0 ((ji2) : Int).toNat) x5_2) 3) = 0
                        · rw [if_pos c20] at H
                          have c20b0 : ((Int.tmod (bt (a0.extract 0 ((ji2) : Int).toNat) x5_2) 3) == 0) = true := beq_iff_eq.mpr c20
                          have c20b1 : ((Int.tmod (bt (a0.extract 0 ((ji2) : Int).toNat) x5_2) 3) != 0) = false := bne_eq_false_iff_eq.mpr c20
                          clear c20
                          by_cases c21 : (bt (⟨#[97, 98, 99, 120, 121, 122, 48, 49, 56, 57]⟩ : ByteArray) (ji15)) ≥ 97
                          · rw [if_pos c21] at H
                            have c21b0 : decide (97 ≤ (bt (⟨#[97, 98, 99, 120, 121, 122, 48, 49, 56, 57]⟩ : ByteArray) (ji15))) = true := decide_eq_true c21
                            clear c21
                            by_cases c22 : x4_2.size + 1 ≤ 9223372036854775807
                            · rw [if_pos c22] at H
                              have c22b0 := eq_true c22
                              have c22b1 : decide (x4_2.size + 1 ≤ 9223372036854775807) = true := decide_eq_true c22
                              try have c22b2 : (9223372036854775807 < x4_2.size + 1) = False := eq_false (Nat.not_lt.2 c22)
                              obtain ⟨y507, hy507⟩ : ∃ y_ : List Int, y_ = (([bt (⟨#[97, 98, 99, 120, 121, 122, 48, 49, 56, 57]⟩ : ByteArray) (ji15)] : List Int)) := ⟨_, rfl⟩
                              replace H : (if (x4_2 ++ (⟨#[95]⟩ : ByteArray)).size + (strOfNums y507).size ≤ 9223372036854775807 then (signetrylaw02_TextKeys.l0 k2 (a0.extract 0 ((ji2) : Int).toNat) t505 ((x4_2 ++ (⟨#[95]⟩ : ByteArray)) ++ (strOfNums y507)) (wrap64 (x5_2 + 1))) else (none)) = some r := by first | (rw [hy507]; with_reducible exact H) | (have H2_ := (Option.bind_some _ _).symm.trans H; rw [hy507]; with_reducible exact H2_) | (have H2_ := (Option.bind_some _ _).symm.trans H; with_reducible exact H2_) | with_reducible exact H | (rw [hy507]; exact H) | exact H
                              have Ny507 := Aside0.mk hy507
                              clear hy507
                              by_cases c23 : (x4_2 ++ (⟨#[95]⟩ : ByteArray)).size + (strOfNums y507).size ≤ 9223372036854775807
                              · rw [if_pos c23] at H
                                have c23b0 := eq_true c23
                                have c23b1 : decide ((x4_2 ++ (⟨#[95]⟩ : ByteArray)).size + (strOfNums y507).size ≤ 9223372036854775807) = true := decide_eq_true c23
                                try have c23b2 : (9223372036854775807 < (x4_2 ++ (⟨#[95]⟩ : ByteArray)).size + (strOfNums y507).size) = False := eq_false (Nat.not_lt.2 c23)
                                have H' := Aside0.mk H
                                clear H
                                have p14 : 0 ≤ (x5_2 : Int) := of_decide_eq_true (by first | (with_reducible assumption) | assumption)
                                have q14 : x5_2 < ((a0.extract 0 ((ji2) : Int).toNat).size : Int) := of_decide_eq_true (by first | (with_reducible assumption) | assumption)
                                have hx14 := bt_at (a0.extract 0 ((ji2) : Int).toNat) x5_2
                                replace p14 := eq_true p14
                                replace q14 := eq_true q14
                                have p18 : 0 ≤ ((ji15) : Int) := of_decide_eq_true (by first | (with_reducible assumption) | assumption)
                                have q18 : (ji15) < (10 : Int) := of_decide_eq_true (by first | (with_reducible assumption) | assumption)
                                have hx18 := bt_at (⟨#[97, 98, 99, 120, 121, 122, 48, 49, 56, 57]⟩ : ByteArray) (ji15)
                                replace p18 := eq_true p18
                                replace q18 := eq_true q18
                                have p19 : 0 ≤ (x5_2 : Int) := of_decide_eq_true (by first | (with_reducible assumption) | assumption)
                                have q19 : x5_2 < ((a0.extract 0 ((ji2) : Int).toNat).size : Int) := of_decide_eq_true (by first | (with_reducible assumption) | assumption)
                                have hx19 := bt_at (a0.extract 0 ((ji2) : Int).toNat) x5_2
                                replace p19 := eq_true p19
                                replace q19 := eq_true q19
                                go_wp2_with (first | ((with_reducible refine gate_dst (N := 54) rfl ?_); (try (refine gate_guard (by rfl) ?_; dsimp only)); refine Kd.R_lit (Kd.int .u8) _ 5 ?hg (N := 54) ?hd (xs := ([bt (⟨#[97, 98, 99, 120, 121, 122, 48, 49, 56, 57]⟩ : ByteArray) (ji15)] : List Int)) (inner := [.int .u8 (bt (⟨#[97, 98, 99, 120, 121, 122, 48, 49, 56, 57]⟩ : ByteArray) (ji15))]) (ok := fun _ => True) (okp := fun _ => True) ?hr ?hp (fun _ hk => hk) trivial (Below.refl _ _) (Nat.le_refl _) (by simp) ?_; (case hd => rfl); (case hg => rfl); (case hr => first | (go_simp; done) | (go_simp; rfl)); (case hp => exact (Reps.one (show Kd.M (Kd.int .u8) _ _ _ (bt (⟨#[97, 98, 99, 120, 121, 122, 48, 49, 56, 57]⟩ : ByteArray) (ji15)) [.int .u8 (bt (⟨#[97, 98, 99, 120, 121, 122, 48, 49, 56, 57]⟩ : ByteArray) (ji15))] from rfl) (Reps.none _ _))); intro v508 w24 ho25 hb hg_ hnew_; clear hg_ hnew_; (first | rw [← Ny507.out] at ho25 | (simp only [Int.reduceToNat] at ho25; rw [← Ny507.out] at ho25)); have n0_ := Aside0.mk (Kd.R_lower ho25 (below_size (by repeat (first | (with_reducible first | exact HB.out | apply below_alloc | apply pw_below_drewN | apply below_drew1) | exact HB.out)))); have n1_ := Aside0.mk (below_step (by repeat (first | (with_reducible first | exact HB.out | apply below_alloc | apply pw_below_drewN | apply below_drew1) | exact HB.out)) hb); clear HB; have HO509 := n0_; have HB := n1_; clear n0_ n1_; clear hb ho25; have hcv26 := own_string (P := Tryd.prog) Tryd.underlying22 Tryd.underlying5 Tryd.underlying9 (Kd.own_of_R HO509.out)))
                                go_roundg k2
                                case measure => have := HJ5.out; have := HK2.out; omega
                                case rel => exact ⟨((x4_2 ++ (⟨#[95]⟩ : ByteArray)) ++ (strOfNums y507)), (wrap64 (x5_2 + 1)), (by first | rfl | (simp; done) | (simp [*]; done)), (by first | rfl | (simp; done) | (simp [*]; done)), H', ⟨by have := HJ5.out; have := HK2.out; omega⟩, ⟨by repeat (first | (with_reducible first | exact HB.out | apply below_alloc | apply pw_below_drewN | apply below_drew1) | exact HB.out)⟩⟩
                              · rw [if_neg c23] at H
                                exact absurd H (by simp)
                            · rw [if_neg c22] at H
                              exact absurd H (by simp)
                          · rw [if_neg c21] at H
                            have c21b0 : decide (97 ≤ (bt (⟨#[97, 98, 99, 120, 121, 122, 48, 49, 56, 57]⟩ : ByteArray) (ji15))) = false := decide_eq_false c21
                            clear c21
                            obtain ⟨y510, hy510⟩ : ∃ y_ : List Int, y_ = (([bt (⟨#[97, 98, 99, 120, 121, 122, 48, 49, 56, 57]⟩ : ByteArray) (ji15)] : List Int)) := ⟨_, rfl⟩
                            replace H : (if x4_2.size + (strOfNums y510).size ≤ 9223372036854775807 then (signetrylaw02_TextKeys.l0 k2 (a0.extract 0 ((ji2) : Int).toNat) t505 (x4_2 ++ (strOfNums y510)) (wrap64 (x5_2 + 1))) else (none)) = some r := by first | (rw [hy510]; with_reducible exact H) | (have H2_ := (Option.bind_some _ _).symm.trans H; rw [hy510]; with_reducible exact H2_) | (have H2_ := (Option.bind_some _ _).symm.trans H; with_reducible exact H2_) | with_reducible exact H | (rw [hy510]; exact H) | exact H
                            have Ny510 := Aside0.mk hy510
                            clear hy510
                            by_cases c27 : x4_2.size + (strOfNums y510).size ≤ 9223372036854775807
                            · rw [if_pos c27] at H
                              have c27b0 := eq_true c27
                              have c27b1 : decide (x4_2.size + (strOfNums y510).size ≤ 9223372036854775807) = true := decide_eq_true c27
                              try have c27b2 : (9223372036854775807 < x4_2.size + (strOfNums y510).size) = False := eq_false (Nat.not_lt.2 c27)
                              have H' := Aside0.mk H
                              clear H
                              have p14 : 0 ≤ (x5_2 : Int) := of_decide_eq_true (by first | (with_reducible assumption) | assumption)
                              have q14 : x5_2 < ((a0.extract 0 ((ji2) : Int).toNat).size : Int) := of_decide_eq_true (by first | (with_reducible assumption) | assumption)
                              have hx14 := bt_at (a0.extract 0 ((ji2) : Int).toNat) x5_2
                              replace p14 := eq_true p14
                              replace q14 := eq_true q14
                              have p18 : 0 ≤ ((ji15) : Int) := of_decide_eq_true (by first | (with_reducible assumption) | assumption)
                              have q18 : (ji15) < (10 : Int) := of_decide_eq_true (by first | (with_reducible assumption) | assumption)
                              have hx18 := bt_at (⟨#[97, 98, 99, 120, 121, 122, 48, 49, 56, 57]⟩ : ByteArray) (ji15)
                              replace p18 := eq_true p18
                              replace q18 := eq_true q18
                              have p19 : 0 ≤ (x5_2 : Int) := of_decide_eq_true (by first | (with_reducible assumption) | assumption)
                              have q19 : x5_2 < ((a0.extract 0 ((ji2) : Int).toNat).size : Int) := of_decide_eq_true (by first | (with_reducible assumption) | assumption)
                              have hx19 := bt_at (a0.extract 0 ((ji2) : Int).toNat) x5_2
                              replace p19 := eq_true p19
                              replace q19 := eq_true q19
                              go_wp2_with (first | ((with_reducible refine gate_dst (N := 54) rfl ?_); (try (refine gate_guard (by rfl) ?_; dsimp only)); refine Kd.R_lit (Kd.int .u8) _ 5 ?hg (N := 54) ?hd (xs := ([bt (⟨#[97, 98, 99, 120, 121, 122, 48, 49, 56, 57]⟩ : ByteArray) (ji15)] : List Int)) (inner := [.int .u8 (bt (⟨#[97, 98, 99, 120, 121, 122, 48, 49, 56, 57]⟩ : ByteArray) (ji15))]) (ok := fun _ => True) (okp := fun _ => True) ?hr ?hp (fun _ hk => hk) trivial (Below.refl _ _) (Nat.le_refl _) (by simp) ?_; (case hd => rfl); (case hg => rfl); (case hr => first | (go_simp; done) | (go_simp; rfl)); (case hp => exact (Reps.one (show Kd.M (Kd.int .u8) _ _ _ (bt (⟨#[97, 98, 99, 120, 121, 122, 48, 49, 56, 57]⟩ : ByteArray) (ji15)) [.int .u8 (bt (⟨#[97, 98, 99, 120, 121, 122, 48, 49, 56, 57]⟩ : ByteArray) (ji15))] from rfl) (Reps.none _ _))); intro v511 w28 ho29 hb hg_ hnew_; clear hg_ hnew_; (first | rw [← Ny510.out] at ho29 | (simp only [Int.reduceToNat] at ho29; rw [← Ny510.out] at ho29)); have n0_ := Aside0.mk (Kd.R_lower ho29 (below_size (by repeat (first | (with_reducible first | exact HB.out | apply below_alloc | apply pw_below_drewN | apply below_drew1) | exact HB.out)))); have n1_ := Aside0.mk (below_step (by repeat (first | (with_reducible first | exact HB.out | apply below_alloc | apply pw_below_drewN | apply below_drew1) | exact HB.out)) hb); clear HB; have HO512 := n0_; have HB := n1_; clear n0_ n1_; clear hb ho29; have hcv30 := own_string (P := Tryd.prog) Tryd.underlying22 Tryd.underlying5 Tryd.underlying9 (Kd.own_of_R HO512.out)))
                              go_roundg k2
                              case measure => have := HJ5.out; have := HK2.out; omega
                              case rel => exact ⟨(x4_2 ++ (strOfNums y510)), (wrap64 (x5_2 + 1)), (by first | rfl | (simp; done) | (simp [*]; done)), (by first | rfl | (simp; done) | (simp [*]; done)), H', ⟨by have := HJ5.out; have := HK2.out; omega⟩, ⟨by repeat (first | (with_reducible first | exact HB.out | apply below_alloc | apply pw_below_drewN | apply below_drew1) | exact HB.out)⟩⟩
                            · rw [if_neg c27] at H
                              exact absurd H (by simp)
                        · rw [if_neg c20] at H
                          have c20b0 : ((Int.tmod (bt (a0.extract 0 ((ji2) : Int).toNat) x5_2) 3) == 0) = false := beq_eq_false_iff_ne.mpr c20
                          have c20b1 : ((Int.tmod (bt (a0.extract 0 ((ji2) : Int).toNat) x5_2) 3) != 0) = true := bne_iff_ne.mpr c20
                          obtain ⟨y513, hy513⟩ : ∃ y_ : List Int, y_ = (([bt (⟨#[97, 98, 99, 120, 121, 122, 48, 49, 56, 57]⟩ : ByteArray) (ji15)] : List Int)) := ⟨_, rfl⟩
                          replace H : (if x4_2.size + (strOfNums y513).size ≤ 9223372036854775807 then (signetrylaw02_TextKeys.l0 k2 (a0.extract 0 ((ji2) : Int).toNat) t505 (x4_2 ++ (strOfNums y513)) (wrap64 (x5_2 + 1))) else (none)) = some r := by first | (rw [hy513]; with_reducible exact H) | (have H2_ := (Option.bind_some _ _).symm.trans H; rw [hy513]; with_reducible exact H2_) | (have H2_ := (Option.bind_some _ _).symm.trans H; with_reducible exact H2_) | with_reducible exact H | (rw [hy513]; exact H) | exact H
                          have Ny513 := Aside0.mk hy513
                          clear hy513
                          by_cases c31 : x4_2.size + (strOfNums y513).size ≤ 9223372036854775807
                          · rw [if_pos c31] at H
                            have c31b0 := eq_true c31
                            have c31b1 : decide (x4_2.size + (strOfNums y513).size ≤ 9223372036854775807) = true := decide_eq_true c31
                            try have c31b2 : (9223372036854775807 < x4_2.size + (strOfNums y513).size) = False := eq_false (Nat.not_lt.2 c31)
                            have H' := Aside0.mk H
                            clear H
                            have p14 : 0 ≤ (x5_2 : Int) := of_decide_eq_true (by first | (with_reducible assumption) | assumption)
                            have q14 : x5_2 < ((a0.extract 0 ((ji2) : Int).toNat).size : Int) := of_decide_eq_true (by first | (with_reducible assumption) | assumption)
                            have hx14 := bt_at (a0.extract 0 ((ji2) : Int).toNat) x5_2
                            replace p14 := eq_true p14
                            replace q14 := eq_true q14
                            have p18 : 0 ≤ ((ji15) : Int) := of_decide_eq_true (by first | (with_reducible assumption) | assumption)
                            have q18 : (ji15) < (10 : Int) := of_decide_eq_true (by first | (with_reducible assumption) | assumption)
                            have hx18 := bt_at (⟨#[97, 98, 99, 120, 121, 122, 48, 49, 56, 57]⟩ : ByteArray) (ji15)
                            replace p18 := eq_true p18
                            replace q18 := eq_true q18
                            have p19 : 0 ≤ (x5_2 : Int) := of_decide_eq_true (by first | (with_reducible assumption) | assumption)
                            have q19 : x5_2 < ((a0.extract 0 ((ji2) : Int).toNat).size : Int) := of_decide_eq_true (by first | (with_reducible assumption) | assumption)
                            have hx19 := bt_at (a0.extract 0 ((ji2) : Int).toNat) x5_2
                            replace p19 := eq_true p19
                            replace q19 := eq_true q19
                            go_wp2_with (first | ((with_reducible refine gate_dst (N := 54) rfl ?_); (try (refine gate_guard (by rfl) ?_; dsimp only)); refine Kd.R_lit (Kd.int .u8) _ 5 ?hg (N := 54) ?hd (xs := ([bt (⟨#[97, 98, 99, 120, 121, 122, 48, 49, 56, 57]⟩ : ByteArray) (ji15)] : List Int)) (inner := [.int .u8 (bt (⟨#[97, 98, 99, 120, 121, 122, 48, 49, 56, 57]⟩ : ByteArray) (ji15))]) (ok := fun _ => True) (okp := fun _ => True) ?hr ?hp (fun _ hk => hk) trivial (Below.refl _ _) (Nat.le_refl _) (by simp) ?_; (case hd => rfl); (case hg => rfl); (case hr => first | (go_simp; done) | (go_simp; rfl)); (case hp => exact (Reps.one (show Kd.M (Kd.int .u8) _ _ _ (bt (⟨#[97, 98, 99, 120, 121, 122, 48, 49, 56, 57]⟩ : ByteArray) (ji15)) [.int .u8 (bt (⟨#[97, 98, 99, 120, 121, 122, 48, 49, 56, 57]⟩ : ByteArray) (ji15))] from rfl) (Reps.none _ _))); intro v514 w32 ho33 hb hg_ hnew_; clear hg_ hnew_; (first | rw [← Ny513.out] at ho33 | (simp only [Int.reduceToNat] at ho33; rw [← Ny513.out] at ho33)); have n0_ := Aside0.mk (Kd.R_lower ho33 (below_size (by repeat (first | (with_reducible first | exact HB.out | apply below_alloc | apply pw_below_drewN | apply below_drew1) | exact HB.out)))); have n1_ := Aside0.mk (below_step (by repeat (first | (with_reducible first | exact HB.out | apply below_alloc | apply pw_below_drewN | apply below_drew1) | exact HB.out)) hb); clear HB; have HO515 := n0_; have HB := n1_; clear n0_ n1_; clear hb ho33; have hcv34 := own_string (P := Tryd.prog) Tryd.underlying22 Tryd.underlying5 Tryd.underlying9 (Kd.own_of_R HO515.out)))
                            go_roundg k2
                            case measure => have := HJ5.out; have := HK2.out; omega
                            case rel => exact ⟨(x4_2 ++ (strOfNums y513)), (wrap64 (x5_2 + 1)), (by first | rfl | (simp; done) | (simp [*]; done)), (by first | rfl | (simp; done) | (simp [*]; done)), H', ⟨by have := HJ5.out; have := HK2.out; omega⟩, ⟨by repeat (first | (with_reducible first | exact HB.out | apply below_alloc | apply pw_below_drewN | apply below_drew1) | exact HB.out)⟩⟩
                          · rw [if_neg c31] at H
                            exact absurd H (by simp)
                      · rw [if_neg c17] at H
                        exact absurd H (by simp)
                    · rw [if_neg c16] at H
                      exact absurd H (by simp)
                  · rw [if_neg c13] at H
                    exact absurd H (by simp)
                · rw [if_neg c12] at H
                  have c12b0 : decide (x5_2 < ((a0.extract 0 ((ji2) : Int).toNat).size : Int)) = false := decide_eq_false c12
                  clear c12
                  replace H := Option.bind_eq_some_iff.mp H
                  obtain ⟨t516, A350, H⟩ := H
                  replace H : (signetrylaw02_TextKeys.l1 k2 t505 x4_2 (⟨#[]⟩ : ByteArray) t516 0) = some r := H
                  have A35 := Aside0.mk A350
                  clear A350
                  have H' := Aside0.mk H
                  clear H
                  go_wp2_with (first | ((with_reducible refine gate_callee (f := 26) rfl ?_); refine goesL_ (some 58) rfl rfl Tryd.func26 (by kernel_rfl) rfl #[.string x4_2] rfl (by (try simp only [List.map_toArray, List.map_cons, List.map_nil]); first | done | rfl | (simp only [List.length_drop, List.length_take]; rfl)) ?_; (with_reducible refine (text_Key.calls x4_2 t516 _ A35.out).mono ?_); rintro e w36 ⟨rfl, hb⟩; refine ⟨_, rfl, ?_⟩; have n0_ := Aside0.mk (below_step (by repeat (first | (with_reducible first | exact HB.out | apply below_alloc | apply pw_below_drewN | apply below_drew1) | exact HB.out)) hb); clear HB; have HB := n0_; clear n0_; (try clear hb); (try clear hb2); (try clear hk); (try clear hi)))
                  go_loopg [7, 9] k2 (fun kq v7 v9 w' => ∃ (x7_3 : ByteArray) (x9_3 : Int), v7 = .string x7_3 ∧ v9 = .int .i64 x9_3 ∧ Aside0 (signetrylaw02_TextKeys.l1 kq t505 x4_2 x7_3 t516 x9_3 = some r) ∧ Aside0 (kq ≤ k2) ∧ Aside0 (Below w.heap.size w w'))
                  case atStart => exact ⟨((⟨#[]⟩ : ByteArray)), (0), (by first | rfl | (simp; done) | (simp [*]; done)), (by first | rfl | (simp; done) | (simp [*]; done)), H', ⟨Nat.le_refl _⟩, ⟨by repeat (first | (with_reducible first | exact HB.out | apply below_alloc | apply pw_below_drewN | apply below_drew1) | exact HB.out)⟩⟩
                  case round =>
                    clear H'
                    try clear c1
                    try clear p1
                    try clear q1
                    try clear hx1
                    try clear c2
                    try clear p2
                    try clear hcv2
                    try clear c3
                    try clear c3b0
                    try clear c3b1
                    try clear hcv3
                    try clear c4
                    try clear c4b0
                    try clear c4b1
                    try clear p6
                    try clear c9
                    try clear c9b0
                    try clear c9b1
                    try clear c10
                    try clear c11
                    try clear c12
                    try clear c12b0
                    try clear c13
                    try clear c13b0
                    try clear p14
                    try clear q14
                    try clear hx14
                    try clear c16
                    try clear c16b0
                    try clear c17
                    try clear c17b0
                    try clear p18
                    try clear q18
                    try clear hx18
                    try clear p19
                    try clear q19
                    try clear hx19
                    try clear c20
                    try clear c20b0
                    try clear c20b1
                    try clear c21
                    try clear c21b0
                    try clear c22
                    try clear c22b0
                    try clear c22b1
                    try clear c22b2
                    try clear c23
                    try clear c23b0
                    try clear c23b1
                    try clear c23b2
                    try clear c26
                    try clear hcv26
                    try clear c27
                    try clear c27b0
                    try clear c27b1
                    try clear c27b2
                    try clear hcv30
                    try clear c31
                    try clear c31b0
                    try clear c31b1
                    try clear c31b2
                    try clear hcv34
                    try clear p14
                    try clear p18
                    try clear p19
                    try clear p2
                    try clear q14
                    try clear q18
                    try clear q19
                    obtain ⟨x7_3, x9_3, rfl, rfl, HA, HK3, HB⟩ := hrel
                    cases gk with
                    | zero => exact absurd HA.out (by simp [signetrylaw02_TextKeys.l1])
                    | succ k3 =>
                      have H := HA.out
                      clear HA
                      simp only [signetrylaw02_TextKeys.l1] at H
                      by_cases c37 : x9_3 < (t516.size : Int)
                      · rw [if_pos c37] at H
                        have c37b0 : decide (x9_3 < (t516.size : Int)) = true := decide_eq_true c37
                        clear c37
                        by_cases c38 : 0 ≤ x9_3
                        · rw [if_pos c38] at H
                          have c38b0 : decide (0 ≤ x9_3) = true := decide_eq_true c38
                          clear c38
                          by_cases c40 : (bt t516 x9_3) ≥ 65
                          · rw [if_pos c40] at H
                            have c40b0 : decide (65 ≤ (bt t516 x9_3)) = true := decide_eq_true c40
                            clear c40
                            by_cases c41 : (bt t516 x9_3) ≤ 90
                            · rw [if_pos c41] at H
                              have c41b0 : decide ((bt t516 x9_3) ≤ 90) = true := decide_eq_true c41
                              clear c41
                              by_cases c42 : x7_3.size + 1 ≤ 9223372036854775807
                              · rw [if_pos c42] at H
                                have c42b0 := eq_true c42
                                have c42b1 : decide (x7_3.size + 1 ≤ 9223372036854775807) = true := decide_eq_true c42
                                try have c42b2 : (9223372036854775807 < x7_3.size + 1) = False := eq_false (Nat.not_lt.2 c42)
                                obtain ⟨y517, hy517⟩ : ∃ y_ : List Int, y_ = (([((((bt t516 x9_3) - 65) % 256) + 97) % 256] : List Int)) := ⟨_, rfl⟩
                                replace H : (if (x7_3 ++ (⟨#[95]⟩ : ByteArray)).size + (strOfNums y517).size ≤ 9223372036854775807 then (signetrylaw02_TextKeys.l1 k3 t505 x4_2 ((x7_3 ++ (⟨#[95]⟩ : ByteArray)) ++ (strOfNums y517)) t516 (wrap64 (x9_3 + 1))) else (none)) = some r := by first | (rw [hy517]; with_reducible exact H) | (have H2_ := (Option.bind_some _ _).symm.trans H; rw [hy517]; with_reducible exact H2_) | (have H2_ := (Option.bind_some _ _).symm.trans H; with_reducible exact H2_) | with_reducible exact H | (rw [hy517]; exact H) | exact H
                                have Ny517 := Aside0.mk hy517
                                clear hy517
                                by_cases c43 : (x7_3 ++ (⟨#[95]⟩ : ByteArray)).size + (strOfNums y517).size ≤ 9223372036854775807
                                · rw [if_pos c43] at H
                                  have c43b0 := eq_true c43
                                  have c43b1 : decide ((x7_3 ++ (⟨#[95]⟩ : ByteArray)).size + (strOfNums y517).size ≤ 9223372036854775807) = true := decide_eq_true c43
                                  try have c43b2 : (9223372036854775807 < (x7_3 ++ (⟨#[95]⟩ : ByteArray)).size + (strOfNums y517).size) = False := eq_false (Nat.not_lt.2 c43)
                                  have H' := Aside0.mk H
                                  clear H
                                  have p39 : 0 ≤ (x9_3 : Int) := of_decide_eq_true (by first | (with_reducible assumption) | assumption)
                                  have q39 : x9_3 < (t516.size : Int) := of_decide_eq_true (by first | (with_reducible assumption) | assumption)
                                  have hx39 := bt_at t516 x9_3
                                  replace p39 := eq_true p39
                                  replace q39 := eq_true q39
                                  go_wp2_with (first | ((with_reducible refine gate_dst (N := 79) rfl ?_); (try (refine gate_guard (by rfl) ?_; dsimp only)); refine Kd.R_lit (Kd.int .u8) _ 5 ?hg (N := 79) ?hd (xs := ([((((bt t516 x9_3) - 65) % 256) + 97) % 256] : List Int)) (inner := [.int .u8 (((((bt t516 x9_3) - 65) % 256) + 97) % 256)]) (ok := fun _ => True) (okp := fun _ => True) ?hr ?hp (fun _ hk => hk) trivial (Below.refl _ _) (Nat.le_refl _) (by simp) ?_; (case hd => rfl); (case hg => rfl); (case hr => first | (go_simp; done) | (go_simp; rfl)); (case hp => exact (Reps.one (show Kd.M (Kd.int .u8) _ _ _ (((((bt t516 x9_3) - 65) % 256) + 97) % 256) [.int .u8 (((((bt t516 x9_3) - 65) % 256) + 97) % 256)] from rfl) (Reps.none _ _))); intro v518 w44 ho45 hb hg_ hnew_; clear hg_ hnew_; (first | rw [← Ny517.out] at ho45 | (simp only [Int.reduceToNat] at ho45; rw [← Ny517.out] at ho45)); have n0_ := Aside0.mk (Kd.R_lower ho45 (below_size (by repeat (first | (with_reducible first | exact HB.out | apply below_alloc | apply pw_below_drewN | apply below_drew1) | exact HB.out)))); have n1_ := Aside0.mk (below_step (by repeat (first | (with_reducible first | exact HB.out | apply below_alloc | apply pw_below_drewN | apply below_drew1) | exact HB.out)) hb); clear HB; have HO519 := n0_; have HB := n1_; clear n0_ n1_; clear hb ho45; have hcv46 := own_string (P := Tryd.prog) Tryd.underlying22 Tryd.underlying5 Tryd.underlying9 (Kd.own_of_R HO519.out)))
                                  go_roundg k3
                                  case measure => have := HJ5.out; have := HK2.out; have := HK3.out; omega
                                  case rel => exact ⟨((x7_3 ++ (⟨#[95]⟩ : ByteArray)) ++ (strOfNums y517)), (wrap64 (x9_3 + 1)), (by first | rfl | (simp; done) | (simp [*]; done)), (by first | rfl | (simp; done) | (simp [*]; done)), H', ⟨by have := HJ5.out; have := HK2.out; have := HK3.out; omega⟩, ⟨by repeat (first | (with_reducible first | exact HB.out | apply below_alloc | apply pw_below_drewN | apply below_drew1) | exact HB.out)⟩⟩
                                · rw [if_neg c43] at H
                                  exact absurd H (by simp)
                              · rw [if_neg c42] at H
                                exact absurd H (by simp)
                            · rw [if_neg c41] at H
                              have c41b0 : decide ((bt t516 x9_3) ≤ 90) = false := decide_eq_false c41
                              clear c41
                              obtain ⟨y520, hy520⟩ : ∃ y_ : List Int, y_ = (([bt t516 x9_3] : List Int)) := ⟨_, rfl⟩
                              replace H : (if x7_3.size + (strOfNums y520).size ≤ 9223372036854775807 then (signetrylaw02_TextKeys.l1 k3 t505 x4_2 (x7_3 ++ (strOfNums y520)) t516 (wrap64 (x9_3 + 1))) else (none)) = some r := by first | (rw [hy520]; with_reducible exact H) | (have H2_ := (Option.bind_some _ _).symm.trans H; rw [hy520]; with_reducible exact H2_) | (have H2_ := (Option.bind_some _ _).symm.trans H; with_reducible exact H2_) | with_reducible exact H | (rw [hy520]; exact H) | exact H
                              have Ny520 := Aside0.mk hy520
                              clear hy520
                              by_cases c47 : x7_3.size + (strOfNums y520).size ≤ 9223372036854775807
                              · rw [if_pos c47] at H
                                have c47b0 := eq_true c47
                                have c47b1 : decide (x7_3.size + (strOfNums y520).size ≤ 9223372036854775807) = true := decide_eq_true c47
                                try have c47b2 : (9223372036854775807 < x7_3.size + (strOfNums y520).size) = False := eq_false (Nat.not_lt.2 c47)
                                have H' := Aside0.mk H
                                clear H
                                have p39 : 0 ≤ (x9_3 : Int) := of_decide_eq_true (by first | (with_reducible assumption) | assumption)
                                have q39 : x9_3 < (t516.size : Int) := of_decide_eq_true (by first | (with_reducible assumption) | assumption)
                                have hx39 := bt_at t516 x9_3
                                replace p39 := eq_true p39
                                replace q39 := eq_true q39
                                go_wp2_with (first | ((with_reducible refine gate_dst (N := 84) rfl ?_); (try (refine gate_guard (by rfl) ?_; dsimp only)); refine Kd.R_lit (Kd.int .u8) _ 5 ?hg (N := 84) ?hd (xs := ([bt t516 x9_3] : List Int)) (inner := [.int .u8 (bt t516 x9_3)]) (ok := fun _ => True) (okp := fun _ => True) ?hr ?hp (fun _ hk => hk) trivial (Below.refl _ _) (Nat.le_refl _) (by simp) ?_; (case hd => rfl); (case hg => rfl); (case hr => first | (go_simp; done) | (go_simp; rfl)); (case hp => exact (Reps.one (show Kd.M (Kd.int .u8) _ _ _ (bt t516 x9_3) [.int .u8 (bt t516 x9_3)] from rfl) (Reps.none _ _))); intro v521 w48 ho49 hb hg_ hnew_; clear hg_ hnew_; (first | rw [← Ny520.out] at ho49 | (simp only [Int.reduceToNat] at ho49; rw [← Ny520.out] at ho49)); have n0_ := Aside0.mk (Kd.R_lower ho49 (below_size (by repeat (first | (with_reducible first | exact HB.out | apply below_alloc | apply pw_below_drewN | apply below_drew1) | exact HB.out)))); have n1_ := Aside0.mk (below_step (by repeat (first | (with_reducible first | exact HB.out | apply below_alloc | apply pw_below_drewN | apply below_drew1) | exact HB.out)) hb); clear HB; have HO522 := n0_; have HB := n1_; clear n0_ n1_; clear hb ho49; have hcv50 := own_string (P := Tryd.prog) Tryd.underlying22 Tryd.underlying5 Tryd.underlying9 (Kd.own_of_R HO522.out)))
                                go_roundg k3
                                case measure => have := HJ5.out; have := HK2.out; have := HK3.out; omega
                                case rel => exact ⟨(x7_3 ++ (strOfNums y520)), (wrap64 (x9_3 + 1)), (by first | rfl | (simp; done) | (simp [*]; done)), (by first | rfl | (simp; done) | (simp [*]; done)), H', ⟨by have := HJ5.out; have := HK2.out; have := HK3.out; omega⟩, ⟨by repeat (first | (with_reducible first | exact HB.out | apply below_alloc | apply pw_below_drewN | apply below_drew1) | exact HB.out)⟩⟩
                              · rw [if_neg c47] at H
                                exact absurd H (by simp)
                          · rw [if_neg c40] at H
                            have c40b0 : decide (65 ≤ (bt t516 x9_3)) = false := decide_eq_false c40
                            clear c40
                            obtain ⟨y523, hy523⟩ : ∃ y_ : List Int, y_ = (([bt t516 x9_3] : List Int)) := ⟨_, rfl⟩
                            replace H : (if x7_3.size + (strOfNums y523).size ≤ 9223372036854775807 then (signetrylaw02_TextKeys.l1 k3 t505 x4_2 (x7_3 ++ (strOfNums y523)) t516 (wrap64 (x9_3 + 1))) else (none)) = some r := by first | (rw [hy523]; with_reducible exact H) | (have H2_ := (Option.bind_some _ _).symm.trans H; rw [hy523]; with_reducible exact H2_) | (have H2_ := (Option.bind_some _ _).symm.trans H; with_reducible exact H2_) | with_reducible exact H | (rw [hy523]; exact H) | exact H
                            have Ny523 := Aside0.mk hy523
                            clear hy523
                            by_cases c51 : x7_3.size + (strOfNums y523).size ≤ 9223372036854775807
                            · rw [if_pos c51] at H
                              have c51b0 := eq_true c51
                              have c51b1 : decide (x7_3.size + (strOfNums y523).size ≤ 9223372036854775807) = true := decide_eq_true c51
                              try have c51b2 : (9223372036854775807 < x7_3.size + (strOfNums y523).size) = False := eq_false (Nat.not_lt.2 c51)
                              have H' := Aside0.mk H
                              clear H
                              have p39 : 0 ≤ (x9_3 : Int) := of_decide_eq_true (by first | (with_reducible assumption) | assumption)
                              have q39 : x9_3 < (t516.size : Int) := of_decide_eq_true (by first | (with_reducible assumption) | assumption)
                              have hx39 := bt_at t516 x9_3
                              replace p39 := eq_true p39
                              replace q39 := eq_true q39
                              go_wp2_with (first | ((with_reducible refine gate_dst (N := 84) rfl ?_); (try (refine gate_guard (by rfl) ?_; dsimp only)); refine Kd.R_lit (Kd.int .u8) _ 5 ?hg (N := 84) ?hd (xs := ([bt t516 x9_3] : List Int)) (inner := [.int .u8 (bt t516 x9_3)]) (ok := fun _ => True) (okp := fun _ => True) ?hr ?hp (fun _ hk => hk) trivial (Below.refl _ _) (Nat.le_refl _) (by simp) ?_; (case hd => rfl); (case hg => rfl); (case hr => first | (go_simp; done) | (go_simp; rfl)); (case hp => exact (Reps.one (show Kd.M (Kd.int .u8) _ _ _ (bt t516 x9_3) [.int .u8 (bt t516 x9_3)] from rfl) (Reps.none _ _))); intro v524 w52 ho53 hb hg_ hnew_; clear hg_ hnew_; (first | rw [← Ny523.out] at ho53 | (simp only [Int.reduceToNat] at ho53; rw [← Ny523.out] at ho53)); have n0_ := Aside0.mk (Kd.R_lower ho53 (below_size (by repeat (first | (with_reducible first | exact HB.out | apply below_alloc | apply pw_below_drewN | apply below_drew1) | exact HB.out)))); have n1_ := Aside0.mk (below_step (by repeat (first | (with_reducible first | exact HB.out | apply below_alloc | apply pw_below_drewN | apply below_drew1) | exact HB.out)) hb); clear HB; have HO525 := n0_; have HB := n1_; clear n0_ n1_; clear hb ho53; have hcv54 := own_string (P := Tryd.prog) Tryd.underlying22 Tryd.underlying5 Tryd.underlying9 (Kd.own_of_R HO525.out)))
                              go_roundg k3
                              case measure => have := HJ5.out; have := HK2.out; have := HK3.out; omega
                              case rel => exact ⟨(x7_3 ++ (strOfNums y523)), (wrap64 (x9_3 + 1)), (by first | rfl | (simp; done) | (simp [*]; done)), (by first | rfl | (simp; done) | (simp [*]; done)), H', ⟨by have := HJ5.out; have := HK2.out; have := HK3.out; omega⟩, ⟨by repeat (first | (with_reducible first | exact HB.out | apply below_alloc | apply pw_below_drewN | apply below_drew1) | exact HB.out)⟩⟩
                            · rw [if_neg c51] at H
                              exact absurd H (by simp)
                        · rw [if_neg c38] at H
                          exact absurd H (by simp)
                      · rw [if_neg c37] at H
                        have c37b0 : decide (x9_3 < (t516.size : Int)) = false := decide_eq_false c37
                        clear c37
                        have H' := Aside0.mk H
                        clear H
                        go_wp2
                        go_loopg [11] k3 (fun kq v11 w' => ∃ (x11_4 : Int), v11 = .int .i64 x11_4 ∧ Aside0 (signetrylaw02_TextKeys.l2 kq t505 x4_2 x7_3 x11_4 = some r) ∧ Aside0 (kq ≤ k3) ∧ Aside0 (Below w.heap.size w w'))
                        case atStart => exact ⟨(0), (by first | rfl | (simp; done) | (simp [*]; done)), H', ⟨Nat.le_refl _⟩, ⟨by repeat (first | (with_reducible first | exact HB.out | apply below_alloc | apply pw_below_drewN | apply below_drew1) | exact HB.out)⟩⟩
                        case round =>
                          clear H'
                          try clear c1
                          try clear p1
                          try clear q1
                          try clear hx1
                          try clear c2
                          try clear p2
                          try clear hcv2
                          try clear c3
                          try clear c3b0
                          try clear c3b1
                          try clear p3
                          try clear q3
                          try clear hx3
                          try clear hcv3
                          try clear c4
                          try clear c4b0
                          try clear c4b1
                          try clear hcv4
                          try clear c5
                          try clear hcv5
                          try clear p6
                          try clear c9
                          try clear c9b0
                          try clear c9b1
                          try clear c10
                          try clear c11
                          try clear c12
                          try clear c12b0
                          try clear c13
                          try clear c13b0
                          try clear p14
                          try clear q14
                          try clear hx14
                          try clear c16
                          try clear c16b0
                          try clear c17
                          try clear c17b0
                          try clear p18
                          try clear q18
                          try clear hx18
                          try clear p19
                          try clear q19
                          try clear hx19
                          try clear c20
                          try clear c20b0
                          try clear c20b1
                          try clear c21
                          try clear c21b0
                          try clear c22
                          try clear c22b0
                          try clear c22b1
                          try clear c22b2
                          try clear c23
                          try clear c23b0
                          try clear c23b1
                          try clear c23b2
                          try clear c26
                          try clear hcv26
                          try clear c27
                          try clear c27b0
                          try clear c27b1
                          try clear c27b2
                          try clear hcv30
                          try clear c31
                          try clear c31b0
                          try clear c31b1
                          try clear c31b2
                          try clear hcv34
                          try clear c37
                          try clear c37b0
                          try clear c38
                          try clear c38b0
                          try clear p39
                          try clear q39
                          try clear hx39
                          try clear c40
                          try clear c40b0
                          try clear c41
                          try clear c41b0
                          try clear c42
                          try clear c42b0
                          try clear c42b1
                          try clear c42b2
                          try clear c43
                          try clear c43b0
                          try clear c43b1
                          try clear c43b2
                          try clear hcv46
                          try clear c47
                          try clear c47b0
                          try clear c47b1
                          try clear c47b2
                          try clear hcv50
                          try clear c51
                          try clear c51b0
                          try clear c51b1
                          try clear c51b2
                          try clear hcv54
                          try clear p1
                          try clear p14
                          try clear p18
                          try clear p19
                          try clear p2
                          try clear p39
                          try clear p6
                          try clear q1
                          try clear q14
                          try clear q18
                          try clear q19
                          try clear q39
                          obtain ⟨x11_4, rfl, HA, HK4, HB⟩ := hrel
                          cases gk with
                          | zero => exact absurd HA.out (by simp [signetrylaw02_TextKeys.l2])
                          | succ k4 =>
                            have H := HA.out
                            clear HA
                            simp only [signetrylaw02_TextKeys.l2] at H
                            by_cases c55 : x11_4 < (t505.size : Int)
                            · rw [if_pos c55] at H
                              have c55b0 : decide (x11_4 < (t505.size : Int)) = true := decide_eq_true c55
                              clear c55
                              by_cases c56 : 0 ≤ x11_4
                              · rw [if_pos c56] at H
                                have c56b0 : decide (0 ≤ x11_4) = true := decide_eq_true c56
                                clear c56
                                by_cases c58 : (bt t505 x11_4) = 95
                                · rw [if_pos c58] at H
                                  exact absurd H (by simp)
                                · rw [if_neg c58] at H
                                  have c58b0 : ((bt t505 x11_4) == 95) = false := beq_eq_false_iff_ne.mpr c58
                                  have c58b1 : ((bt t505 x11_4) != 95) = true := bne_iff_ne.mpr c58
                                  have H' := Aside0.mk H
                                  clear H
                                  have p57 : 0 ≤ (x11_4 : Int) := of_decide_eq_true (by first | (with_reducible assumption) | assumption)
                                  have q57 : x11_4 < (t505.size : Int) := of_decide_eq_true (by first | (with_reducible assumption) | assumption)
                                  have hx57 := bt_at t505 x11_4
                                  replace p57 := eq_true p57
                                  replace q57 := eq_true q57
                                  go_wp2
                                  go_roundg k4
                                  case measure => have := HJ5.out; have := HK2.out; have := HK3.out; have := HK4.out; omega
                                  case rel => exact ⟨(wrap64 (x11_4 + 1)), (by first | rfl | (simp; done) | (simp [*]; done)), H', ⟨by have := HJ5.out; have := HK2.out; have := HK3.out; have := HK4.out; omega⟩, ⟨by repeat (first | (with_reducible first | exact HB.out | apply below_alloc | apply pw_below_drewN | apply below_drew1) | exact HB.out)⟩⟩
                              · rw [if_neg c56] at H
                                exact absurd H (by simp)
                            · rw [if_neg c55] at H
                              have c55b0 : decide (x11_4 < (t505.size : Int)) = false := decide_eq_false c55
                              clear c55
                              by_cases c59 : x7_3.toList = x4_2.toList
                              · rw [if_pos c59] at H
                                have c59b0 : (x7_3.toList == x4_2.toList) = true := beq_iff_eq.mpr c59
                                have c59b1 : (x7_3.toList != x4_2.toList) = false := bne_eq_false_iff_eq.mpr c59
                                clear c59
                                replace H := Option.bind_eq_some_iff.mp H
                                obtain ⟨t526, A600, H⟩ := H
                                replace H : (some t526) = some r := H
                                have A60 := Aside0.mk A600
                                clear A600
                                obtain rfl := Option.some.inj H
                                go_wp2_with (first | (go_at_call 21; (with_reducible refine (signetrylaw02_works.calls k4  t526 _ A60.out (HTB_.below (by repeat (first | (with_reducible first | exact HB.out | apply below_alloc | apply pw_below_drewN | apply below_drew1) | exact HB.out)))).mono ?_); rintro e w61 ⟨rfl, hb⟩; have n0_ := Aside0.mk (below_step (by repeat (first | (with_reducible first | exact HB.out | apply below_alloc | apply pw_below_drewN | apply below_drew1) | exact HB.out)) hb); clear HB; have HB := n0_; clear n0_; (try clear hb); (try clear hb2); (try clear hk); (try clear hi)))
                                go_ret
                                exact ⟨by first | rfl | (simp [errW_none, errW_some] <;> rfl) | (simp only [← hji2]; first | rfl | (simp [errW_none, errW_some] <;> rfl)) | (simp [*, errW_none, errW_some] <;> rfl), by repeat (first | (with_reducible first | exact HB.out | apply below_alloc | apply pw_below_drewN | apply below_drew1) | exact HB.out)⟩
                              · rw [if_neg c59] at H
                                exact absurd H (by simp)
    · rw [if_neg c4] at H
      exact absurd H (by simp)
  · rw [if_neg c3] at H
    exact absurd H (by simp)

/-- THE ONE PURE STATEMENT of signetrylaw02_TextKeys: yours. -/
def signetrylaw02_TextKeys.Pure : Prop := ∀ (a0 : ByteArray), a0.size ≤ 140737488351232 → ∃ k, signetrylaw02_TextKeys.f k a0 = some true
theorem signetrylaw02_TextKeys.walk (P : signetrylaw02_TextKeys.Pure) (a0 : ByteArray) (w : World) (w0 : a0.size ≤ 140737488351232) (HTB_ : Tabs w) :
    Calls Tryd.prog 10 #[.string a0] w fun e w' => e = .returned (.bool true) ∧ Below w.heap.size w w' := by
  obtain ⟨k, h⟩ := P a0 w0
  refine (signetrylaw02_TextKeys.calls k a0 true w h HTB_).mono ?_
  rintro e w' ⟨rfl, hd⟩
  exact ⟨rfl, hd⟩
end Go.Proofs.YtaklkcnohbbfoaaDoor.PAll
