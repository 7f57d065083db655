-- Written by this repo's program wip/tools/pr.py (over the kit's print) out of the translation. Not trusted: Lean checks it.
import Derived.Test.YtbclejgljegfmaaPAllx0
import Derived.Test.YtbclejgljegfmaaGV
import Derived.Test.YtbclejgljegfmaaHandWorks
namespace Go.Proofs.Ytbclejgljegfmaa.PAll
open Go.Proofs.Ytbclejgljegfmaa.Hand
open Go.RowKit Go.Proofs.YtbclejgljegfmaaW.PrintWords Go.Proofs.YtbclejgljegfmaaW.PrintLast Go.Proofs.YtbclejgljegfmaaW.PrintMore
attribute [local go_sem] max2_int min2_int max_two min_two max_three min_three max_four min_four   -- for this text's walks alone
set_option linter.unusedVariables false
set_option linter.unusedSimpArgs false

/-! ### signetrylaw01_WireZigs: function 5 -/
mutual
def signetrylaw01_WireZigs.j0 : Nat → Int → Int → Bool → Option (Bool)
  | 0, _, _, _ => none
  | k + 1, x0, x1, x20 => if x20 = true then (none) else ((wire_Zig.f x0).bind fun t392 => ((wire_Zig.f x1).bind fun t393 => (if x0 < 0 then (signetrylaw01_WireZigs.j1 k x0 x1 (IntKind.u64.wrap (wrap64 (-(wrap64 (x0 + 1))))) (IntKind.u64.wrap (Int.tdiv t393 2))) else (signetrylaw01_WireZigs.j1 k x0 x1 (IntKind.u64.wrap (Int.tdiv t392 2)) (IntKind.u64.wrap (Int.tdiv t393 2))))))
def signetrylaw01_WireZigs.j1 : Nat → Int → Int → Int → Int → Option (Bool)
  | 0, _, _, _, _ => none
  | k + 1, x0, x1, x7, x8 => if x1 < 0 then (signetrylaw01_WireZigs.j2 k x0 x1 x7 (IntKind.u64.wrap (wrap64 (-(wrap64 (x1 + 1)))))) else (signetrylaw01_WireZigs.j2 k x0 x1 x7 x8)
def signetrylaw01_WireZigs.j2 : Nat → Int → Int → Int → Int → Option (Bool)
  | 0, _, _, _, _ => none
  | k + 1, x0, x1, x7, x8 => if x7 ≥ x8 then (if x7 = x8 then ((wire_Zig.f x0).bind fun t394 => ((wire_Zig.f x1).bind fun t395 => (if (IntKind.u64.wrap ((mx t394 t395) - (mn t394 t395))) ≤ 1 then (if (((Int.tmod t394 2) == 1) == (decide (x0 < 0))) = true then ((signetrylaw01_works.f).bind fun t396 => (some t396)) else (none)) else (none)))) else ((wire_Zig.f x0).bind fun t397 => (if (((Int.tmod t397 2) == 1) == (decide (x0 < 0))) = true then ((signetrylaw01_works.f).bind fun t398 => (some t398)) else (none)))) else ((wire_Zig.f x0).bind fun t399 => ((wire_Zig.f x1).bind fun t400 => (if t399 < t400 then (if x7 = x8 then (if (IntKind.u64.wrap ((mx t399 t400) - (mn t399 t400))) ≤ 1 then (if (((Int.tmod t399 2) == 1) == (decide (x0 < 0))) = true then ((signetrylaw01_works.f).bind fun t401 => (some t401)) else (none)) else (none)) else (if (((Int.tmod t399 2) == 1) == (decide (x0 < 0))) = true then ((signetrylaw01_works.f).bind fun t402 => (some t402)) else (none))) else (none))))
end
def signetrylaw01_WireZigs.f (k : Nat) (a0 : Int) (a1 : Int) (a2 : Int) : Option (Bool) := (wire_Zig.f a0).bind fun t388 => ((wire_Zag.f t388).bind fun t389 => (if t389 = a0 then ((wire_Zag.f a2).bind fun t390 => ((wire_Zig.f t390).bind fun t391 => (signetrylaw01_WireZigs.j0 k a0 a1 (t391 != a2)))) else (signetrylaw01_WireZigs.j0 k a0 a1 true)))
theorem signetrylaw01_WireZigs.mono_l : ∀ k, (∀ y0 y1 y2, LeO (signetrylaw01_WireZigs.j0 k y0 y1 y2) (signetrylaw01_WireZigs.j0 (k + 1) y0 y1 y2)) ∧ (∀ y0 y1 y2 y3, LeO (signetrylaw01_WireZigs.j1 k y0 y1 y2 y3) (signetrylaw01_WireZigs.j1 (k + 1) y0 y1 y2 y3)) ∧ (∀ y0 y1 y2 y3, LeO (signetrylaw01_WireZigs.j2 k y0 y1 y2 y3) (signetrylaw01_WireZigs.j2 (k + 1) y0 y1 y2 y3))
  | 0 => ⟨fun _ _ _ r h => by simp [signetrylaw01_WireZigs.j0] at h, fun _ _ _ _ r h => by simp [signetrylaw01_WireZigs.j1] at h, fun _ _ _ _ r h => by simp [signetrylaw01_WireZigs.j2] at h⟩
  | k + 1 => by
    obtain ⟨ih0, ih1, ih2⟩ := signetrylaw01_WireZigs.mono_l k
    refine ⟨?_, ?_, ?_⟩
    · intro y0 y1 y2
      unfold signetrylaw01_WireZigs.j0
      repeat' first
      | (with_reducible exact ih0 _ _ _)
      | (with_reducible exact ih1 _ _ _ _)
      | (with_reducible exact ih2 _ _ _ _)
      | (with_reducible exact LeO.refl _)
      | (with_reducible exact LeO.none _)
      | (with_reducible refine LeO.ite ?_ ?_)
      | (with_reducible refine LeO.bind ?_ (fun _ => ?_))
      | exact ih0 _ _ _
      | exact ih1 _ _ _ _
      | exact ih2 _ _ _ _
      | exact LeO.none _
      | refine LeO.ite ?_ ?_
      | refine LeO.bind ?_ (fun _ => ?_)
    · intro y0 y1 y2 y3
      unfold signetrylaw01_WireZigs.j1
      repeat' first
      | (with_reducible exact ih0 _ _ _)
      | (with_reducible exact ih1 _ _ _ _)
      | (with_reducible exact ih2 _ _ _ _)
      | (with_reducible exact LeO.refl _)
      | (with_reducible exact LeO.none _)
      | (with_reducible refine LeO.ite ?_ ?_)
      | (with_reducible refine LeO.bind ?_ (fun _ => ?_))
      | exact ih0 _ _ _
      | exact ih1 _ _ _ _
      | exact ih2 _ _ _ _
      | exact LeO.none _
      | refine LeO.ite ?_ ?_
      | refine LeO.bind ?_ (fun _ => ?_)
    · intro y0 y1 y2 y3
      unfold signetrylaw01_WireZigs.j2
      repeat' first
      | (with_reducible exact ih0 _ _ _)
      | (with_reducible exact ih1 _ _ _ _)
      | (with_reducible exact ih2 _ _ _ _)
      | (with_reducible exact LeO.refl _)
      | (with_reducible exact LeO.none _)
      | (with_reducible refine LeO.ite ?_ ?_)
      | (with_reducible refine LeO.bind ?_ (fun _ => ?_))
      | exact ih0 _ _ _
      | exact ih1 _ _ _ _
      | exact ih2 _ _ _ _
      | exact LeO.none _
      | refine LeO.ite ?_ ?_
      | refine LeO.bind ?_ (fun _ => ?_)
theorem signetrylaw01_WireZigs.mono : ∀ a0 a1 a2 k, LeO (signetrylaw01_WireZigs.f k a0 a1 a2) (signetrylaw01_WireZigs.f (k + 1) a0 a1 a2) := by
  intro a0 a1 a2 k
  obtain ⟨ih0, ih1, ih2⟩ := signetrylaw01_WireZigs.mono_l k
  unfold signetrylaw01_WireZigs.f
  repeat' first
      | (with_reducible exact ih0 _ _ _)
      | (with_reducible exact ih1 _ _ _ _)
      | (with_reducible exact ih2 _ _ _ _)
      | (with_reducible exact LeO.refl _)
      | (with_reducible exact LeO.none _)
      | (with_reducible refine LeO.ite ?_ ?_)
      | (with_reducible refine LeO.bind ?_ (fun _ => ?_))
      | exact ih0 _ _ _
      | exact ih1 _ _ _ _
      | exact ih2 _ _ _ _
      | exact LeO.none _
      | refine LeO.ite ?_ ?_
      | refine LeO.bind ?_ (fun _ => ?_)
set_option maxHeartbeats 8000000 in
set_option maxRecDepth 100000 in
theorem signetrylaw01_WireZigs.calls (k : Nat) (a0 : Int) (a1 : Int) (a2 : Int) (r : Bool) (w : World) (h : signetrylaw01_WireZigs.f k a0 a1 a2 = some r) :
    Calls Try.prog 5 #[.int .i64 a0, .int .i64 a1, .int .u64 a2] w fun e w' => e = .returned (.bool r) ∧ Below w.heap.size w w' := by
  have HB := Aside0.mk (Below.refl w.heap.size w)
  have H : ((wire_Zig.f a0).bind fun t388 => ((wire_Zag.f t388).bind fun t389 => (if t389 = a0 then ((wire_Zag.f a2).bind fun t390 => ((wire_Zig.f t390).bind fun t391 => (signetrylaw01_WireZigs.j0 k a0 a1 (t391 != a2)))) else (signetrylaw01_WireZigs.j0 k a0 a1 true)))) = some r := h
  clear h
  have HC4 := Aside0.mk H
  clear H
  go_enter Try.func5, Try.ntmps5
  go_upto_region 1 with (fail)
  go_cut [20] (fun v20 wc => ∃ (kq : Nat) (x20_3 : Bool), v20 = .bool x20_3 ∧ Aside0 (signetrylaw01_WireZigs.j0 kq a0 a1 x20_3 = some r) ∧ Aside0 (kq ≤ k) ∧ Aside0 (Below w.heap.size w wc))
  case first =>
    have H := HC4.out
    clear HC4
    replace H := Option.bind_eq_some_iff.mp H
    obtain ⟨t388, A50, H⟩ := H
    replace H : ((wire_Zag.f t388).bind fun t389 => (if t389 = a0 then ((wire_Zag.f a2).bind fun t390 => ((wire_Zig.f t390).bind fun t391 => (signetrylaw01_WireZigs.j0 k a0 a1 (t391 != a2)))) else (signetrylaw01_WireZigs.j0 k a0 a1 true))) = some r := H
    have A5 := Aside0.mk A50
    clear A50
    replace H := Option.bind_eq_some_iff.mp H
    obtain ⟨t389, A60, H⟩ := H
    replace H : (if t389 = a0 then ((wire_Zag.f a2).bind fun t390 => ((wire_Zig.f t390).bind fun t391 => (signetrylaw01_WireZigs.j0 k a0 a1 (t391 != a2)))) else (signetrylaw01_WireZigs.j0 k a0 a1 true)) = some r := H
    have A6 := Aside0.mk A60
    clear A60
    by_cases c7 : t389 = a0
    · rw [if_pos c7] at H
      have c7b0 : (t389 == a0) = true := beq_iff_eq.mpr c7
      have c7b1 : (t389 != a0) = false := bne_eq_false_iff_eq.mpr c7
      clear c7
      (first | rw [c7b0] | (simp only [i64_w, i32_w]; rw [c7b0]) | skip)
      replace H := Option.bind_eq_some_iff.mp H
      obtain ⟨t390, A80, H⟩ := H
      replace H : ((wire_Zig.f t390).bind fun t391 => (signetrylaw01_WireZigs.j0 k a0 a1 (t391 != a2))) = some r := H
      have A8 := Aside0.mk A80
      clear A80
      replace H := Option.bind_eq_some_iff.mp H
      obtain ⟨t391, A90, H⟩ := H
      replace H : (signetrylaw01_WireZigs.j0 k a0 a1 (t391 != a2)) = some r := H
      have A9 := Aside0.mk A90
      clear A90
      have H' := Aside0.mk H
      clear H
      go_wp2_with (first | ((with_reducible refine gate_callee (f := 18) rfl ?_); refine goesL_ (some 10) rfl rfl Try.func18 (by kernel_rfl) rfl #[.int .i64 a0] rfl (by (try simp only [List.map_toArray, List.map_cons, List.map_nil]); first | done | rfl | (simp only [List.length_drop, List.length_take]; rfl)) ?_; (with_reducible refine (wire_Zig.calls a0 t388 _ A5.out).mono ?_); rintro e w' ⟨rfl, ⟨nd, rfl⟩⟩; refine ⟨_, rfl, ?_⟩) | ((with_reducible refine gate_callee (f := 20) rfl ?_); refine goesL_ (some 11) rfl rfl Try.func20 (by kernel_rfl) rfl #[.int .u64 t388] rfl (by (try simp only [List.map_toArray, List.map_cons, List.map_nil]); first | done | rfl | (simp only [List.length_drop, List.length_take]; rfl)) ?_; (with_reducible refine (wire_Zag.calls t388 t389 _ A6.out).mono ?_); rintro e w' ⟨rfl, ⟨nd, rfl⟩⟩; refine ⟨_, rfl, ?_⟩) | (go_at_call 20; (with_reducible refine (wire_Zag.calls a2 t390 _ A8.out).mono ?_); rintro e w' ⟨rfl, ⟨nd, rfl⟩⟩) | (go_at_call 18; (with_reducible refine (wire_Zig.calls t390 t391 _ A9.out).mono ?_); rintro e w' ⟨rfl, ⟨nd, rfl⟩⟩))
      go_meet
      case rel => exact ⟨_, ((t391 != a2)), (by first | rfl | (simp; done) | (simp [*]; done)), H', ⟨by first | omega | exact Nat.le_refl _⟩, ⟨by repeat (first | (with_reducible first | exact HB.out | apply below_alloc | apply pw_below_drewN | apply below_drew1) | exact HB.out)⟩⟩
    · rw [if_neg c7] at H
      have c7b0 : (t389 == a0) = false := beq_eq_false_iff_ne.mpr c7
      have c7b1 : (t389 != a0) = true := bne_iff_ne.mpr c7
      (first | rw [c7b0] | (simp only [i64_w, i32_w]; rw [c7b0]) | skip)
      have H' := Aside0.mk H
      clear H
      go_wp2_with (first | ((with_reducible refine gate_callee (f := 18) rfl ?_); refine goesL_ (some 10) rfl rfl Try.func18 (by kernel_rfl) rfl #[.int .i64 a0] rfl (by (try simp only [List.map_toArray, List.map_cons, List.map_nil]); first | done | rfl | (simp only [List.length_drop, List.length_take]; rfl)) ?_; (with_reducible refine (wire_Zig.calls a0 t388 _ A5.out).mono ?_); rintro e w' ⟨rfl, ⟨nd, rfl⟩⟩; refine ⟨_, rfl, ?_⟩) | ((with_reducible refine gate_callee (f := 20) rfl ?_); refine goesL_ (some 11) rfl rfl Try.func20 (by kernel_rfl) rfl #[.int .u64 t388] rfl (by (try simp only [List.map_toArray, List.map_cons, List.map_nil]); first | done | rfl | (simp only [List.length_drop, List.length_take]; rfl)) ?_; (with_reducible refine (wire_Zag.calls t388 t389 _ A6.out).mono ?_); rintro e w' ⟨rfl, ⟨nd, rfl⟩⟩; refine ⟨_, rfl, ?_⟩))
      go_meet
      case rel => exact ⟨_, (true), (by first | rfl | (simp; done) | (simp [*]; done)), H', ⟨by first | omega | exact Nat.le_refl _⟩, ⟨by repeat (first | (with_reducible first | exact HB.out | apply below_alloc | apply pw_below_drewN | apply below_drew1) | exact HB.out)⟩⟩
  case rest =>
    clear HC4
    try clear c1
    try clear c2
    try clear p2
    try clear c5
    try clear c7
    try clear c7b0
    try clear c7b1
    obtain ⟨kq, x20_3, rfl, HA, HJ3, HB⟩ := hcut
    cases kq with
    | zero => exact absurd HA.out (by simp [signetrylaw01_WireZigs.j0])
    | succ kj3 =>
      have H := HA.out
      clear HA
      simp only [signetrylaw01_WireZigs.j0] at H
      by_cases c10 : x20_3 = true
      · subst c10
        have H1 : (none) = some r := by rw [if_pos rfl] at H; exact H
        clear H
        have H := H1
        clear H1
        exact absurd H (by simp)
      · replace c10 := Bool.eq_false_iff.mpr c10
        subst c10
        have H1 : ((wire_Zig.f a0).bind fun t392 => ((wire_Zig.f a1).bind fun t393 => (if a0 < 0 then (signetrylaw01_WireZigs.j1 kj3 a0 a1 (IntKind.u64.wrap (wrap64 (-(wrap64 (a0 + 1))))) (IntKind.u64.wrap (Int.tdiv t393 2))) else (signetrylaw01_WireZigs.j1 kj3 a0 a1 (IntKind.u64.wrap (Int.tdiv t392 2)) (IntKind.u64.wrap (Int.tdiv t393 2)))))) = some r := by rw [if_neg (show ¬ (false = true) by decide)] at H; exact H
        clear H
        have H := H1
        clear H1
        replace H := Option.bind_eq_some_iff.mp H
        obtain ⟨t392, A110, H⟩ := H
        replace H : ((wire_Zig.f a1).bind fun t393 => (if a0 < 0 then (signetrylaw01_WireZigs.j1 kj3 a0 a1 (IntKind.u64.wrap (wrap64 (-(wrap64 (a0 + 1))))) (IntKind.u64.wrap (Int.tdiv t393 2))) else (signetrylaw01_WireZigs.j1 kj3 a0 a1 (IntKind.u64.wrap (Int.tdiv t392 2)) (IntKind.u64.wrap (Int.tdiv t393 2))))) = some r := H
        have A11 := Aside0.mk A110
        clear A110
        replace H := Option.bind_eq_some_iff.mp H
        obtain ⟨t393, A120, H⟩ := H
        replace H : (if a0 < 0 then (signetrylaw01_WireZigs.j1 kj3 a0 a1 (IntKind.u64.wrap (wrap64 (-(wrap64 (a0 + 1))))) (IntKind.u64.wrap (Int.tdiv t393 2))) else (signetrylaw01_WireZigs.j1 kj3 a0 a1 (IntKind.u64.wrap (Int.tdiv t392 2)) (IntKind.u64.wrap (Int.tdiv t393 2)))) = some r := H
        have A12 := Aside0.mk A120
        clear A120
        have HC13 := Aside0.mk H
        clear H
        go_upto_if 28 with (first | ((with_reducible refine gate_callee (f := 18) rfl ?_); refine goesL_ (some 22) rfl rfl Try.func18 (by kernel_rfl) rfl #[.int .i64 a0] rfl (by (try simp only [List.map_toArray, List.map_cons, List.map_nil]); first | done | rfl | (simp only [List.length_drop, List.length_take]; rfl)) ?_; (with_reducible refine (wire_Zig.calls a0 t392 _ A11.out).mono ?_); rintro e w' ⟨rfl, ⟨nd, rfl⟩⟩; refine ⟨_, rfl, ?_⟩) | ((with_reducible refine gate_callee (f := 18) rfl ?_); refine goesL_ (some 25) rfl rfl Try.func18 (by kernel_rfl) rfl #[.int .i64 a1] rfl (by (try simp only [List.map_toArray, List.map_cons, List.map_nil]); first | done | rfl | (simp only [List.length_drop, List.length_take]; rfl)) ?_; (with_reducible refine (wire_Zig.calls a1 t393 _ A12.out).mono ?_); rintro e w' ⟨rfl, ⟨nd, rfl⟩⟩; refine ⟨_, rfl, ?_⟩))
        (try simp only [Act.put, List.setIfInBounds_toArray, List.set_cons_zero, List.set_cons_succ])
        go_cut [7] (fun v7 wc => ∃ (kq : Nat) (x7_12 : Int), v7 = .int .u64 x7_12 ∧ Aside0 (signetrylaw01_WireZigs.j1 kq a0 a1 x7_12 (IntKind.u64.wrap (Int.tdiv t393 2)) = some r) ∧ Aside0 (kq ≤ kj3) ∧ Aside0 (Below w.heap.size w wc))
        case first =>
          have H := HC13.out
          clear HC13
          by_cases c14 : a0 < 0
          · rw [if_pos c14] at H
            have c14b0 : decide (a0 < 0) = true := decide_eq_true c14
            clear c14
            (first | rw [c14b0] | (simp only [i64_w, i32_w]; rw [c14b0]) | skip)
            have H' := Aside0.mk H
            clear H
            go_wp2
            go_meet
            case rel => exact ⟨_, (IntKind.u64.wrap (wrap64 (-(wrap64 (a0 + 1))))), (by first | rfl | (simp; done) | (simp [*]; done)), H', ⟨by have := HJ3.out; first | omega | exact Nat.le_refl _⟩, ⟨by repeat (first | (with_reducible first | exact HB.out | apply below_alloc | apply pw_below_drewN | apply below_drew1) | exact HB.out)⟩⟩
          · rw [if_neg c14] at H
            have c14b0 : decide (a0 < 0) = false := decide_eq_false c14
            clear c14
            (first | rw [c14b0] | (simp only [i64_w, i32_w]; rw [c14b0]) | skip)
            have H' := Aside0.mk H
            clear H
            go_wp2
            go_meet
            case rel => exact ⟨_, (IntKind.u64.wrap (Int.tdiv t392 2)), (by first | rfl | (simp; done) | (simp [*]; done)), H', ⟨by have := HJ3.out; first | omega | exact Nat.le_refl _⟩, ⟨by repeat (first | (with_reducible first | exact HB.out | apply below_alloc | apply pw_below_drewN | apply below_drew1) | exact HB.out)⟩⟩
        case rest =>
          clear HC13
          try clear c1
          try clear c2
          try clear p2
          try clear c5
          try clear p6
          try clear c7
          try clear c7b0
          try clear c7b1
          try clear c10
          try clear c14
          try clear c14b0
          try clear p2
          obtain ⟨kq, x7_12, rfl, HA, HJ12, HB⟩ := hcut
          cases kq with
          | zero => exact absurd HA.out (by simp [signetrylaw01_WireZigs.j1])
          | succ kj12 =>
            have H := HA.out
            clear HA
            simp only [signetrylaw01_WireZigs.j1] at H
            have HC15 := Aside0.mk H
            clear H
            go_upto_if 34 with (fail)
            go_cut [8] (fun v8 wc => ∃ (kq : Nat) (x8_14 : Int), v8 = .int .u64 x8_14 ∧ Aside0 (signetrylaw01_WireZigs.j2 kq a0 a1 x7_12 x8_14 = some r) ∧ Aside0 (kq ≤ kj12) ∧ Aside0 (Below w.heap.size w wc))
            case first =>
              have H := HC15.out
              clear HC15
              by_cases c16 : a1 < 0
              · rw [if_pos c16] at H
                have c16b0 : decide (a1 < 0) = true := decide_eq_true c16
                clear c16
                (first | rw [c16b0] | (simp only [i64_w, i32_w]; rw [c16b0]) | skip)
                have H' := Aside0.mk H
                clear H
                go_wp2
                go_meet
                case rel => exact ⟨_, (IntKind.u64.wrap (wrap64 (-(wrap64 (a1 + 1))))), (by first | rfl | (simp; done) | (simp [*]; done)), H', ⟨by have := HJ3.out; have := HJ12.out; first | omega | exact Nat.le_refl _⟩, ⟨by repeat (first | (with_reducible first | exact HB.out | apply below_alloc | apply pw_below_drewN | apply below_drew1) | exact HB.out)⟩⟩
              · rw [if_neg c16] at H
                have c16b0 : decide (a1 < 0) = false := decide_eq_false c16
                clear c16
                (first | rw [c16b0] | (simp only [i64_w, i32_w]; rw [c16b0]) | skip)
                have H' := Aside0.mk H
                clear H
                go_wp2
                go_meet
                case rel => exact ⟨_, ((IntKind.u64.wrap (Int.tdiv t393 2))), (by first | rfl | (simp; done) | (simp [*]; done)), H', ⟨by have := HJ3.out; have := HJ12.out; first | omega | exact Nat.le_refl _⟩, ⟨by repeat (first | (with_reducible first | exact HB.out | apply below_alloc | apply pw_below_drewN | apply below_drew1) | exact HB.out)⟩⟩
            case rest =>
              clear HC15
              try clear c1
              try clear c2
              try clear p2
              try clear c5
              try clear p6
              try clear c7
              try clear c7b0
              try clear c7b1
              try clear c10
              try clear c14
              try clear c14b0
              try clear c16
              try clear c16b0
              try clear p2
              try clear p6
              obtain ⟨kq, x8_14, rfl, HA, HJ14, HB⟩ := hcut
              cases kq with
              | zero => exact absurd HA.out (by simp [signetrylaw01_WireZigs.j2])
              | succ kj14 =>
                have H := HA.out
                clear HA
                simp only [signetrylaw01_WireZigs.j2] at H
                by_cases c17 : x7_12 ≥ x8_14
                · rw [if_pos c17] at H
                  have c17b0 : decide (x8_14 ≤ x7_12) = true := decide_eq_true c17
                  clear c17
                  by_cases c18 : x7_12 = x8_14
                  · rw [if_pos c18] at H
                    have c18b0 : (x7_12 == x8_14) = true := beq_iff_eq.mpr c18
                    have c18b1 : (x7_12 != x8_14) = false := bne_eq_false_iff_eq.mpr c18
                    clear c18
                    replace H := Option.bind_eq_some_iff.mp H
                    obtain ⟨t394, A190, H⟩ := H
                    replace H : ((wire_Zig.f a1).bind fun t395 => (if (IntKind.u64.wrap ((mx t394 t395) - (mn t394 t395))) ≤ 1 then (if (((Int.tmod t394 2) == 1) == (decide (a0 < 0))) = true then ((signetrylaw01_works.f).bind fun t396 => (some t396)) else (none)) else (none))) = some r := H
                    have A19 := Aside0.mk A190
                    clear A190
                    replace H := Option.bind_eq_some_iff.mp H
                    obtain ⟨t395, A200, H⟩ := H
                    replace H : (if (IntKind.u64.wrap ((mx t394 t395) - (mn t394 t395))) ≤ 1 then (if (((Int.tmod t394 2) == 1) == (decide (a0 < 0))) = true then ((signetrylaw01_works.f).bind fun t396 => (some t396)) else (none)) else (none)) = some r := H
                    have A20 := Aside0.mk A200
                    clear A200
                    obtain ⟨ji21, hji21⟩ : ∃ j_ : Int, (mx t394 t395) = j_ := ⟨_, rfl⟩
                    replace H : (if (IntKind.u64.wrap ((ji21) - (mn t394 t395))) ≤ 1 then (if (((Int.tmod t394 2) == 1) == (decide (a0 < 0))) = true then ((signetrylaw01_works.f).bind fun t396 => (some t396)) else (none)) else (none)) = some r := by first | (rw [hji21] at H; exact H) | (simp only [hji21] at H ⊢; exact H)
                    (try rw [hji21] at A19)
                    (try rw [hji21] at A20)
                    have hji21_ : (if t394 < t395 then t395 else t394) = ji21 := hji21
                    obtain ⟨ji22, hji22⟩ : ∃ j_ : Int, (mn t394 t395) = j_ := ⟨_, rfl⟩
                    replace H : (if (IntKind.u64.wrap ((ji21) - (ji22))) ≤ 1 then (if (((Int.tmod t394 2) == 1) == (decide (a0 < 0))) = true then ((signetrylaw01_works.f).bind fun t396 => (some t396)) else (none)) else (none)) = some r := by first | (rw [hji22] at H; exact H) | (simp only [hji22] at H ⊢; exact H)
                    (try rw [hji22] at A19)
                    (try rw [hji22] at A20)
                    have hji22_ : (if t395 < t394 then t395 else t394) = ji22 := hji22
                    by_cases c23 : (IntKind.u64.wrap ((ji21) - (ji22))) ≤ 1
                    · rw [if_pos c23] at H
                      have c23b0 : decide ((IntKind.u64.wrap ((ji21) - (ji22))) ≤ 1) = true := decide_eq_true c23
                      clear c23
                      by_cases c24 : (((Int.tmod t394 2) == 1) == (decide (a0 < 0))) = true
                      · rw [if_pos c24] at H
                        have c24b0 : (((Int.tmod t394 2) == 1) == (decide (a0 < 0))) = true := c24
                        (try (have c24b1 : decide (((Int.tmod t394 2) == 1) = (decide (a0 < 0))) = true := by simpa using c24))
                        (try (have c24b2 : (((Int.tmod t394 2) == 1) == (decide (a0 < 0))) = true := by simpa using c24))
                        clear c24
                        replace H := Option.bind_eq_some_iff.mp H
                        obtain ⟨t396, A250, H⟩ := H
                        replace H : (some t396) = some r := H
                        have A25 := Aside0.mk A250
                        clear A250
                        obtain rfl := Option.some.inj H
                        go_wp2_with (first | (go_at_call 18; (with_reducible refine (wire_Zig.calls a0 t394 _ A19.out).mono ?_); rintro e w' ⟨rfl, ⟨nd, rfl⟩⟩) | (go_at_call 18; (with_reducible refine (wire_Zig.calls a1 t395 _ A20.out).mono ?_); rintro e w' ⟨rfl, ⟨nd, rfl⟩⟩) | (go_at_call 22; (with_reducible refine (signetrylaw01_works.calls  t396 _ A25.out).mono ?_); rintro e w26 ⟨rfl, hb⟩; have n0_ := Aside0.mk (below_step (by repeat (first | (with_reducible first | exact HB.out | apply below_alloc | apply pw_below_drewN | apply below_drew1) | exact HB.out)) hb); clear HB; have HB := n0_; clear n0_; (try clear hb); (try clear hb2); (try clear hk); (try clear hi)))
                        go_ret
                        exact ⟨by first | rfl | (simp [errW_none, errW_some] <;> rfl) | (simp only [← hji21, ← hji22]; first | rfl | (simp [errW_none, errW_some] <;> rfl)) | (simp [*, errW_none, errW_some] <;> rfl), by repeat (first | (with_reducible first | exact HB.out | apply below_alloc | apply pw_below_drewN | apply below_drew1) | exact HB.out)⟩
                      · rw [if_neg c24] at H
                        exact absurd H (by simp)
                    · rw [if_neg c23] at H
                      exact absurd H (by simp)
                  · rw [if_neg c18] at H
                    have c18b0 : (x7_12 == x8_14) = false := beq_eq_false_iff_ne.mpr c18
                    have c18b1 : (x7_12 != x8_14) = true := bne_iff_ne.mpr c18
                    replace H := Option.bind_eq_some_iff.mp H
                    obtain ⟨t397, A270, H⟩ := H
                    replace H : (if (((Int.tmod t397 2) == 1) == (decide (a0 < 0))) = true then ((signetrylaw01_works.f).bind fun t398 => (some t398)) else (none)) = some r := H
                    have A27 := Aside0.mk A270
                    clear A270
                    by_cases c28 : (((Int.tmod t397 2) == 1) == (decide (a0 < 0))) = true
                    · rw [if_pos c28] at H
                      have c28b0 : (((Int.tmod t397 2) == 1) == (decide (a0 < 0))) = true := c28
                      (try (have c28b1 : decide (((Int.tmod t397 2) == 1) = (decide (a0 < 0))) = true := by simpa using c28))
                      (try (have c28b2 : (((Int.tmod t397 2) == 1) == (decide (a0 < 0))) = true := by simpa using c28))
                      clear c28
                      replace H := Option.bind_eq_some_iff.mp H
                      obtain ⟨t398, A290, H⟩ := H
                      replace H : (some t398) = some r := H
                      have A29 := Aside0.mk A290
                      clear A290
                      obtain rfl := Option.some.inj H
                      go_wp2_with (first | (go_at_call 18; (with_reducible refine (wire_Zig.calls a0 t397 _ A27.out).mono ?_); rintro e w' ⟨rfl, ⟨nd, rfl⟩⟩) | (go_at_call 22; (with_reducible refine (signetrylaw01_works.calls  t398 _ A29.out).mono ?_); rintro e w30 ⟨rfl, hb⟩; have n0_ := Aside0.mk (below_step (by repeat (first | (with_reducible first | exact HB.out | apply below_alloc | apply pw_below_drewN | apply below_drew1) | exact HB.out)) hb); clear HB; have HB := n0_; clear n0_; (try clear hb); (try clear hb2); (try clear hk); (try clear hi)))
                      go_ret
                      exact ⟨by first | rfl | (simp [errW_none, errW_some] <;> rfl) | (simp [*, errW_none, errW_some] <;> rfl), by repeat (first | (with_reducible first | exact HB.out | apply below_alloc | apply pw_below_drewN | apply below_drew1) | exact HB.out)⟩
                    · rw [if_neg c28] at H
                      exact absurd H (by simp)
                · rw [if_neg c17] at H
                  have c17b0 : decide (x8_14 ≤ x7_12) = false := decide_eq_false c17
                  clear c17
                  replace H := Option.bind_eq_some_iff.mp H
                  obtain ⟨t399, A310, H⟩ := H
                  replace H : ((wire_Zig.f a1).bind fun t400 => (if t399 < t400 then (if x7_12 = x8_14 then (if (IntKind.u64.wrap ((mx t399 t400) - (mn t399 t400))) ≤ 1 then (if (((Int.tmod t399 2) == 1) == (decide (a0 < 0))) = true then ((signetrylaw01_works.f).bind fun t401 => (some t401)) else (none)) else (none)) else (if (((Int.tmod t399 2) == 1) == (decide (a0 < 0))) = true then ((signetrylaw01_works.f).bind fun t402 => (some t402)) else (none))) else (none))) = some r := H
                  have A31 := Aside0.mk A310
                  clear A310
                  replace H := Option.bind_eq_some_iff.mp H
                  obtain ⟨t400, A320, H⟩ := H
                  replace H : (if t399 < t400 then (if x7_12 = x8_14 then (if (IntKind.u64.wrap ((mx t399 t400) - (mn t399 t400))) ≤ 1 then (if (((Int.tmod t399 2) == 1) == (decide (a0 < 0))) = true then ((signetrylaw01_works.f).bind fun t401 => (some t401)) else (none)) else (none)) else (if (((Int.tmod t399 2) == 1) == (decide (a0 < 0))) = true then ((signetrylaw01_works.f).bind fun t402 => (some t402)) else (none))) else (none)) = some r := H
                  have A32 := Aside0.mk A320
                  clear A320
                  by_cases c33 : t399 < t400
                  · rw [if_pos c33] at H
                    have c33b0 : decide (t399 < t400) = true := decide_eq_true c33
                    clear c33
                    by_cases c34 : x7_12 = x8_14
                    · rw [if_pos c34] at H
                      have c34b0 : (x7_12 == x8_14) = true := beq_iff_eq.mpr c34
                      have c34b1 : (x7_12 != x8_14) = false := bne_eq_false_iff_eq.mpr c34
                      clear c34
                      obtain ⟨ji35, hji35⟩ : ∃ j_ : Int, (mx t399 t400) = j_ := ⟨_, rfl⟩
                      replace H : (if (IntKind.u64.wrap ((ji35) - (mn t399 t400))) ≤ 1 then (if (((Int.tmod t399 2) == 1) == (decide (a0 < 0))) = true then ((signetrylaw01_works.f).bind fun t401 => (some t401)) else (none)) else (none)) = some r := by first | (rw [hji35] at H; exact H) | (simp only [hji35] at H ⊢; exact H)
                      (try rw [hji35] at A31)
                      (try rw [hji35] at A32)
                      have hji35_ : (if t399 < t400 then t400 else t399) = ji35 := hji35
                      obtain ⟨ji36, hji36⟩ : ∃ j_ : Int, (mn t399 t400) = j_ := ⟨_, rfl⟩
                      replace H : (if (IntKind.u64.wrap ((ji35) - (ji36))) ≤ 1 then (if (((Int.tmod t399 2) == 1) == (decide (a0 < 0))) = true then ((signetrylaw01_works.f).bind fun t401 => (some t401)) else (none)) else (none)) = some r := by first | (rw [hji36] at H; exact H) | (simp only [hji36] at H ⊢; exact H)
                      (try rw [hji36] at A31)
                      (try rw [hji36] at A32)
                      have hji36_ : (if t400 < t399 then t400 else t399) = ji36 := hji36
                      by_cases c37 : (IntKind.u64.wrap ((ji35) - (ji36))) ≤ 1
                      · rw [if_pos c37] at H
                        have c37b0 : decide ((IntKind.u64.wrap ((ji35) - (ji36))) ≤ 1) = true := decide_eq_true c37
                        clear c37
                        by_cases c38 : (((Int.tmod t399 2) == 1) == (decide (a0 < 0))) = true
                        · rw [if_pos c38] at H
                          have c38b0 : (((Int.tmod t399 2) == 1) == (decide (a0 < 0))) = true := c38
                          (try (have c38b1 : decide (((Int.tmod t399 2) == 1) = (decide (a0 < 0))) = true := by simpa using c38))
                          (try (have c38b2 : (((Int.tmod t399 2) == 1) == (decide (a0 < 0))) = true := by simpa using c38))
                          clear c38
                          replace H := Option.bind_eq_some_iff.mp H
                          obtain ⟨t401, A390, H⟩ := H
                          replace H : (some t401) = some r := H
                          have A39 := Aside0.mk A390
                          clear A390
                          obtain rfl := Option.some.inj H
                          go_wp2_with (first | (go_at_call 18; (with_reducible refine (wire_Zig.calls a0 t399 _ A31.out).mono ?_); rintro e w' ⟨rfl, ⟨nd, rfl⟩⟩) | (go_at_call 18; (with_reducible refine (wire_Zig.calls a1 t400 _ A32.out).mono ?_); rintro e w' ⟨rfl, ⟨nd, rfl⟩⟩) | (go_at_call 22; (with_reducible refine (signetrylaw01_works.calls  t401 _ A39.out).mono ?_); rintro e w40 ⟨rfl, hb⟩; have n0_ := Aside0.mk (below_step (by repeat (first | (with_reducible first | exact HB.out | apply below_alloc | apply pw_below_drewN | apply below_drew1) | exact HB.out)) hb); clear HB; have HB := n0_; clear n0_; (try clear hb); (try clear hb2); (try clear hk); (try clear hi)))
                          go_ret
                          exact ⟨by first | rfl | (simp [errW_none, errW_some] <;> rfl) | (simp only [← hji35, ← hji36]; first | rfl | (simp [errW_none, errW_some] <;> rfl)) | (simp [*, errW_none, errW_some] <;> rfl), by repeat (first | (with_reducible first | exact HB.out | apply below_alloc | apply pw_below_drewN | apply below_drew1) | exact HB.out)⟩
                        · rw [if_neg c38] at H
                          exact absurd H (by simp)
                      · rw [if_neg c37] at H
                        exact absurd H (by simp)
                    · rw [if_neg c34] at H
                      have c34b0 : (x7_12 == x8_14) = false := beq_eq_false_iff_ne.mpr c34
                      have c34b1 : (x7_12 != x8_14) = true := bne_iff_ne.mpr c34
                      by_cases c41 : (((Int.tmod t399 2) == 1) == (decide (a0 < 0))) = true
                      · rw [if_pos c41] at H
                        have c41b0 : (((Int.tmod t399 2) == 1) == (decide (a0 < 0))) = true := c41
                        (try (have c41b1 : decide (((Int.tmod t399 2) == 1) = (decide (a0 < 0))) = true := by simpa using c41))
                        (try (have c41b2 : (((Int.tmod t399 2) == 1) == (decide (a0 < 0))) = true := by simpa using c41))
                        clear c41
                        replace H := Option.bind_eq_some_iff.mp H
                        obtain ⟨t402, A420, H⟩ := H
                        replace H : (some t402) = some r := H
                        have A42 := Aside0.mk A420
                        clear A420
                        obtain rfl := Option.some.inj H
                        go_wp2_with (first | (go_at_call 18; (with_reducible refine (wire_Zig.calls a0 t399 _ A31.out).mono ?_); rintro e w' ⟨rfl, ⟨nd, rfl⟩⟩) | (go_at_call 18; (with_reducible refine (wire_Zig.calls a1 t400 _ A32.out).mono ?_); rintro e w' ⟨rfl, ⟨nd, rfl⟩⟩) | (go_at_call 22; (with_reducible refine (signetrylaw01_works.calls  t402 _ A42.out).mono ?_); rintro e w43 ⟨rfl, hb⟩; have n0_ := Aside0.mk (below_step (by repeat (first | (with_reducible first | exact HB.out | apply below_alloc | apply pw_below_drewN | apply below_drew1) | exact HB.out)) hb); clear HB; have HB := n0_; clear n0_; (try clear hb); (try clear hb2); (try clear hk); (try clear hi)))
                        go_ret
                        exact ⟨by first | rfl | (simp [errW_none, errW_some] <;> rfl) | (simp [*, errW_none, errW_some] <;> rfl), by repeat (first | (with_reducible first | exact HB.out | apply below_alloc | apply pw_below_drewN | apply below_drew1) | exact HB.out)⟩
                      · rw [if_neg c41] at H
                        exact absurd H (by simp)
                  · rw [if_neg c33] at H
                    exact absurd H (by simp)

/-- THE ONE PURE STATEMENT of signetrylaw01_WireZigs: yours. -/
def signetrylaw01_WireZigs.Pure : Prop := ∀ (a0 : Int) (a1 : Int) (a2 : Int), (Lit.int .i64 a0).wf = true → (Lit.int .i64 a1).wf = true → (Lit.int .u64 a2).wf = true → ∃ k, signetrylaw01_WireZigs.f k a0 a1 a2 = some true
theorem signetrylaw01_WireZigs.walk (P : signetrylaw01_WireZigs.Pure) (a0 : Int) (a1 : Int) (a2 : Int) (w : World) (w0 : (Lit.int .i64 a0).wf = true) (w1 : (Lit.int .i64 a1).wf = true) (w2 : (Lit.int .u64 a2).wf = true) :
    Calls Try.prog 5 #[.int .i64 a0, .int .i64 a1, .int .u64 a2] w fun e w' => e = .returned (.bool true) ∧ Below w.heap.size w w' := by
  obtain ⟨k, h⟩ := P a0 a1 a2 w0 w1 w2
  refine (signetrylaw01_WireZigs.calls k a0 a1 a2 true w h).mono ?_
  rintro e w' ⟨rfl, hd⟩
  exact ⟨rfl, hd⟩
end Go.Proofs.Ytbclejgljegfmaa.PAll
