-- Written by this repo's program wip/tools/pr.py (over the kit's print) out of the translation. Not trusted: Lean checks it.
import Derived.Test.YtaklkcnohbbfoaaDoorPAllx0
import Derived.Test.YtaklkcnohbbfoaaDoorGI
import Derived.Test.YtaklkcnohbbfoaaDoorGN
import Derived.Test.YtaklkcnohbbfoaaDoorGW
import Derived.Test.YtaklkcnohbbfoaaDoorHandFull
import Derived.Test.YtaklkcnohbbfoaaDoorHandKey
namespace Go.Proofs.YtaklkcnohbbfoaaDoor.PAll
open Go.Proofs.YtaklkcnohbbfoaaDoor.Hand
open Go.RowKit Go.Proofs.YtaklkcnohbbfoaaDoorW.PrintWords Go.Proofs.YtaklkcnohbbfoaaDoorW.PrintLast Go.Proofs.YtaklkcnohbbfoaaDoorW.PrintMore
attribute [local go_sem] max2_int min2_int max_two min_two max_three min_three max_four min_four   -- for this text's walks alone
set_option linter.unusedVariables false
set_option linter.unusedSimpArgs false

/-! ### signetrylaw02_TextNames: function 4 -/
def signetrylaw02_TextNames.f (k : Nat) (a0 : ByteArray) : Option (Bool) := if 0 ≤ (mn (a0.size : Int) 300) then (if (mn (a0.size : Int) 300) ≤ (a0.size : Int) then ((text_IsIdent.f k (a0.extract 0 ((mn (a0.size : Int) 300) : Int).toNat)).bind fun t317 => ((signetryref02_IsIdent.f k (a0.extract 0 ((mn (a0.size : Int) 300) : Int).toNat)).bind fun t318 => (if (t317 == t318) = true then ((text_IsFull.f (a0.extract 0 ((mn (a0.size : Int) 300) : Int).toNat)).bind fun t319 => ((signetryref02_IsFull.f k (a0.extract 0 ((mn (a0.size : Int) 300) : Int).toNat)).bind fun t320 => (if (t319 == t320) = true then ((text_Key.f (a0.extract 0 ((mn (a0.size : Int) 300) : Int).toNat)).bind fun t321 => ((signetryref02_Key.f k (a0.extract 0 ((mn (a0.size : Int) 300) : Int).toNat)).bind fun t322 => (if t321.toList = t322.toList then ((signetrylaw02_works.f k).bind fun t323 => (some t323)) else (none)))) else (none)))) else (none)))) else (none)) else (none)
theorem signetrylaw02_TextNames.mono : ∀ a0 k, LeO (signetrylaw02_TextNames.f k a0) (signetrylaw02_TextNames.f (k + 1) a0) := by
  intro a0 k
  unfold signetrylaw02_TextNames.f
  repeat' first
      | (with_reducible exact signetrylaw02_works.mono _)
      | (with_reducible exact signetryref02_IsFull.mono _ _)
      | (with_reducible exact signetryref02_IsIdent.mono _ _)
      | (with_reducible exact signetryref02_Key.mono _ _)
      | (with_reducible exact text_IsIdent.mono _ _)
      | (with_reducible exact LeO.refl _)
      | (with_reducible exact LeO.none _)
      | (with_reducible refine LeO.ite ?_ ?_)
      | (with_reducible refine LeO.bind ?_ (fun _ => ?_))
      | exact signetrylaw02_works.mono _
      | exact signetryref02_IsFull.mono _ _
      | exact signetryref02_IsIdent.mono _ _
      | exact signetryref02_Key.mono _ _
      | exact text_IsIdent.mono _ _
      | exact LeO.none _
      | refine LeO.ite ?_ ?_
      | refine LeO.bind ?_ (fun _ => ?_)
set_option maxHeartbeats 8000000 in
set_option maxRecDepth 100000 in
theorem signetrylaw02_TextNames.calls (k : Nat) (a0 : ByteArray) (r : Bool) (w : World) (h : signetrylaw02_TextNames.f k a0 = some r) (HTB_ : Tabs w) :
 Calls Tryd.prog 4 #[.string a0] w fun e w' => e = .returned (.bool r) ∧ Below w.heap.size w w' := by
 have HB := Aside0.mk (Below.refl w.heap.size w)
 have H : (if 0 ≤ (mn (a0.size : Int) 300) then (if (mn (a0.size : Int) 300) ≤ (a0.size : Int) then ((text_IsIdent.f k (a0.extract 0 ((mn (a0.size : Int) 300) : Int).toNat)).bind fun t317 => ((signetryref02_IsIdent.f k (a0.extract 0 ((mn (a0.size : Int) 300) : Int).toNat)).bind fun t318 => (if (t317 == t318) = true then ((text_IsFull.f (a0.extract 0 ((mn (a0.size : Int) 300) : Int).toNat)).bind fun t319 => ((signetryref02_IsFull.f k (a0.extract 0 ((mn (a0.size : Int) 300) : Int).toNat)).bind fun t320 => (if (t319 == t320) = true then ((text_Key.f (a0.extract 0 ((mn (a0.size : Int) 300) : Int).toNat)).bind fun t321 => ((signetryref02_Key.f k (a0.extract 0 ((mn (a0.size : Int) 300) : Int).toNat)).bind fun t322 => (if t321.toList = t322.toList then ((signetrylaw02_works.f k).bind fun t323 => (some t323)) else (none)))) else (none)))) else (none)))) else (none)) else (none)) = some r := h
 clear h
 obtain ⟨ji2, hji2⟩ : ∃ j_ : Int, (mn (a0.size : Int) 300) = j_ := ⟨_, rfl⟩
 replace H : (if 0 ≤ (ji2) then (if (ji2) ≤ (a0.size : Int) then ((text_IsIdent.f k (a0.extract 0 ((ji2) : Int).toNat)).bind fun t317 => ((signetryref02_IsIdent.f k (a0.extract 0 ((ji2) : Int).toNat)).bind fun t318 => (if (t317 == t318) = true then ((text_IsFull.f (a0.extract 0 ((ji2) : Int).toNat)).bind fun t319 => ((signetryref02_IsFull.f k (a0.extract 0 ((ji2) : Int).toNat)).bind fun t320 => (if (t319 == t320) = true then ((text_Key.f (a0.extract 0 ((ji2) : Int).toNat)).bind fun t321 => ((signetryref02_Key.f k (a0.extract 0 ((ji2) : Int).toNat)).bind fun t322 => (if t321.toList = t322.toList then ((signetrylaw02_works.f k).bind fun t323 => (some t323)) else (none)))) else (none)))) else (none)))) else (none)) else (none)) = some r := by first | (rw [hji2] at H; exact H) | (simp only [hji2] at H ⊢; exact H)
 (try (have hji2h : ji2 ≤ 300 := by (rw [← hji2]; unfold mn; (repeat' split) <;> omega)))
 (try (have hji2g : ji2 ≤ 64 := by omega))
 (try (have hji2l : 0 ≤ ji2 := by (rw [← hji2]; unfold mn; (repeat' split) <;> omega)))
 (try (have hji2m : 0 ≤ ji2 := by omega))
 have hji2_ : (if 300 < (a0.size : Int) then 300 else (a0.size : Int)) = ji2 := hji2
 by_cases c3 : 0 ≤ (ji2)
 case neg =>
  rw [if_neg c3] at H
  exact absurd H (by simp)

 rw [if_pos c3] at H
 have c3b0 := eq_true c3
 have c3b1 : decide (0 ≤ (ji2)) = true := decide_eq_true c3
 clear c3
 by_cases c4 : (ji2) ≤ (a0.size : Int)
 case neg =>
  rw [if_neg c4] at H
  exact absurd H (by simp)
 rw [if_pos c4] at H
 have c4b0 := eq_true c4
 have c4b1 : decide ((ji2) ≤ (a0.size : Int)) = true := decide_eq_true c4
 clear c4
 replace H := Option.bind_eq_some_iff.mp H
 obtain ⟨t317, A50, H⟩ := H
 replace H : ((signetryref02_IsIdent.f k (a0.extract 0 ((ji2) : Int).toNat)).bind fun t318 => (if (t317 == t318) = true then ((text_IsFull.f (a0.extract 0 ((ji2) : Int).toNat)).bind fun t319 => ((signetryref02_IsFull.f k (a0.extract 0 ((ji2) : Int).toNat)).bind fun t320 => (if (t319 == t320) = true then ((text_Key.f (a0.extract 0 ((ji2) : Int).toNat)).bind fun t321 => ((signetryref02_Key.f k (a0.extract 0 ((ji2) : Int).toNat)).bind fun t322 => (if t321.toList = t322.toList then ((signetrylaw02_works.f k).bind fun t323 => (some t323)) else (none)))) else (none)))) else (none))) = some r := H
 have A5 := Aside0.mk A50
 clear A50
 replace H := Option.bind_eq_some_iff.mp H
 obtain ⟨t318, A60, H⟩ := H
 replace H : (if (t317 == t318) = true then ((text_IsFull.f (a0.extract 0 ((ji2) : Int).toNat)).bind fun t319 => ((signetryref02_IsFull.f k (a0.extract 0 ((ji2) : Int).toNat)).bind fun t320 => (if (t319 == t320) = true then ((text_Key.f (a0.extract 0 ((ji2) : Int).toNat)).bind fun t321 => ((signetryref02_Key.f k (a0.extract 0 ((ji2) : Int).toNat)).bind fun t322 => (if t321.toList = t322.toList then ((signetrylaw02_works.f k).bind fun t323 => (some t323)) else (none)))) else (none)))) else (none)) = some r := H
 have A6 := Aside0.mk A60
 clear A60
 by_cases c7 : (t317 == t318) = true
 case neg =>
  rw [if_neg c7] at H
  exact absurd H (by simp)
 rw [if_pos c7] at H
 have c7b0 : (t317 == t318) = true := c7
 (try (have c7b1 : decide (t317 = t318) = true := by simpa using c7))
 (try (have c7b2 : (t317 == t318) = true := by simpa using c7))
 clear c7
 replace H := Option.bind_eq_some_iff.mp H
 obtain ⟨t319, A80, H⟩ := H
 replace H : ((signetryref02_IsFull.f k (a0.extract 0 ((ji2) : Int).toNat)).bind fun t320 => (if (t319 == t320) = true then ((text_Key.f (a0.extract 0 ((ji2) : Int).toNat)).bind fun t321 => ((signetryref02_Key.f k (a0.extract 0 ((ji2) : Int).toNat)).bind fun t322 => (if t321.toList = t322.toList then ((signetrylaw02_works.f k).bind fun t323 => (some t323)) else (none)))) else (none))) = some r := H
 have A8 := Aside0.mk A80
 clear A80
 replace H := Option.bind_eq_some_iff.mp H
 obtain ⟨t320, A90, H⟩ := H
 replace H : (if (t319 == t320) = true then ((text_Key.f (a0.extract 0 ((ji2) : Int).toNat)).bind fun t321 => ((signetryref02_Key.f k (a0.extract 0 ((ji2) : Int).toNat)).bind fun t322 => (if t321.toList = t322.toList then ((signetrylaw02_works.f k).bind fun t323 => (some t323)) else (none)))) else (none)) = some r := H
 have A9 := Aside0.mk A90
 clear A90
 by_cases c10 : (t319 == t320) = true
 case neg =>
  rw [if_neg c10] at H
  exact absurd H (by simp)
 rw [if_pos c10] at H
 have c10b0 : (t319 == t320) = true := c10
 (try (have c10b1 : decide (t319 = t320) = true := by simpa using c10))
 (try (have c10b2 : (t319 == t320) = true := by simpa using c10))
 clear c10
 replace H := Option.bind_eq_some_iff.mp H
 obtain ⟨t321, A110, H⟩ := H
 replace H : ((signetryref02_Key.f k (a0.extract 0 ((ji2) : Int).toNat)).bind fun t322 => (if t321.toList = t322.toList then ((signetrylaw02_works.f k).bind fun t323 => (some t323)) else (none))) = some r := H
 have A11 := Aside0.mk A110
 clear A110
 replace H := Option.bind_eq_some_iff.mp H
 obtain ⟨t322, A120, H⟩ := H
 replace H : (if t321.toList = t322.toList then ((signetrylaw02_works.f k).bind fun t323 => (some t323)) else (none)) = some r := H
 have A12 := Aside0.mk A120
 clear A120
 by_cases c13 : t321.toList = t322.toList
 case neg =>
  rw [if_neg c13] at H
  exact absurd H (by simp)
 rw [if_pos c13] at H
 have c13b0 : (t321.toList == t322.toList) = true := beq_iff_eq.mpr c13
 have c13b1 : (t321.toList != t322.toList) = false := bne_eq_false_iff_eq.mpr c13
 clear c13
 replace H := Option.bind_eq_some_iff.mp H
 obtain ⟨t323, A140, H⟩ := H
 replace H : (some t323) = some r := H
 have A14 := Aside0.mk A140
 clear A140
 obtain rfl := Option.some.inj H
 go_enter Tryd.func4, Tryd.ntmps4
 go_wp2_with (first | ((with_reducible refine gate_callee (f := 22) rfl ?_); refine goesL_ (some 9) rfl rfl Tryd.func22 (by kernel_rfl) rfl #[.string (a0.extract 0 ((ji2) : Int).toNat)] rfl (by (try simp only [List.map_toArray, List.map_cons, List.map_nil]); first | done | (simp only [hji2]; rfl) | rfl | (simp only [List.length_drop, List.length_take]; rfl)) ?_; (with_reducible refine (text_IsIdent.calls k (a0.extract 0 ((ji2) : Int).toNat) t317 _ A5.out).mono ?_); rintro e w15 ⟨rfl, hb⟩; refine ⟨_, rfl, ?_⟩; have n0_ := Aside0.mk (below_step (by repeat (first | (with_reducible first | exact HB.out | apply below_alloc | apply pw_below_drewN | apply below_drew1) | exact HB.out)) hb); clear HB; have HB := n0_; clear n0_; (try clear hb); (try clear hb2); (try clear hk); (try clear hi)) | ((with_reducible refine gate_callee (f := 23) rfl ?_); refine goesL_ (some 11) rfl rfl Tryd.func23 (by kernel_rfl) rfl #[.string (a0.extract 0 ((ji2) : Int).toNat)] rfl (by (try simp only [List.map_toArray, List.map_cons, List.map_nil]); first | done | (simp only [hji2]; rfl) | rfl | (simp only [List.length_drop, List.length_take]; rfl)) ?_; (with_reducible refine (signetryref02_IsIdent.calls k (a0.extract 0 ((ji2) : Int).toNat) t318 _ A6.out).mono ?_); rintro e w' ⟨rfl, ⟨nd, rfl⟩⟩; refine ⟨_, rfl, ?_⟩) | (go_at_call 24; (with_reducible refine (text_IsFull.calls (a0.extract 0 ((ji2) : Int).toNat) t319 _ A8.out (HTB_.below (by repeat (first | (with_reducible first | exact HB.out | apply below_alloc | apply pw_below_drewN | apply below_drew1) | exact HB.out)))).mono ?_); rintro e w16 ⟨rfl, hb⟩; have n0_ := Aside0.mk (below_step (by repeat (first | (with_reducible first | exact HB.out | apply below_alloc | apply pw_below_drewN | apply below_drew1) | exact HB.out)) hb); clear HB; have HB := n0_; clear n0_; (try clear hb); (try clear hb2); (try clear hk); (try clear hi)) | (go_at_call 25; (with_reducible refine (signetryref02_IsFull.calls k (a0.extract 0 ((ji2) : Int).toNat) t320 _ A9.out).mono ?_); rintro e w' ⟨rfl, ⟨nd, rfl⟩⟩) | (go_at_call 26; (with_reducible refine (text_Key.calls (a0.extract 0 ((ji2) : Int).toNat) t321 _ A11.out).mono ?_); rintro e w17 ⟨rfl, hb⟩; have n0_ := Aside0.mk (below_step (by repeat (first | (with_reducible first | exact HB.out | apply below_alloc | apply pw_below_drewN | apply below_drew1) | exact HB.out)) hb); clear HB; have HB := n0_; clear n0_; (try clear hb); (try clear hb2); (try clear hk); (try clear hi)) | (go_at_call 27; (with_reducible refine (signetryref02_Key.calls k (a0.extract 0 ((ji2) : Int).toNat) t322 _ A12.out).mono ?_); rintro e w18 ⟨rfl, hb⟩; have n0_ := Aside0.mk (below_step (by repeat (first | (with_reducible first | exact HB.out | apply below_alloc | apply pw_below_drewN | apply below_drew1) | exact HB.out)) hb); clear HB; have HB := n0_; clear n0_; (try clear hb); (try clear hb2); (try clear hk); (try clear hi)) | (go_at_call 21; (with_reducible refine (signetrylaw02_works.calls k  t323 _ A14.out (HTB_.below (by repeat (first | (with_reducible first | exact HB.out | apply below_alloc | apply pw_below_drewN | apply below_drew1) | exact HB.out)))).mono ?_); rintro e w19 ⟨rfl, hb⟩; have n0_ := Aside0.mk (below_step (by repeat (first | (with_reducible first | exact HB.out | apply below_alloc | apply pw_below_drewN | apply below_drew1) | exact HB.out)) hb); clear HB; have HB := n0_; clear n0_; (try clear hb); (try clear hb2); (try clear hk); (try clear hi)))
 go_ret
 exact ⟨by first | rfl | (simp [errW_none, errW_some] <;> rfl) | (simp only [← hji2]; first | rfl | (simp [errW_none, errW_some] <;> rfl)) | (simp [*, errW_none, errW_some] <;> rfl), by repeat (first | (with_reducible first | exact HB.out | apply below_alloc | apply pw_below_drewN | apply below_drew1) | exact HB.out)⟩
/-- THE ONE PURE STATEMENT of signetrylaw02_TextNames: yours. -/
def signetrylaw02_TextNames.Pure : Prop := ∀ (a0 : ByteArray), a0.size ≤ 140737488351232 → ∃ k, signetrylaw02_TextNames.f k a0 = some true
theorem signetrylaw02_TextNames.walk (P : signetrylaw02_TextNames.Pure) (a0 : ByteArray) (w : World) (w0 : a0.size ≤ 140737488351232) (HTB_ : Tabs w) :
    Calls Tryd.prog 4 #[.string a0] w fun e w' => e = .returned (.bool true) ∧ Below w.heap.size w w' := by
  obtain ⟨k, h⟩ := P a0 w0
  refine (signetrylaw02_TextNames.calls k a0 true w h HTB_).mono ?_
  rintro e w' ⟨rfl, hd⟩
  exact ⟨rfl, hd⟩
end Go.Proofs.YtaklkcnohbbfoaaDoor.PAll
