-- Written by this repo's program wip/tools/pr.py (over the kit's print) out of the translation. Not trusted: Lean checks it.
import Derived.Test.YtaklkcnohbbfoaaDoorPAllx0
import Derived.Test.YtaklkcnohbbfoaaDoorGA
import Derived.Test.YtaklkcnohbbfoaaDoorGI
import Derived.Test.YtaklkcnohbbfoaaDoorGQ
import Derived.Test.YtaklkcnohbbfoaaDoorGV
import Derived.Test.YtaklkcnohbbfoaaDoorHandFull
import Derived.Test.YtaklkcnohbbfoaaDoorHandKey
import Derived.Test.YtaklkcnohbbfoaaDoorHandQuote
import Derived.Test.YtaklkcnohbbfoaaDoorHandRune
import Derived.Test.YtaklkcnohbbfoaaDoorHandRunes
namespace Go.Proofs.YtaklkcnohbbfoaaDoor.PAll
open Go.Proofs.YtaklkcnohbbfoaaDoor.Hand
open Go.RowKit Go.Proofs.YtaklkcnohbbfoaaDoorW.PrintWords Go.Proofs.YtaklkcnohbbfoaaDoorW.PrintLast Go.Proofs.YtaklkcnohbbfoaaDoorW.PrintMore
attribute [local go_sem] max2_int min2_int max_two min_two max_three min_three max_four min_four   -- for this text's walks alone
set_option linter.unusedVariables false
set_option linter.unusedSimpArgs false

/-! ### signetrylaw02_reads: function 41 -/
def signetrylaw02_reads.f (k : Nat) (a0 : ByteArray) (l1 : List Int) : Option (Bool) := (text_Unquote.f k a0).bind fun bt188 => (if bt188.2 = 0 then ((signetryref00_EqBytes.f bt188.1 l1).bind fun t192 => (some t192)) else (some false))
theorem signetrylaw02_reads.mono : ∀ a0 a1 k, LeO (signetrylaw02_reads.f k a0 a1) (signetrylaw02_reads.f (k + 1) a0 a1) := by
  intro a0 a1 k
  unfold signetrylaw02_reads.f
  repeat' first
      | (with_reducible exact text_Unquote.mono _ _)
      | (with_reducible exact LeO.refl _)
      | (with_reducible exact LeO.none _)
      | (with_reducible refine LeO.ite ?_ ?_)
      | (with_reducible refine LeO.bind ?_ (fun _ => ?_))
      | exact text_Unquote.mono _ _
      | exact LeO.none _
      | refine LeO.ite ?_ ?_
      | refine LeO.bind ?_ (fun _ => ?_)
set_option maxHeartbeats 8000000 in
set_option maxRecDepth 100000 in
theorem signetrylaw02_reads.calls (k : Nat) (a0 : ByteArray) (A1 : Option Addr) (c1 : Nat) (l1 : List Int) (r : Bool) (w : World) (hr1 : Kd.C (Kd.int .u8) w A1 l1.length l1) (hc1 : l1.length ≤ c1) (h : signetrylaw02_reads.f k a0 l1 = some r) (HTB_ : Tabs w) :
 Calls Tryd.prog 41 #[.string a0, .slice A1 l1.length c1] w fun e w' => e = .returned (.bool r) ∧ Below w.heap.size w w' := by
 have HR1 := Aside0.mk hr1
 have HC1 := Aside0.mk hc1
 clear hr1 hc1
 have HB := Aside0.mk (Below.refl w.heap.size w)
 have H : ((text_Unquote.f k a0).bind fun bt188 => (if bt188.2 = 0 then ((signetryref00_EqBytes.f bt188.1 l1).bind fun t192 => (some t192)) else (some false))) = some r := h
 clear h
 replace H := Option.bind_eq_some_iff.mp H
 obtain ⟨⟨t188, t189⟩, A30, H⟩ := H
 replace H : (if t189 = 0 then ((signetryref00_EqBytes.f t188 l1).bind fun t192 => (some t192)) else (some false)) = some r := H
 have A3 := Aside0.mk A30
 clear A30
 by_cases c4 : t189 = 0
 case neg =>
  rw [if_neg c4] at H
  have c4b0 : (t189 == 0) = false := beq_eq_false_iff_ne.mpr c4
  have c4b1 : (t189 != 0) = true := bne_iff_ne.mpr c4
  obtain rfl := Option.some.inj H
  go_enter Tryd.func41, Tryd.ntmps41
  go_wp2_with (first | ((with_reducible refine gate_callee (f := 28) rfl ?_); refine goesL_ (some 9) rfl rfl Tryd.func28 (by kernel_rfl) rfl #[.string a0] rfl (by (try simp only [List.map_toArray, List.map_cons, List.map_nil]); first | done | rfl | (simp only [List.length_drop, List.length_take]; rfl)) ?_; (with_reducible refine (text_Unquote.calls k a0 t188 t189 _ A3.out (HTB_.below (by repeat (first | (with_reducible first | exact HB.out | apply below_alloc | apply pw_below_drewN | apply below_drew1) | exact HB.out)))).mono ?_); rintro e w8 ⟨v190, rfl, ho0, hb⟩; refine ⟨_, rfl, ?_⟩; have n0_ := Aside0.mk (Kd.R_lower ho0 (below_size (by repeat (first | (with_reducible first | exact HB.out | apply below_alloc | apply pw_below_drewN | apply below_drew1) | exact HB.out)))); have n1_ := Aside0.mk (below_step (by repeat (first | (with_reducible first | exact HB.out | apply below_alloc | apply pw_below_drewN | apply below_drew1) | exact HB.out)) hb); clear HB; have HO191 := n0_; have HB := n1_; clear n0_ n1_; (try clear hb); (try clear hb2); (try clear hk); (try clear hi); (try clear ho0)))
  go_ret
  exact ⟨by first | rfl | (simp [errW_none, errW_some] <;> rfl) | (simp [*, errW_none, errW_some] <;> rfl), by repeat (first | (with_reducible first | exact HB.out | apply below_alloc | apply pw_below_drewN | apply below_drew1) | exact HB.out)⟩

 rw [if_pos c4] at H
 have c4b0 : (t189 == 0) = true := beq_iff_eq.mpr c4
 have c4b1 : (t189 != 0) = false := bne_eq_false_iff_eq.mpr c4
 clear c4
 replace H := Option.bind_eq_some_iff.mp H
 obtain ⟨t192, A50, H⟩ := H
 replace H : (some t192) = some r := H
 have A5 := Aside0.mk A50
 clear A50
 obtain rfl := Option.some.inj H
 go_enter Tryd.func41, Tryd.ntmps41
 go_wp2_with (first | ((with_reducible refine gate_callee (f := 28) rfl ?_); refine goesL_ (some 9) rfl rfl Tryd.func28 (by kernel_rfl) rfl #[.string a0] rfl (by (try simp only [List.map_toArray, List.map_cons, List.map_nil]); first | done | rfl | (simp only [List.length_drop, List.length_take]; rfl)) ?_; (with_reducible refine (text_Unquote.calls k a0 t188 t189 _ A3.out (HTB_.below (by repeat (first | (with_reducible first | exact HB.out | apply below_alloc | apply pw_below_drewN | apply below_drew1) | exact HB.out)))).mono ?_); rintro e w6 ⟨v190, rfl, ho0, hb⟩; refine ⟨_, rfl, ?_⟩; have n0_ := Aside0.mk (Kd.R_lower ho0 (below_size (by repeat (first | (with_reducible first | exact HB.out | apply below_alloc | apply pw_below_drewN | apply below_drew1) | exact HB.out)))); have n1_ := Aside0.mk (below_step (by repeat (first | (with_reducible first | exact HB.out | apply below_alloc | apply pw_below_drewN | apply below_drew1) | exact HB.out)) hb); clear HB; have HO191 := n0_; have HB := n1_; clear n0_ n1_; (try clear hb); (try clear hb2); (try clear hk); (try clear hi); (try clear ho0); obtain ⟨Ao7, co7, eo7⟩ := Kd.R_slice HO191.out; subst eo7) | (go_at_call 18; (with_reducible refine (signetryref00_EqBytes.calls _ _ t188 _ _ l1 t192 _ ?side1 ?side2 ?side3 ?side4 A5.out).mono ?_); (case side1 => repeat (first | exact (Kd.R_reads' HO191.out).2.2 | (with_reducible refine Kd.C_alloc ?_ _) | (with_reducible refine Kd.C_drewN ?_ _) | (with_reducible refine Kd.C_drew ?_))); (case side2 => exact (Kd.R_reads' HO191.out).2.1); (case side3 => repeat (first | exact (Kd.C_below HR1.out HB.out) | (with_reducible refine Kd.C_alloc ?_ _) | (with_reducible refine Kd.C_drewN ?_ _) | (with_reducible refine Kd.C_drew ?_))); (case side4 => exact HC1.out); rintro e w' ⟨rfl, ⟨nd, rfl⟩⟩))
 go_ret
 exact ⟨by first | rfl | (simp [errW_none, errW_some] <;> rfl) | (simp [*, errW_none, errW_some] <;> rfl), by repeat (first | (with_reducible first | exact HB.out | apply below_alloc | apply pw_below_drewN | apply below_drew1) | exact HB.out)⟩
/-! ### signetrylaw02_none: function 42 -/
def signetrylaw02_none.f (k : Nat) (a0 : ByteArray) : Option (Bool) := (text_Unquote.f k a0).bind fun bt193 => (if bt193.2 = 21 then (some ((bt193.1.length : Int) == 0)) else (some false))
theorem signetrylaw02_none.mono : ∀ a0 k, LeO (signetrylaw02_none.f k a0) (signetrylaw02_none.f (k + 1) a0) := by
  intro a0 k
  unfold signetrylaw02_none.f
  repeat' first
      | (with_reducible exact text_Unquote.mono _ _)
      | (with_reducible exact LeO.refl _)
      | (with_reducible exact LeO.none _)
      | (with_reducible refine LeO.ite ?_ ?_)
      | (with_reducible refine LeO.bind ?_ (fun _ => ?_))
      | exact text_Unquote.mono _ _
      | exact LeO.none _
      | refine LeO.ite ?_ ?_
      | refine LeO.bind ?_ (fun _ => ?_)
set_option maxHeartbeats 8000000 in
set_option maxRecDepth 100000 in
theorem signetrylaw02_none.calls (k : Nat) (a0 : ByteArray) (r : Bool) (w : World) (h : signetrylaw02_none.f k a0 = some r) (HTB_ : Tabs w) :
 Calls Tryd.prog 42 #[.string a0] w fun e w' => e = .returned (.bool r) ∧ Below w.heap.size w w' := by
 have HB := Aside0.mk (Below.refl w.heap.size w)
 have H : ((text_Unquote.f k a0).bind fun bt193 => (if bt193.2 = 21 then (some ((bt193.1.length : Int) == 0)) else (some false))) = some r := h
 clear h
 replace H := Option.bind_eq_some_iff.mp H
 obtain ⟨⟨t193, t194⟩, A20, H⟩ := H
 replace H : (if t194 = 21 then (some ((t193.length : Int) == 0)) else (some false)) = some r := H
 have A2 := Aside0.mk A20
 clear A20
 by_cases c3 : t194 = 21
 case neg =>
  rw [if_neg c3] at H
  have c3b0 : (t194 == 21) = false := beq_eq_false_iff_ne.mpr c3
  have c3b1 : (t194 != 21) = true := bne_iff_ne.mpr c3
  obtain rfl := Option.some.inj H
  go_enter Tryd.func42, Tryd.ntmps42
  go_wp2_with (first | ((with_reducible refine gate_callee (f := 28) rfl ?_); refine goesL_ (some 7) rfl rfl Tryd.func28 (by kernel_rfl) rfl #[.string a0] rfl (by (try simp only [List.map_toArray, List.map_cons, List.map_nil]); first | done | rfl | (simp only [List.length_drop, List.length_take]; rfl)) ?_; (with_reducible refine (text_Unquote.calls k a0 t193 t194 _ A2.out (HTB_.below (by repeat (first | (with_reducible first | exact HB.out | apply below_alloc | apply pw_below_drewN | apply below_drew1) | exact HB.out)))).mono ?_); rintro e w6 ⟨v195, rfl, ho0, hb⟩; refine ⟨_, rfl, ?_⟩; have n0_ := Aside0.mk (Kd.R_lower ho0 (below_size (by repeat (first | (with_reducible first | exact HB.out | apply below_alloc | apply pw_below_drewN | apply below_drew1) | exact HB.out)))); have n1_ := Aside0.mk (below_step (by repeat (first | (with_reducible first | exact HB.out | apply below_alloc | apply pw_below_drewN | apply below_drew1) | exact HB.out)) hb); clear HB; have HO196 := n0_; have HB := n1_; clear n0_ n1_; (try clear hb); (try clear hb2); (try clear hk); (try clear hi); (try clear ho0)))
  go_ret
  exact ⟨by first | rfl | (simp [errW_none, errW_some] <;> rfl) | (simp [*, errW_none, errW_some] <;> rfl), by repeat (first | (with_reducible first | exact HB.out | apply below_alloc | apply pw_below_drewN | apply below_drew1) | exact HB.out)⟩

 rw [if_pos c3] at H
 have c3b0 : (t194 == 21) = true := beq_iff_eq.mpr c3
 have c3b1 : (t194 != 21) = false := bne_eq_false_iff_eq.mpr c3
 clear c3
 obtain rfl := Option.some.inj H
 go_enter Tryd.func42, Tryd.ntmps42
 go_wp2_with (first | ((with_reducible refine gate_callee (f := 28) rfl ?_); refine goesL_ (some 7) rfl rfl Tryd.func28 (by kernel_rfl) rfl #[.string a0] rfl (by (try simp only [List.map_toArray, List.map_cons, List.map_nil]); first | done | rfl | (simp only [List.length_drop, List.length_take]; rfl)) ?_; (with_reducible refine (text_Unquote.calls k a0 t193 t194 _ A2.out (HTB_.below (by repeat (first | (with_reducible first | exact HB.out | apply below_alloc | apply pw_below_drewN | apply below_drew1) | exact HB.out)))).mono ?_); rintro e w4 ⟨v195, rfl, ho0, hb⟩; refine ⟨_, rfl, ?_⟩; have n0_ := Aside0.mk (Kd.R_lower ho0 (below_size (by repeat (first | (with_reducible first | exact HB.out | apply below_alloc | apply pw_below_drewN | apply below_drew1) | exact HB.out)))); have n1_ := Aside0.mk (below_step (by repeat (first | (with_reducible first | exact HB.out | apply below_alloc | apply pw_below_drewN | apply below_drew1) | exact HB.out)) hb); clear HB; have HO196 := n0_; have HB := n1_; clear n0_ n1_; (try clear hb); (try clear hb2); (try clear hk); (try clear hi); (try clear ho0); obtain ⟨Ao5, co5, eo5⟩ := Kd.R_slice HO196.out; subst eo5))
 go_ret
 exact ⟨by first | rfl | (simp [errW_none, errW_some] <;> rfl) | (simp [*, errW_none, errW_some] <;> rfl), by repeat (first | (with_reducible first | exact HB.out | apply below_alloc | apply pw_below_drewN | apply below_drew1) | exact HB.out)⟩
/-! ### signetrylaw02_works: function 21 -/
mutual
def signetrylaw02_works.j0 : Nat → Bool → Option (Bool)
  | 0, _ => none
  | k + 1, x65 => if x65 = true then (none) else ((text_IsIdent.f k (⟨#[97, 95, 49]⟩ : ByteArray)).bind fun t237 => (if t237 = true then ((text_IsIdent.f k (⟨#[49, 97]⟩ : ByteArray)).bind fun t238 => (if t238 = true then (none) else ((text_IsFull.f (⟨#[97, 46, 98]⟩ : ByteArray)).bind fun t239 => (if t239 = true then ((text_IsFull.f (⟨#[97, 46, 46, 98]⟩ : ByteArray)).bind fun t240 => (if t240 = true then (none) else ((text_Key.f (⟨#[102, 111, 111, 95, 98, 97, 114, 95, 50, 120]⟩ : ByteArray)).bind fun t241 => (if t241.toList = ([102, 111, 111, 66, 97, 114, 50, 120] : List UInt8) then ((text_Key.f (⟨#[95, 97, 95, 95, 98]⟩ : ByteArray)).bind fun t242 => (signetrylaw02_works.j1 k (t242.toList == ([65, 66] : List UInt8)))) else (none))))) else (none))))) else (none)))
def signetrylaw02_works.j1 : Nat → Bool → Option (Bool)
  | 0, _ => none
  | k + 1, x8 => if x8 = true then ((text_Quote.f (([97, 34, 0, 255] : List Int))).bind fun t246 => (if t246.toList = ([34, 97, 92, 34, 92, 48, 48, 48, 92, 51, 55, 55, 34] : List UInt8) then ((signetrylaw02_reads.f k (⟨#[39, 97, 92, 120, 52, 97, 92, 49, 48, 49, 92, 117, 50, 48, 65, 67, 39]⟩ : ByteArray) (([97, 74, 65, 226, 130, 172] : List Int))).bind fun t250 => (if t250 = true then ((signetrylaw02_none.f k (⟨#[34, 97, 39]⟩ : ByteArray)).bind fun t251 => (if t251 = true then ((signetrylaw02_none.f k (⟨#[34, 92, 52, 48, 48, 34]⟩ : ByteArray)).bind fun t252 => (some t252)) else (none))) else (none))) else (none))) else (none)
end
def signetrylaw02_works.f (k : Nat)  : Option (Bool) := (text_Runes.f (([65, 226, 130, 172] : List Int))).bind fun bt200 => ((text_Rune.f ([] : List Int) 128512).bind fun bt205 => ((text_Rune.f ([] : List Int) 55296).bind fun bt209 => ((text_Valid.f (([195, 164] : List Int))).bind fun t216 => (if t216 = true then ((text_Valid.f (([195] : List Int))).bind fun t220 => (if t220 = true then (none) else ((text_Valid.f (([192, 128] : List Int))).bind fun t224 => (if t224 = true then (none) else ((text_Valid.f (([237, 160, 128] : List Int))).bind fun t228 => (if t228 = true then (none) else ((signetryref00_EqInts.f k bt200.1 (([65, 8364] : List Int))).bind fun t232 => (if t232 = true then (if bt200.2.1 = 0 then (if bt200.2.2 = 0 then ((signetryref00_EqBytes.f bt205.1 (([240, 159, 152, 128] : List Int))).bind fun t236 => (if t236 = true then (if bt205.2 = 0 then (signetrylaw02_works.j0 k (bt209.2 != 20)) else (none)) else (none))) else (none)) else (none)) else (none))))))))) else (none)))))
theorem signetrylaw02_works.mono_l : ∀ k, (∀ y0, LeO (signetrylaw02_works.j0 k y0) (signetrylaw02_works.j0 (k + 1) y0)) ∧ (∀ y0, LeO (signetrylaw02_works.j1 k y0) (signetrylaw02_works.j1 (k + 1) y0))
 | 0 => ⟨fun _ r h => by simp [signetrylaw02_works.j0] at h, fun _ r h => by simp [signetrylaw02_works.j1] at h⟩
 | k + 1 => by
  obtain ⟨ih0, ih1⟩ := signetrylaw02_works.mono_l k
  refine ⟨?_, ?_⟩
  ·intro y0
   unfold signetrylaw02_works.j0
   repeat' first
   | (with_reducible exact ih0 _)
   | (with_reducible exact ih1 _)
   | (with_reducible exact signetrylaw02_none.mono _ _)
   | (with_reducible exact signetrylaw02_reads.mono _ _ _)
   | (with_reducible exact signetryref00_EqInts.mono _ _ _)
   | (with_reducible exact text_IsIdent.mono _ _)
   | (with_reducible exact LeO.refl _)
   | (with_reducible exact LeO.none _)
   | (with_reducible refine LeO.ite ?_ ?_)
   | (with_reducible refine LeO.bind ?_ (fun _ => ?_))
   | exact ih0 _
   | exact ih1 _
   | exact signetrylaw02_none.mono _ _
   | exact signetrylaw02_reads.mono _ _ _
   | exact signetryref00_EqInts.mono _ _ _
   | exact text_IsIdent.mono _ _
   | exact LeO.none _
   | refine LeO.ite ?_ ?_
   | refine LeO.bind ?_ (fun _ => ?_)
  ·intro y0
   unfold signetrylaw02_works.j1
   repeat' first
   | (with_reducible exact ih0 _)
   | (with_reducible exact ih1 _)
   | (with_reducible exact signetrylaw02_none.mono _ _)
   | (with_reducible exact signetrylaw02_reads.mono _ _ _)
   | (with_reducible exact signetryref00_EqInts.mono _ _ _)
   | (with_reducible exact text_IsIdent.mono _ _)
   | (with_reducible exact LeO.refl _)
   | (with_reducible exact LeO.none _)
   | (with_reducible refine LeO.ite ?_ ?_)
   | (with_reducible refine LeO.bind ?_ (fun _ => ?_))
   | exact ih0 _
   | exact ih1 _
   | exact signetrylaw02_none.mono _ _
   | exact signetrylaw02_reads.mono _ _ _
   | exact signetryref00_EqInts.mono _ _ _
   | exact text_IsIdent.mono _ _
   | exact LeO.none _
   | refine LeO.ite ?_ ?_
   | refine LeO.bind ?_ (fun _ => ?_)
theorem signetrylaw02_works.mono : ∀ k, LeO (signetrylaw02_works.f k ) (signetrylaw02_works.f (k + 1) ) := by
  intro  k
  obtain ⟨ih0, ih1⟩ := signetrylaw02_works.mono_l k
  unfold signetrylaw02_works.f
  repeat' first
      | (with_reducible exact ih0 _)
      | (with_reducible exact ih1 _)
      | (with_reducible exact signetrylaw02_none.mono _ _)
      | (with_reducible exact signetrylaw02_reads.mono _ _ _)
      | (with_reducible exact signetryref00_EqInts.mono _ _ _)
      | (with_reducible exact text_IsIdent.mono _ _)
      | (with_reducible exact LeO.refl _)
      | (with_reducible exact LeO.none _)
      | (with_reducible refine LeO.ite ?_ ?_)
      | (with_reducible refine LeO.bind ?_ (fun _ => ?_))
      | exact ih0 _
      | exact ih1 _
      | exact signetrylaw02_none.mono _ _
      | exact signetrylaw02_reads.mono _ _ _
      | exact signetryref00_EqInts.mono _ _ _
      | exact text_IsIdent.mono _ _
      | exact LeO.none _
      | refine LeO.ite ?_ ?_
      | refine LeO.bind ?_ (fun _ => ?_)
set_option maxHeartbeats 8000000 in
set_option maxRecDepth 100000 in
theorem signetrylaw02_works.calls (k : Nat)  (r : Bool) (w : World) (h : signetrylaw02_works.f k  = some r) (HTB_ : Tabs w) :
 Calls Tryd.prog 21 #[] w fun e w' => e = .returned (.bool r) ∧ Below w.heap.size w w' := by
 have HB := Aside0.mk (Below.refl w.heap.size w)
 have H : ((text_Runes.f (([65, 226, 130, 172] : List Int))).bind fun bt200 => ((text_Rune.f ([] : List Int) 128512).bind fun bt205 => ((text_Rune.f ([] : List Int) 55296).bind fun bt209 => ((text_Valid.f (([195, 164] : List Int))).bind fun t216 => (if t216 = true then ((text_Valid.f (([195] : List Int))).bind fun t220 => (if t220 = true then (none) else ((text_Valid.f (([192, 128] : List Int))).bind fun t224 => (if t224 = true then (none) else ((text_Valid.f (([237, 160, 128] : List Int))).bind fun t228 => (if t228 = true then (none) else ((signetryref00_EqInts.f k bt200.1 (([65, 8364] : List Int))).bind fun t232 => (if t232 = true then (if bt200.2.1 = 0 then (if bt200.2.2 = 0 then ((signetryref00_EqBytes.f bt205.1 (([240, 159, 152, 128] : List Int))).bind fun t236 => (if t236 = true then (if bt205.2 = 0 then (signetrylaw02_works.j0 k (bt209.2 != 20)) else (none)) else (none))) else (none)) else (none)) else (none))))))))) else (none)))))) = some r := h
 clear h
 obtain ⟨y197, hy197⟩ : ∃ y_ : List Int, y_ = (([65, 226, 130, 172] : List Int)) := ⟨_, rfl⟩
 replace H : ((text_Runes.f y197).bind fun bt200 => ((text_Rune.f ([] : List Int) 128512).bind fun bt205 => ((text_Rune.f ([] : List Int) 55296).bind fun bt209 => ((text_Valid.f (([195, 164] : List Int))).bind fun t216 => (if t216 = true then ((text_Valid.f (([195] : List Int))).bind fun t220 => (if t220 = true then (none) else ((text_Valid.f (([192, 128] : List Int))).bind fun t224 => (if t224 = true then (none) else ((text_Valid.f (([237, 160, 128] : List Int))).bind fun t228 => (if t228 = true then (none) else ((signetryref00_EqInts.f k bt200.1 (([65, 8364] : List Int))).bind fun t232 => (if t232 = true then (if bt200.2.1 = 0 then (if bt200.2.2 = 0 then ((signetryref00_EqBytes.f bt205.1 (([240, 159, 152, 128] : List Int))).bind fun t236 => (if t236 = true then (if bt205.2 = 0 then (signetrylaw02_works.j0 k (bt209.2 != 20)) else (none)) else (none))) else (none)) else (none)) else (none))))))))) else (none)))))) = some r := by first | (rw [hy197]; with_reducible exact H) | (have H2_ := (Option.bind_some _ _).symm.trans H; rw [hy197]; with_reducible exact H2_) | (have H2_ := (Option.bind_some _ _).symm.trans H; with_reducible exact H2_) | with_reducible exact H | (rw [hy197]; exact H) | exact H
 have Ny197 := Aside0.mk hy197
 clear hy197
 replace H := Option.bind_eq_some_iff.mp H
 obtain ⟨⟨t200, t201, t202⟩, A10, H⟩ := H
 replace H : ((text_Rune.f ([] : List Int) 128512).bind fun bt205 => ((text_Rune.f ([] : List Int) 55296).bind fun bt209 => ((text_Valid.f (([195, 164] : List Int))).bind fun t216 => (if t216 = true then ((text_Valid.f (([195] : List Int))).bind fun t220 => (if t220 = true then (none) else ((text_Valid.f (([192, 128] : List Int))).bind fun t224 => (if t224 = true then (none) else ((text_Valid.f (([237, 160, 128] : List Int))).bind fun t228 => (if t228 = true then (none) else ((signetryref00_EqInts.f k t200 (([65, 8364] : List Int))).bind fun t232 => (if t232 = true then (if t201 = 0 then (if t202 = 0 then ((signetryref00_EqBytes.f bt205.1 (([240, 159, 152, 128] : List Int))).bind fun t236 => (if t236 = true then (if bt205.2 = 0 then (signetrylaw02_works.j0 k (bt209.2 != 20)) else (none)) else (none))) else (none)) else (none)) else (none))))))))) else (none))))) = some r := H
 have A1 := Aside0.mk A10
 clear A10
 replace H := Option.bind_eq_some_iff.mp H
 obtain ⟨⟨t205, t206⟩, A20, H⟩ := H
 replace H : ((text_Rune.f ([] : List Int) 55296).bind fun bt209 => ((text_Valid.f (([195, 164] : List Int))).bind fun t216 => (if t216 = true then ((text_Valid.f (([195] : List Int))).bind fun t220 => (if t220 = true then (none) else ((text_Valid.f (([192, 128] : List Int))).bind fun t224 => (if t224 = true then (none) else ((text_Valid.f (([237, 160, 128] : List Int))).bind fun t228 => (if t228 = true then (none) else ((signetryref00_EqInts.f k t200 (([65, 8364] : List Int))).bind fun t232 => (if t232 = true then (if t201 = 0 then (if t202 = 0 then ((signetryref00_EqBytes.f t205 (([240, 159, 152, 128] : List Int))).bind fun t236 => (if t236 = true then (if t206 = 0 then (signetrylaw02_works.j0 k (bt209.2 != 20)) else (none)) else (none))) else (none)) else (none)) else (none))))))))) else (none)))) = some r := H
 have A2 := Aside0.mk A20
 clear A20
 replace H := Option.bind_eq_some_iff.mp H
 obtain ⟨⟨t209, t210⟩, A30, H⟩ := H
 replace H : ((text_Valid.f (([195, 164] : List Int))).bind fun t216 => (if t216 = true then ((text_Valid.f (([195] : List Int))).bind fun t220 => (if t220 = true then (none) else ((text_Valid.f (([192, 128] : List Int))).bind fun t224 => (if t224 = true then (none) else ((text_Valid.f (([237, 160, 128] : List Int))).bind fun t228 => (if t228 = true then (none) else ((signetryref00_EqInts.f k t200 (([65, 8364] : List Int))).bind fun t232 => (if t232 = true then (if t201 = 0 then (if t202 = 0 then ((signetryref00_EqBytes.f t205 (([240, 159, 152, 128] : List Int))).bind fun t236 => (if t236 = true then (if t206 = 0 then (signetrylaw02_works.j0 k (t210 != 20)) else (none)) else (none))) else (none)) else (none)) else (none))))))))) else (none))) = some r := H
 have A3 := Aside0.mk A30
 clear A30
 have HC4 := Aside0.mk H
 clear H
 go_enter Tryd.func21, Tryd.ntmps21
 go_upto_region 4 with (first | ((with_reducible refine gate_dst (N := 10) rfl ?_); (try (refine gate_guard (by rfl) ?_; dsimp only)); refine Kd.R_lit (Kd.int .u8) _ 5 ?hg (N := 10) ?hd (xs := ([65, 226, 130, 172] : List Int)) (inner := [.int .u8 65, .int .u8 226, .int .u8 130, .int .u8 172]) (ok := fun _ => True) (okp := fun _ => True) ?hr ?hp (fun _ hk => hk) trivial (Below.refl _ _) (Nat.le_refl _) (by simp) ?_; (case hd => rfl); (case hg => rfl); (case hr => first | (go_simp; done) | (go_simp; rfl)); (case hp => exact (Reps.one (show Kd.M (Kd.int .u8) _ _ _ 65 [.int .u8 65] from rfl) (Reps.one (show Kd.M (Kd.int .u8) _ _ _ 226 [.int .u8 226] from rfl) (Reps.one (show Kd.M (Kd.int .u8) _ _ _ 130 [.int .u8 130] from rfl) (Reps.one (show Kd.M (Kd.int .u8) _ _ _ 172 [.int .u8 172] from rfl) (Reps.none _ _)))))); intro v198 w5 ho6 hb hg_ hnew_; clear hg_ hnew_; (first | rw [← Ny197.out] at ho6 | (simp only [Int.reduceToNat] at ho6; rw [← Ny197.out] at ho6)); have n0_ := Aside0.mk (Kd.R_lower ho6 (below_size (by repeat (first | (with_reducible first | exact HB.out | apply below_alloc | apply pw_below_drewN | apply below_drew1) | exact HB.out)))); have n1_ := Aside0.mk (below_step (by repeat (first | (with_reducible first | exact HB.out | apply below_alloc | apply pw_below_drewN | apply below_drew1) | exact HB.out)) hb); clear HB; have HO199 := n0_; have HB := n1_; clear n0_ n1_; clear hb ho6; obtain ⟨Ao7, co7, eo7⟩ := Kd.R_slice HO199.out; subst eo7) | ((with_reducible refine gate_callee (f := 13) rfl ?_); refine goesL_ (some 11) rfl rfl Tryd.func13 (by kernel_rfl) rfl #[.slice Ao7 y197.length co7] rfl (by (try simp only [List.map_toArray, List.map_cons, List.map_nil]); first | done | rfl | (simp only [List.length_drop, List.length_take]; rfl)) ?_; (with_reducible refine (text_Runes.calls _ _ y197 t200 t201 t202 _ ?side1 ?side2 A1.out (HTB_.below (by repeat (first | (with_reducible first | exact HB.out | apply below_alloc | apply pw_below_drewN | apply below_drew1) | exact HB.out)))).mono ?_); (case side1 => repeat (first | exact (Kd.R_reads' HO199.out).2.2 | (with_reducible refine Kd.C_alloc ?_ _) | (with_reducible refine Kd.C_drewN ?_ _) | (with_reducible refine Kd.C_drew ?_))); (case side2 => exact (Kd.R_reads' HO199.out).2.1); rintro e w8 ⟨v203, rfl, ho0, hb⟩; refine ⟨_, rfl, ?_⟩; have n0_ := Aside0.mk (Kd.R_below (by (with_reducible repeat (first | apply Kd.R_alloc | apply Kd.R_drewN | apply Kd.R_drew)); exact HO199.out) hb); have n1_ := Aside0.mk (Kd.R_lower ho0 (below_size (by repeat (first | (with_reducible first | exact HB.out | apply below_alloc | apply pw_below_drewN | apply below_drew1) | exact HB.out)))); have n2_ := Aside0.mk (below_step (by repeat (first | (with_reducible first | exact HB.out | apply below_alloc | apply pw_below_drewN | apply below_drew1) | exact HB.out)) hb); clear HO199; clear HB; have HO199 := n0_; have HO204 := n1_; have HB := n2_; clear n0_ n1_ n2_; (try clear hb); (try clear hb2); (try clear hk); (try clear hi); (try clear ho0)) | ((with_reducible refine gate_callee (f := 15) rfl ?_); refine goesL_ (some 16) rfl rfl Tryd.func15 (by kernel_rfl) rfl #[.slice none 0 0, .int .i64 128512] rfl (by (try simp only [List.map_toArray, List.map_cons, List.map_nil]); first | done | rfl | (simp only [List.length_drop, List.length_take]; rfl)) ?_; (refine (text_Rune.calls _ _ ([] : List Int) 128512 t205 t206 _ ?side1 ?side2 A2.out).mono ?_); (case side1 => exact Kd.C_nil _ _); (case side2 => exact Nat.le_refl _); rintro e w9 ⟨v207, rfl, ho0, hb⟩; refine ⟨_, rfl, ?_⟩; have n0_ := Aside0.mk (Kd.R_elder' (by (with_reducible repeat (first | apply Kd.R_alloc | apply Kd.R_drewN | apply Kd.R_drew)); exact HO199.out) (Kd.R_base ho0) hb); have n1_ := Aside0.mk (Kd.R_below (by (with_reducible repeat (first | apply Kd.R_alloc | apply Kd.R_drewN | apply Kd.R_drew)); exact HO204.out) hb); have n2_ := Aside0.mk (Kd.R_lower (Kd.R_new' ho0 (Kd.R_lt (by (with_reducible repeat (first | apply Kd.R_alloc | apply Kd.R_drewN | apply Kd.R_drew)); exact HO199.out))) (below_size (by repeat (first | (with_reducible first | exact HB.out | apply below_alloc | apply pw_below_drewN | apply below_drew1) | exact HB.out)))); have n3_ := Aside0.mk (below_step (by repeat (first | (with_reducible first | exact HB.out | apply below_alloc | apply pw_below_drewN | apply below_drew1) | exact HB.out)) hb); clear HO199; clear HO204; clear HB; have HO199 := n0_; have HO204 := n1_; have HO208 := n2_; have HB := n3_; clear n0_ n1_ n2_ n3_; (try clear hb); (try clear hb2); (try clear hk); (try clear hi); (try clear ho0)) | ((with_reducible refine gate_callee (f := 15) rfl ?_); refine goesL_ (some 20) rfl rfl Tryd.func15 (by kernel_rfl) rfl #[.slice none 0 0, .int .i64 55296] rfl (by (try simp only [List.map_toArray, List.map_cons, List.map_nil]); first | done | rfl | (simp only [List.length_drop, List.length_take]; rfl)) ?_; (refine (text_Rune.calls _ _ ([] : List Int) 55296 t209 t210 _ ?side1 ?side2 A3.out).mono ?_); (case side1 => exact Kd.C_nil _ _); (case side2 => exact Nat.le_refl _); rintro e w10 ⟨v211, rfl, ho0, hb⟩; refine ⟨_, rfl, ?_⟩; have n0_ := Aside0.mk (Kd.R_elder' (by (with_reducible repeat (first | apply Kd.R_alloc | apply Kd.R_drewN | apply Kd.R_drew)); exact HO199.out) (Kd.R_base ho0) hb); have n1_ := Aside0.mk (Kd.R_below (by (with_reducible repeat (first | apply Kd.R_alloc | apply Kd.R_drewN | apply Kd.R_drew)); exact HO204.out) hb); have n2_ := Aside0.mk (Kd.R_elder' (by (with_reducible repeat (first | apply Kd.R_alloc | apply Kd.R_drewN | apply Kd.R_drew)); exact HO208.out) (Kd.R_base ho0) hb); have n3_ := Aside0.mk (Kd.R_lower (Kd.R_new' (Kd.R_new' ho0 (Kd.R_lt (by (with_reducible repeat (first | apply Kd.R_alloc | apply Kd.R_drewN | apply Kd.R_drew)); exact HO199.out))) (Kd.R_lt (by (with_reducible repeat (first | apply Kd.R_alloc | apply Kd.R_drewN | apply Kd.R_drew)); exact HO208.out))) (below_size (by repeat (first | (with_reducible first | exact HB.out | apply below_alloc | apply pw_below_drewN | apply below_drew1) | exact HB.out)))); have n4_ := Aside0.mk (below_step (by repeat (first | (with_reducible first | exact HB.out | apply below_alloc | apply pw_below_drewN | apply below_drew1) | exact HB.out)) hb); clear HO199; clear HO204; clear HO208; clear HB; have HO199 := n0_; have HO204 := n1_; have HO208 := n2_; have HO212 := n3_; have HB := n4_; clear n0_ n1_ n2_ n3_ n4_; (try clear hb); (try clear hb2); (try clear hk); (try clear hi); (try clear ho0)))
 (try simp only [Act.put, List.setIfInBounds_toArray, List.set_cons_zero, List.set_cons_succ])
 go_cut [65] (fun v65 wc => ∃ (kq : Nat) (x65_3 : Bool), v65 = .bool x65_3 ∧ Aside0 (signetrylaw02_works.j0 kq x65_3 = some r) ∧ Aside0 (kq ≤ k) ∧ Aside0 (Below w.heap.size w wc))
 case first =>
  have H := HC4.out
  clear HC4
  obtain ⟨y213, hy213⟩ : ∃ y_ : List Int, y_ = (([195, 164] : List Int)) := ⟨_, rfl⟩
  replace H : ((text_Valid.f y213).bind fun t216 => (if t216 = true then ((text_Valid.f (([195] : List Int))).bind fun t220 => (if t220 = true then (none) else ((text_Valid.f (([192, 128] : List Int))).bind fun t224 => (if t224 = true then (none) else ((text_Valid.f (([237, 160, 128] : List Int))).bind fun t228 => (if t228 = true then (none) else ((signetryref00_EqInts.f k t200 (([65, 8364] : List Int))).bind fun t232 => (if t232 = true then (if t201 = 0 then (if t202 = 0 then ((signetryref00_EqBytes.f t205 (([240, 159, 152, 128] : List Int))).bind fun t236 => (if t236 = true then (if t206 = 0 then (signetrylaw02_works.j0 k (t210 != 20)) else (none)) else (none))) else (none)) else (none)) else (none))))))))) else (none))) = some r := by first | (rw [hy213]; with_reducible exact H) | (have H2_ := (Option.bind_some _ _).symm.trans H; rw [hy213]; with_reducible exact H2_) | (have H2_ := (Option.bind_some _ _).symm.trans H; with_reducible exact H2_) | with_reducible exact H | (rw [hy213]; exact H) | exact H
  have Ny213 := Aside0.mk hy213
  clear hy213
  replace H := Option.bind_eq_some_iff.mp H
  obtain ⟨t216, A110, H⟩ := H
  replace H : (if t216 = true then ((text_Valid.f (([195] : List Int))).bind fun t220 => (if t220 = true then (none) else ((text_Valid.f (([192, 128] : List Int))).bind fun t224 => (if t224 = true then (none) else ((text_Valid.f (([237, 160, 128] : List Int))).bind fun t228 => (if t228 = true then (none) else ((signetryref00_EqInts.f k t200 (([65, 8364] : List Int))).bind fun t232 => (if t232 = true then (if t201 = 0 then (if t202 = 0 then ((signetryref00_EqBytes.f t205 (([240, 159, 152, 128] : List Int))).bind fun t236 => (if t236 = true then (if t206 = 0 then (signetrylaw02_works.j0 k (t210 != 20)) else (none)) else (none))) else (none)) else (none)) else (none))))))))) else (none)) = some r := H
  have A11 := Aside0.mk A110
  clear A110
  by_cases c12 : t216 = true
  case neg =>
   replace c12 := Bool.eq_false_iff.mpr c12
   subst c12
   have H1 : (none) = some r := by rw [if_neg (show ¬ (false = true) by decide)] at H; exact H
   clear H
   have H := H1
   clear H1
   exact absurd H (by simp)
  subst c12
  have H1 : ((text_Valid.f (([195] : List Int))).bind fun t220 => (if t220 = true then (none) else ((text_Valid.f (([192, 128] : List Int))).bind fun t224 => (if t224 = true then (none) else ((text_Valid.f (([237, 160, 128] : List Int))).bind fun t228 => (if t228 = true then (none) else ((signetryref00_EqInts.f k t200 (([65, 8364] : List Int))).bind fun t232 => (if t232 = true then (if t201 = 0 then (if t202 = 0 then ((signetryref00_EqBytes.f t205 (([240, 159, 152, 128] : List Int))).bind fun t236 => (if t236 = true then (if t206 = 0 then (signetrylaw02_works.j0 k (t210 != 20)) else (none)) else (none))) else (none)) else (none)) else (none))))))))) = some r := by rw [if_pos rfl] at H; exact H
  clear H
  have H := H1
  clear H1
  obtain ⟨y217, hy217⟩ : ∃ y_ : List Int, y_ = (([195] : List Int)) := ⟨_, rfl⟩
  replace H : ((text_Valid.f y217).bind fun t220 => (if t220 = true then (none) else ((text_Valid.f (([192, 128] : List Int))).bind fun t224 => (if t224 = true then (none) else ((text_Valid.f (([237, 160, 128] : List Int))).bind fun t228 => (if t228 = true then (none) else ((signetryref00_EqInts.f k t200 (([65, 8364] : List Int))).bind fun t232 => (if t232 = true then (if t201 = 0 then (if t202 = 0 then ((signetryref00_EqBytes.f t205 (([240, 159, 152, 128] : List Int))).bind fun t236 => (if t236 = true then (if t206 = 0 then (signetrylaw02_works.j0 k (t210 != 20)) else (none)) else (none))) else (none)) else (none)) else (none))))))))) = some r := by first | (rw [hy217]; with_reducible exact H) | (have H2_ := (Option.bind_some _ _).symm.trans H; rw [hy217]; with_reducible exact H2_) | (have H2_ := (Option.bind_some _ _).symm.trans H; with_reducible exact H2_) | with_reducible exact H | (rw [hy217]; exact H) | exact H
  have Ny217 := Aside0.mk hy217
  clear hy217
  replace H := Option.bind_eq_some_iff.mp H
  obtain ⟨t220, A130, H⟩ := H
  replace H : (if t220 = true then (none) else ((text_Valid.f (([192, 128] : List Int))).bind fun t224 => (if t224 = true then (none) else ((text_Valid.f (([237, 160, 128] : List Int))).bind fun t228 => (if t228 = true then (none) else ((signetryref00_EqInts.f k t200 (([65, 8364] : List Int))).bind fun t232 => (if t232 = true then (if t201 = 0 then (if t202 = 0 then ((signetryref00_EqBytes.f t205 (([240, 159, 152, 128] : List Int))).bind fun t236 => (if t236 = true then (if t206 = 0 then (signetrylaw02_works.j0 k (t210 != 20)) else (none)) else (none))) else (none)) else (none)) else (none)))))))) = some r := H
  have A13 := Aside0.mk A130
  clear A130
  by_cases c14 : t220 = true
  case pos =>
   subst c14
   have H1 : (none) = some r := by rw [if_pos rfl] at H; exact H
   clear H
   have H := H1
   clear H1
   exact absurd H (by simp)
  replace c14 := Bool.eq_false_iff.mpr c14
  subst c14
  have H1 : ((text_Valid.f (([192, 128] : List Int))).bind fun t224 => (if t224 = true then (none) else ((text_Valid.f (([237, 160, 128] : List Int))).bind fun t228 => (if t228 = true then (none) else ((signetryref00_EqInts.f k t200 (([65, 8364] : List Int))).bind fun t232 => (if t232 = true then (if t201 = 0 then (if t202 = 0 then ((signetryref00_EqBytes.f t205 (([240, 159, 152, 128] : List Int))).bind fun t236 => (if t236 = true then (if t206 = 0 then (signetrylaw02_works.j0 k (t210 != 20)) else (none)) else (none))) else (none)) else (none)) else (none))))))) = some r := by rw [if_neg (show ¬ (false = true) by decide)] at H; exact H
  clear H
  have H := H1
  clear H1
  obtain ⟨y221, hy221⟩ : ∃ y_ : List Int, y_ = (([192, 128] : List Int)) := ⟨_, rfl⟩
  replace H : ((text_Valid.f y221).bind fun t224 => (if t224 = true then (none) else ((text_Valid.f (([237, 160, 128] : List Int))).bind fun t228 => (if t228 = true then (none) else ((signetryref00_EqInts.f k t200 (([65, 8364] : List Int))).bind fun t232 => (if t232 = true then (if t201 = 0 then (if t202 = 0 then ((signetryref00_EqBytes.f t205 (([240, 159, 152, 128] : List Int))).bind fun t236 => (if t236 = true then (if t206 = 0 then (signetrylaw02_works.j0 k (t210 != 20)) else (none)) else (none))) else (none)) else (none)) else (none))))))) = some r := by first | (rw [hy221]; with_reducible exact H) | (have H2_ := (Option.bind_some _ _).symm.trans H; rw [hy221]; with_reducible exact H2_) | (have H2_ := (Option.bind_some _ _).symm.trans H; with_reducible exact H2_) | with_reducible exact H | (rw [hy221]; exact H) | exact H
  have Ny221 := Aside0.mk hy221
  clear hy221
  replace H := Option.bind_eq_some_iff.mp H
  obtain ⟨t224, A150, H⟩ := H
  replace H : (if t224 = true then (none) else ((text_Valid.f (([237, 160, 128] : List Int))).bind fun t228 => (if t228 = true then (none) else ((signetryref00_EqInts.f k t200 (([65, 8364] : List Int))).bind fun t232 => (if t232 = true then (if t201 = 0 then (if t202 = 0 then ((signetryref00_EqBytes.f t205 (([240, 159, 152, 128] : List Int))).bind fun t236 => (if t236 = true then (if t206 = 0 then (signetrylaw02_works.j0 k (t210 != 20)) else (none)) else (none))) else (none)) else (none)) else (none)))))) = some r := H
  have A15 := Aside0.mk A150
  clear A150
  by_cases c16 : t224 = true
  case pos =>
   subst c16
   have H1 : (none) = some r := by rw [if_pos rfl] at H; exact H
   clear H
   have H := H1
   clear H1
   exact absurd H (by simp)
  replace c16 := Bool.eq_false_iff.mpr c16
  subst c16
  have H1 : ((text_Valid.f (([237, 160, 128] : List Int))).bind fun t228 => (if t228 = true then (none) else ((signetryref00_EqInts.f k t200 (([65, 8364] : List Int))).bind fun t232 => (if t232 = true then (if t201 = 0 then (if t202 = 0 then ((signetryref00_EqBytes.f t205 (([240, 159, 152, 128] : List Int))).bind fun t236 => (if t236 = true then (if t206 = 0 then (signetrylaw02_works.j0 k (t210 != 20)) else (none)) else (none))) else (none)) else (none)) else (none))))) = some r := by rw [if_neg (show ¬ (false = true) by decide)] at H; exact H
  clear H
  have H := H1
  clear H1
  obtain ⟨y225, hy225⟩ : ∃ y_ : List Int, y_ = (([237, 160, 128] : List Int)) := ⟨_, rfl⟩
  replace H : ((text_Valid.f y225).bind fun t228 => (if t228 = true then (none) else ((signetryref00_EqInts.f k t200 (([65, 8364] : List Int))).bind fun t232 => (if t232 = true then (if t201 = 0 then (if t202 = 0 then ((signetryref00_EqBytes.f t205 (([240, 159, 152, 128] : List Int))).bind fun t236 => (if t236 = true then (if t206 = 0 then (signetrylaw02_works.j0 k (t210 != 20)) else (none)) else (none))) else (none)) else (none)) else (none))))) = some r := by first | (rw [hy225]; with_reducible exact H) | (have H2_ := (Option.bind_some _ _).symm.trans H; rw [hy225]; with_reducible exact H2_) | (have H2_ := (Option.bind_some _ _).symm.trans H; with_reducible exact H2_) | with_reducible exact H | (rw [hy225]; exact H) | exact H
  have Ny225 := Aside0.mk hy225
  clear hy225
  replace H := Option.bind_eq_some_iff.mp H
  obtain ⟨t228, A170, H⟩ := H
  replace H : (if t228 = true then (none) else ((signetryref00_EqInts.f k t200 (([65, 8364] : List Int))).bind fun t232 => (if t232 = true then (if t201 = 0 then (if t202 = 0 then ((signetryref00_EqBytes.f t205 (([240, 159, 152, 128] : List Int))).bind fun t236 => (if t236 = true then (if t206 = 0 then (signetrylaw02_works.j0 k (t210 != 20)) else (none)) else (none))) else (none)) else (none)) else (none)))) = some r := H
  have A17 := Aside0.mk A170
  clear A170
  by_cases c18 : t228 = true
  case pos =>
   subst c18
   have H1 : (none) = some r := by rw [if_pos rfl] at H; exact H
   clear H
   have H := H1
   clear H1
   exact absurd H (by simp)
  replace c18 := Bool.eq_false_iff.mpr c18
  subst c18
  have H1 : ((signetryref00_EqInts.f k t200 (([65, 8364] : List Int))).bind fun t232 => (if t232 = true then (if t201 = 0 then (if t202 = 0 then ((signetryref00_EqBytes.f t205 (([240, 159, 152, 128] : List Int))).bind fun t236 => (if t236 = true then (if t206 = 0 then (signetrylaw02_works.j0 k (t210 != 20)) else (none)) else (none))) else (none)) else (none)) else (none))) = some r := by rw [if_neg (show ¬ (false = true) by decide)] at H; exact H
  clear H
  have H := H1
  clear H1
  obtain ⟨y229, hy229⟩ : ∃ y_ : List Int, y_ = (([65, 8364] : List Int)) := ⟨_, rfl⟩
  replace H : ((signetryref00_EqInts.f k t200 y229).bind fun t232 => (if t232 = true then (if t201 = 0 then (if t202 = 0 then ((signetryref00_EqBytes.f t205 (([240, 159, 152, 128] : List Int))).bind fun t236 => (if t236 = true then (if t206 = 0 then (signetrylaw02_works.j0 k (t210 != 20)) else (none)) else (none))) else (none)) else (none)) else (none))) = some r := by first | (rw [hy229]; with_reducible exact H) | (have H2_ := (Option.bind_some _ _).symm.trans H; rw [hy229]; with_reducible exact H2_) | (have H2_ := (Option.bind_some _ _).symm.trans H; with_reducible exact H2_) | with_reducible exact H | (rw [hy229]; exact H) | exact H
  have Ny229 := Aside0.mk hy229
  clear hy229
  replace H := Option.bind_eq_some_iff.mp H
  obtain ⟨t232, A190, H⟩ := H
  replace H : (if t232 = true then (if t201 = 0 then (if t202 = 0 then ((signetryref00_EqBytes.f t205 (([240, 159, 152, 128] : List Int))).bind fun t236 => (if t236 = true then (if t206 = 0 then (signetrylaw02_works.j0 k (t210 != 20)) else (none)) else (none))) else (none)) else (none)) else (none)) = some r := H
  have A19 := Aside0.mk A190
  clear A190
  by_cases c20 : t232 = true
  case neg =>
   replace c20 := Bool.eq_false_iff.mpr c20
   subst c20
   have H1 : (none) = some r := by rw [if_neg (show ¬ (false = true) by decide)] at H; exact H
   clear H
   have H := H1
   clear H1
   exact absurd H (by simp)
  subst c20
  have H1 : (if t201 = 0 then (if t202 = 0 then ((signetryref00_EqBytes.f t205 (([240, 159, 152, 128] : List Int))).bind fun t236 => (if t236 = true then (if t206 = 0 then (signetrylaw02_works.j0 k (t210 != 20)) else (none)) else (none))) else (none)) else (none)) = some r := by rw [if_pos rfl] at H; exact H
  clear H
  have H := H1
  clear H1
  by_cases c21 : t201 = 0
  case neg =>
   rw [if_neg c21] at H
   exact absurd H (by simp)
  rw [if_pos c21] at H
  have c21b0 : (t201 == 0) = true := beq_iff_eq.mpr c21
  have c21b1 : (t201 != 0) = false := bne_eq_false_iff_eq.mpr c21
  clear c21
  (first | rw [c21b0] | (simp only [i64_w, i32_w]; rw [c21b0]) | skip)
  by_cases c22 : t202 = 0
  case neg =>
   rw [if_neg c22] at H
   exact absurd H (by simp)
  rw [if_pos c22] at H
  have c22b0 : (t202 == 0) = true := beq_iff_eq.mpr c22
  have c22b1 : (t202 != 0) = false := bne_eq_false_iff_eq.mpr c22
  clear c22
  obtain ⟨y233, hy233⟩ : ∃ y_ : List Int, y_ = (([240, 159, 152, 128] : List Int)) := ⟨_, rfl⟩
  replace H : ((signetryref00_EqBytes.f t205 y233).bind fun t236 => (if t236 = true then (if t206 = 0 then (signetrylaw02_works.j0 k (t210 != 20)) else (none)) else (none))) = some r := by first | (rw [hy233]; with_reducible exact H) | (have H2_ := (Option.bind_some _ _).symm.trans H; rw [hy233]; with_reducible exact H2_) | (have H2_ := (Option.bind_some _ _).symm.trans H; with_reducible exact H2_) | with_reducible exact H | (rw [hy233]; exact H) | exact H
  have Ny233 := Aside0.mk hy233
  clear hy233
  replace H := Option.bind_eq_some_iff.mp H
  obtain ⟨t236, A230, H⟩ := H
  replace H : (if t236 = true then (if t206 = 0 then (signetrylaw02_works.j0 k (t210 != 20)) else (none)) else (none)) = some r := H
  have A23 := Aside0.mk A230
  clear A230
  by_cases c24 : t236 = true
  case neg =>
   replace c24 := Bool.eq_false_iff.mpr c24
   subst c24
   have H1 : (none) = some r := by rw [if_neg (show ¬ (false = true) by decide)] at H; exact H
   clear H
   have H := H1
   clear H1
   exact absurd H (by simp)
  subst c24
  have H1 : (if t206 = 0 then (signetrylaw02_works.j0 k (t210 != 20)) else (none)) = some r := by rw [if_pos rfl] at H; exact H
  clear H
  have H := H1
  clear H1
  by_cases c25 : t206 = 0
  case neg =>
   rw [if_neg c25] at H
   exact absurd H (by simp)
  rw [if_pos c25] at H
  have c25b0 : (t206 == 0) = true := beq_iff_eq.mpr c25
  have c25b1 : (t206 != 0) = false := bne_eq_false_iff_eq.mpr c25
  clear c25
  have H' := Aside0.mk H
  clear H
  go_wp2_with (first | ((with_reducible refine gate_dst (N := 23) rfl ?_); (try (refine gate_guard (by rfl) ?_; dsimp only)); refine Kd.R_lit (Kd.int .u8) _ 5 ?hg (N := 23) ?hd (xs := ([195, 164] : List Int)) (inner := [.int .u8 195, .int .u8 164]) (ok := fun _ => True) (okp := fun _ => True) ?hr ?hp (fun _ hk => hk) trivial (Below.refl _ _) (Nat.le_refl _) (by simp) ?_; (case hd => rfl); (case hg => rfl); (case hr => first | (go_simp; done) | (go_simp; rfl)); (case hp => exact (Reps.one (show Kd.M (Kd.int .u8) _ _ _ 195 [.int .u8 195] from rfl) (Reps.one (show Kd.M (Kd.int .u8) _ _ _ 164 [.int .u8 164] from rfl) (Reps.none _ _)))); intro v214 w26 ho27 hb hg_ hnew_; clear hg_ hnew_; (first | rw [← Ny213.out] at ho27 | (simp only [Int.reduceToNat] at ho27; rw [← Ny213.out] at ho27)); have n0_ := Aside0.mk (Kd.R_elder' (by (with_reducible repeat (first | apply Kd.R_alloc | apply Kd.R_drewN | apply Kd.R_drew)); exact HO199.out) (Kd.R_base ho27) hb); have n1_ := Aside0.mk (Kd.R_below (by (with_reducible repeat (first | apply Kd.R_alloc | apply Kd.R_drewN | apply Kd.R_drew)); exact HO204.out) hb); have n2_ := Aside0.mk (Kd.R_elder' (by (with_reducible repeat (first | apply Kd.R_alloc | apply Kd.R_drewN | apply Kd.R_drew)); exact HO208.out) (Kd.R_base ho27) hb); have n3_ := Aside0.mk (Kd.R_elder' (by (with_reducible repeat (first | apply Kd.R_alloc | apply Kd.R_drewN | apply Kd.R_drew)); exact HO212.out) (Kd.R_base ho27) hb); have n4_ := Aside0.mk (Kd.R_lower (Kd.R_new' (Kd.R_new' (Kd.R_new' ho27 (Kd.R_lt (by (with_reducible repeat (first | apply Kd.R_alloc | apply Kd.R_drewN | apply Kd.R_drew)); exact HO199.out))) (Kd.R_lt (by (with_reducible repeat (first | apply Kd.R_alloc | apply Kd.R_drewN | apply Kd.R_drew)); exact HO208.out))) (Kd.R_lt (by (with_reducible repeat (first | apply Kd.R_alloc | apply Kd.R_drewN | apply Kd.R_drew)); exact HO212.out))) (below_size (by repeat (first | (with_reducible first | exact HB.out | apply below_alloc | apply pw_below_drewN | apply below_drew1) | exact HB.out)))); have n5_ := Aside0.mk (below_step (by repeat (first | (with_reducible first | exact HB.out | apply below_alloc | apply pw_below_drewN | apply below_drew1) | exact HB.out)) hb); clear HO199; clear HO204; clear HO208; clear HO212; clear HB; have HO199 := n0_; have HO204 := n1_; have HO208 := n2_; have HO212 := n3_; have HO215 := n4_; have HB := n5_; clear n0_ n1_ n2_ n3_ n4_ n5_; clear hb ho27; obtain ⟨Ao28, co28, eo28⟩ := Kd.R_slice HO215.out; subst eo28) | ((with_reducible refine gate_callee (f := 19) rfl ?_); refine goesL_ (some 24) rfl rfl Tryd.func19 (by kernel_rfl) rfl #[.slice Ao28 y213.length co28] rfl (by (try simp only [List.map_toArray, List.map_cons, List.map_nil]); first | done | rfl | (simp only [List.length_drop, List.length_take]; rfl)) ?_; (with_reducible refine (text_Valid.calls _ _ y213 true _ ?side1 ?side2 A11.out (HTB_.below (by repeat (first | (with_reducible first | exact HB.out | apply below_alloc | apply pw_below_drewN | apply below_drew1) | exact HB.out)))).mono ?_); (case side1 => repeat (first | exact (Kd.R_reads' HO215.out).2.2 | (with_reducible refine Kd.C_alloc ?_ _) | (with_reducible refine Kd.C_drewN ?_ _) | (with_reducible refine Kd.C_drew ?_))); (case side2 => exact (Kd.R_reads' HO215.out).2.1); rintro e w29 ⟨rfl, hb⟩; refine ⟨_, rfl, ?_⟩; have n0_ := Aside0.mk (Kd.R_below (by (with_reducible repeat (first | apply Kd.R_alloc | apply Kd.R_drewN | apply Kd.R_drew)); exact HO199.out) hb); have n1_ := Aside0.mk (Kd.R_below (by (with_reducible repeat (first | apply Kd.R_alloc | apply Kd.R_drewN | apply Kd.R_drew)); exact HO204.out) hb); have n2_ := Aside0.mk (Kd.R_below (by (with_reducible repeat (first | apply Kd.R_alloc | apply Kd.R_drewN | apply Kd.R_drew)); exact HO208.out) hb); have n3_ := Aside0.mk (Kd.R_below (by (with_reducible repeat (first | apply Kd.R_alloc | apply Kd.R_drewN | apply Kd.R_drew)); exact HO212.out) hb); have n4_ := Aside0.mk (Kd.R_below (by (with_reducible repeat (first | apply Kd.R_alloc | apply Kd.R_drewN | apply Kd.R_drew)); exact HO215.out) hb); have n5_ := Aside0.mk (below_step (by repeat (first | (with_reducible first | exact HB.out | apply below_alloc | apply pw_below_drewN | apply below_drew1) | exact HB.out)) hb); clear HO199; clear HO204; clear HO208; clear HO212; clear HO215; clear HB; have HO199 := n0_; have HO204 := n1_; have HO208 := n2_; have HO212 := n3_; have HO215 := n4_; have HB := n5_; clear n0_ n1_ n2_ n3_ n4_ n5_; (try clear hb); (try clear hb2); (try clear hk); (try clear hi)) | ((with_reducible refine gate_dst (N := 27) rfl ?_); (try (refine gate_guard (by rfl) ?_; dsimp only)); refine Kd.R_lit (Kd.int .u8) _ 5 ?hg (N := 27) ?hd (xs := ([195] : List Int)) (inner := [.int .u8 195]) (ok := fun _ => True) (okp := fun _ => True) ?hr ?hp (fun _ hk => hk) trivial (Below.refl _ _) (Nat.le_refl _) (by simp) ?_; (case hd => rfl); (case hg => rfl); (case hr => first | (go_simp; done) | (go_simp; rfl)); (case hp => exact (Reps.one (show Kd.M (Kd.int .u8) _ _ _ 195 [.int .u8 195] from rfl) (Reps.none _ _))); intro v218 w30 ho31 hb hg_ hnew_; clear hg_ hnew_; (first | rw [← Ny217.out] at ho31 | (simp only [Int.reduceToNat] at ho31; rw [← Ny217.out] at ho31)); have n0_ := Aside0.mk (Kd.R_elder' (by (with_reducible repeat (first | apply Kd.R_alloc | apply Kd.R_drewN | apply Kd.R_drew)); exact HO199.out) (Kd.R_base ho31) hb); have n1_ := Aside0.mk (Kd.R_below (by (with_reducible repeat (first | apply Kd.R_alloc | apply Kd.R_drewN | apply Kd.R_drew)); exact HO204.out) hb); have n2_ := Aside0.mk (Kd.R_elder' (by (with_reducible repeat (first | apply Kd.R_alloc | apply Kd.R_drewN | apply Kd.R_drew)); exact HO208.out) (Kd.R_base ho31) hb); have n3_ := Aside0.mk (Kd.R_elder' (by (with_reducible repeat (first | apply Kd.R_alloc | apply Kd.R_drewN | apply Kd.R_drew)); exact HO212.out) (Kd.R_base ho31) hb); have n4_ := Aside0.mk (Kd.R_elder' (by (with_reducible repeat (first | apply Kd.R_alloc | apply Kd.R_drewN | apply Kd.R_drew)); exact HO215.out) (Kd.R_base ho31) hb); have n5_ := Aside0.mk (Kd.R_lower (Kd.R_new' (Kd.R_new' (Kd.R_new' (Kd.R_new' ho31 (Kd.R_lt (by (with_reducible repeat (first | apply Kd.R_alloc | apply Kd.R_drewN | apply Kd.R_drew)); exact HO199.out))) (Kd.R_lt (by (with_reducible repeat (first | apply Kd.R_alloc | apply Kd.R_drewN | apply Kd.R_drew)); exact HO208.out))) (Kd.R_lt (by (with_reducible repeat (first | apply Kd.R_alloc | apply Kd.R_drewN | apply Kd.R_drew)); exact HO212.out))) (Kd.R_lt (by (with_reducible repeat (first | apply Kd.R_alloc | apply Kd.R_drewN | apply Kd.R_drew)); exact HO215.out))) (below_size (by repeat (first | (with_reducible first | exact HB.out | apply below_alloc | apply pw_below_drewN | apply below_drew1) | exact HB.out)))); have n6_ := Aside0.mk (below_step (by repeat (first | (with_reducible first | exact HB.out | apply below_alloc | apply pw_below_drewN | apply below_drew1) | exact HB.out)) hb); clear HO199; clear HO204; clear HO208; clear HO212; clear HO215; clear HB; have HO199 := n0_; have HO204 := n1_; have HO208 := n2_; have HO212 := n3_; have HO215 := n4_; have HO219 := n5_; have HB := n6_; clear n0_ n1_ n2_ n3_ n4_ n5_ n6_; clear hb ho31; obtain ⟨Ao32, co32, eo32⟩ := Kd.R_slice HO219.out; subst eo32) | (go_at_call 19; (with_reducible refine (text_Valid.calls _ _ y217 false _ ?side1 ?side2 A13.out (HTB_.below (by repeat (first | (with_reducible first | exact HB.out | apply below_alloc | apply pw_below_drewN | apply below_drew1) | exact HB.out)))).mono ?_); (case side1 => repeat (first | exact (Kd.R_reads' HO219.out).2.2 | (with_reducible refine Kd.C_alloc ?_ _) | (with_reducible refine Kd.C_drewN ?_ _) | (with_reducible refine Kd.C_drew ?_))); (case side2 => exact (Kd.R_reads' HO219.out).2.1); rintro e w33 ⟨rfl, hb⟩; have n0_ := Aside0.mk (Kd.R_below (by (with_reducible repeat (first | apply Kd.R_alloc | apply Kd.R_drewN | apply Kd.R_drew)); exact HO199.out) hb); have n1_ := Aside0.mk (Kd.R_below (by (with_reducible repeat (first | apply Kd.R_alloc | apply Kd.R_drewN | apply Kd.R_drew)); exact HO204.out) hb); have n2_ := Aside0.mk (Kd.R_below (by (with_reducible repeat (first | apply Kd.R_alloc | apply Kd.R_drewN | apply Kd.R_drew)); exact HO208.out) hb); have n3_ := Aside0.mk (Kd.R_below (by (with_reducible repeat (first | apply Kd.R_alloc | apply Kd.R_drewN | apply Kd.R_drew)); exact HO212.out) hb); have n4_ := Aside0.mk (Kd.R_below (by (with_reducible repeat (first | apply Kd.R_alloc | apply Kd.R_drewN | apply Kd.R_drew)); exact HO215.out) hb); have n5_ := Aside0.mk (Kd.R_below (by (with_reducible repeat (first | apply Kd.R_alloc | apply Kd.R_drewN | apply Kd.R_drew)); exact HO219.out) hb); have n6_ := Aside0.mk (below_step (by repeat (first | (with_reducible first | exact HB.out | apply below_alloc | apply pw_below_drewN | apply below_drew1) | exact HB.out)) hb); clear HO199; clear HO204; clear HO208; clear HO212; clear HO215; clear HO219; clear HB; have HO199 := n0_; have HO204 := n1_; have HO208 := n2_; have HO212 := n3_; have HO215 := n4_; have HO219 := n5_; have HB := n6_; clear n0_ n1_ n2_ n3_ n4_ n5_ n6_; (try clear hb); (try clear hb2); (try clear hk); (try clear hi)) | ((with_reducible refine gate_dst (N := 31) rfl ?_); (try (refine gate_guard (by rfl) ?_; dsimp only)); refine Kd.R_lit (Kd.int .u8) _ 5 ?hg (N := 31) ?hd (xs := ([192, 128] : List Int)) (inner := [.int .u8 192, .int .u8 128]) (ok := fun _ => True) (okp := fun _ => True) ?hr ?hp (fun _ hk => hk) trivial (Below.refl _ _) (Nat.le_refl _) (by simp) ?_; (case hd => rfl); (case hg => rfl); (case hr => first | (go_simp; done) | (go_simp; rfl)); (case hp => exact (Reps.one (show Kd.M (Kd.int .u8) _ _ _ 192 [.int .u8 192] from rfl) (Reps.one (show Kd.M (Kd.int .u8) _ _ _ 128 [.int .u8 128] from rfl) (Reps.none _ _)))); intro v222 w34 ho35 hb hg_ hnew_; clear hg_ hnew_; (first | rw [← Ny221.out] at ho35 | (simp only [Int.reduceToNat] at ho35; rw [← Ny221.out] at ho35)); have n0_ := Aside0.mk (Kd.R_elder' (by (with_reducible repeat (first | apply Kd.R_alloc | apply Kd.R_drewN | apply Kd.R_drew)); exact HO199.out) (Kd.R_base ho35) hb); have n1_ := Aside0.mk (Kd.R_below (by (with_reducible repeat (first | apply Kd.R_alloc | apply Kd.R_drewN | apply Kd.R_drew)); exact HO204.out) hb); have n2_ := Aside0.mk (Kd.R_elder' (by (with_reducible repeat (first | apply Kd.R_alloc | apply Kd.R_drewN | apply Kd.R_drew)); exact HO208.out) (Kd.R_base ho35) hb); have n3_ := Aside0.mk (Kd.R_elder' (by (with_reducible repeat (first | apply Kd.R_alloc | apply Kd.R_drewN | apply Kd.R_drew)); exact HO212.out) (Kd.R_base ho35) hb); have n4_ := Aside0.mk (Kd.R_elder' (by (with_reducible repeat (first | apply Kd.R_alloc | apply Kd.R_drewN | apply Kd.R_drew)); exact HO215.out) (Kd.R_base ho35) hb); have n5_ := Aside0.mk (Kd.R_elder' (by (with_reducible repeat (first | apply Kd.R_alloc | apply Kd.R_drewN | apply Kd.R_drew)); exact HO219.out) (Kd.R_base ho35) hb); have n6_ := Aside0.mk (Kd.R_lower (Kd.R_new' (Kd.R_new' (Kd.R_new' (Kd.R_new' (Kd.R_new' ho35 (Kd.R_lt (by (with_reducible repeat (first | apply Kd.R_alloc | apply Kd.R_drewN | apply Kd.R_drew)); exact HO199.out))) (Kd.R_lt (by (with_reducible repeat (first | apply Kd.R_alloc | apply Kd.R_drewN | apply Kd.R_drew)); exact HO208.out))) (Kd.R_lt (by (with_reducible repeat (first | apply Kd.R_alloc | apply Kd.R_drewN | apply Kd.R_drew)); exact HO212.out))) (Kd.R_lt (by (with_reducible repeat (first | apply Kd.R_alloc | apply Kd.R_drewN | apply Kd.R_drew)); exact HO215.out))) (Kd.R_lt (by (with_reducible repeat (first | apply Kd.R_alloc | apply Kd.R_drewN | apply Kd.R_drew)); exact HO219.out))) (below_size (by repeat (first | (with_reducible first | exact HB.out | apply below_alloc | apply pw_below_drewN | apply below_drew1) | exact HB.out)))); have n7_ := Aside0.mk (below_step (by repeat (first | (with_reducible first | exact HB.out | apply below_alloc | apply pw_below_drewN | apply below_drew1) | exact HB.out)) hb); clear HO199; clear HO204; clear HO208; clear HO212; clear HO215; clear HO219; clear HB; have HO199 := n0_; have HO204 := n1_; have HO208 := n2_; have HO212 := n3_; have HO215 := n4_; have HO219 := n5_; have HO223 := n6_; have HB := n7_; clear n0_ n1_ n2_ n3_ n4_ n5_ n6_ n7_; clear hb ho35; obtain ⟨Ao36, co36, eo36⟩ := Kd.R_slice HO223.out; subst eo36) | (go_at_call 19; (with_reducible refine (text_Valid.calls _ _ y221 false _ ?side1 ?side2 A15.out (HTB_.below (by repeat (first | (with_reducible first | exact HB.out | apply below_alloc | apply pw_below_drewN | apply below_drew1) | exact HB.out)))).mono ?_); (case side1 => repeat (first | exact (Kd.R_reads' HO223.out).2.2 | (with_reducible refine Kd.C_alloc ?_ _) | (with_reducible refine Kd.C_drewN ?_ _) | (with_reducible refine Kd.C_drew ?_))); (case side2 => exact (Kd.R_reads' HO223.out).2.1); rintro e w37 ⟨rfl, hb⟩; have n0_ := Aside0.mk (Kd.R_below (by (with_reducible repeat (first | apply Kd.R_alloc | apply Kd.R_drewN | apply Kd.R_drew)); exact HO199.out) hb); have n1_ := Aside0.mk (Kd.R_below (by (with_reducible repeat (first | apply Kd.R_alloc | apply Kd.R_drewN | apply Kd.R_drew)); exact HO204.out) hb); have n2_ := Aside0.mk (Kd.R_below (by (with_reducible repeat (first | apply Kd.R_alloc | apply Kd.R_drewN | apply Kd.R_drew)); exact HO208.out) hb); have n3_ := Aside0.mk (Kd.R_below (by (with_reducible repeat (first | apply Kd.R_alloc | apply Kd.R_drewN | apply Kd.R_drew)); exact HO212.out) hb); have n4_ := Aside0.mk (Kd.R_below (by (with_reducible repeat (first | apply Kd.R_alloc | apply Kd.R_drewN | apply Kd.R_drew)); exact HO215.out) hb); have n5_ := Aside0.mk (Kd.R_below (by (with_reducible repeat (first | apply Kd.R_alloc | apply Kd.R_drewN | apply Kd.R_drew)); exact HO219.out) hb); have n6_ := Aside0.mk (Kd.R_below (by (with_reducible repeat (first | apply Kd.R_alloc | apply Kd.R_drewN | apply Kd.R_drew)); exact HO223.out) hb); have n7_ := Aside0.mk (below_step (by repeat (first | (with_reducible first | exact HB.out | apply below_alloc | apply pw_below_drewN | apply below_drew1) | exact HB.out)) hb); clear HO199; clear HO204; clear HO208; clear HO212; clear HO215; clear HO219; clear HO223; clear HB; have HO199 := n0_; have HO204 := n1_; have HO208 := n2_; have HO212 := n3_; have HO215 := n4_; have HO219 := n5_; have HO223 := n6_; have HB := n7_; clear n0_ n1_ n2_ n3_ n4_ n5_ n6_ n7_; (try clear hb); (try clear hb2); (try clear hk); (try clear hi)) | ((with_reducible refine gate_dst (N := 35) rfl ?_); (try (refine gate_guard (by rfl) ?_; dsimp only)); refine Kd.R_lit (Kd.int .u8) _ 5 ?hg (N := 35) ?hd (xs := ([237, 160, 128] : List Int)) (inner := [.int .u8 237, .int .u8 160, .int .u8 128]) (ok := fun _ => True) (okp := fun _ => True) ?hr ?hp (fun _ hk => hk) trivial (Below.refl _ _) (Nat.le_refl _) (by simp) ?_; (case hd => rfl); (case hg => rfl); (case hr => first | (go_simp; done) | (go_simp; rfl)); (case hp => exact (Reps.one (show Kd.M (Kd.int .u8) _ _ _ 237 [.int .u8 237] from rfl) (Reps.one (show Kd.M (Kd.int .u8) _ _ _ 160 [.int .u8 160] from rfl) (Reps.one (show Kd.M (Kd.int .u8) _ _ _ 128 [.int .u8 128] from rfl) (Reps.none _ _))))); intro v226 w38 ho39 hb hg_ hnew_; clear hg_ hnew_; (first | rw [← Ny225.out] at ho39 | (simp only [Int.reduceToNat] at ho39; rw [← Ny225.out] at ho39)); have n0_ := Aside0.mk (Kd.R_elder' (by (with_reducible repeat (first | apply Kd.R_alloc | apply Kd.R_drewN | apply Kd.R_drew)); exact HO199.out) (Kd.R_base ho39) hb); have n1_ := Aside0.mk (Kd.R_below (by (with_reducible repeat (first | apply Kd.R_alloc | apply Kd.R_drewN | apply Kd.R_drew)); exact HO204.out) hb); have n2_ := Aside0.mk (Kd.R_elder' (by (with_reducible repeat (first | apply Kd.R_alloc | apply Kd.R_drewN | apply Kd.R_drew)); exact HO208.out) (Kd.R_base ho39) hb); have n3_ := Aside0.mk (Kd.R_elder' (by (with_reducible repeat (first | apply Kd.R_alloc | apply Kd.R_drewN | apply Kd.R_drew)); exact HO212.out) (Kd.R_base ho39) hb); have n4_ := Aside0.mk (Kd.R_elder' (by (with_reducible repeat (first | apply Kd.R_alloc | apply Kd.R_drewN | apply Kd.R_drew)); exact HO215.out) (Kd.R_base ho39) hb); have n5_ := Aside0.mk (Kd.R_elder' (by (with_reducible repeat (first | apply Kd.R_alloc | apply Kd.R_drewN | apply Kd.R_drew)); exact HO219.out) (Kd.R_base ho39) hb); have n6_ := Aside0.mk (Kd.R_elder' (by (with_reducible repeat (first | apply Kd.R_alloc | apply Kd.R_drewN | apply Kd.R_drew)); exact HO223.out) (Kd.R_base ho39) hb); have n7_ := Aside0.mk (Kd.R_lower (Kd.R_new' (Kd.R_new' (Kd.R_new' (Kd.R_new' (Kd.R_new' (Kd.R_new' ho39 (Kd.R_lt (by (with_reducible repeat (first | apply Kd.R_alloc | apply Kd.R_drewN | apply Kd.R_drew)); exact HO199.out))) (Kd.R_lt (by (with_reducible repeat (first | apply Kd.R_alloc | apply Kd.R_drewN | apply Kd.R_drew)); exact HO208.out))) (Kd.R_lt (by (with_reducible repeat (first | apply Kd.R_alloc | apply Kd.R_drewN | apply Kd.R_drew)); exact HO212.out))) (Kd.R_lt (by (with_reducible repeat (first | apply Kd.R_alloc | apply Kd.R_drewN | apply Kd.R_drew)); exact HO215.out))) (Kd.R_lt (by (with_reducible repeat (first | apply Kd.R_alloc | apply Kd.R_drewN | apply Kd.R_drew)); exact HO219.out))) (Kd.R_lt (by (with_reducible repeat (first | apply Kd.R_alloc | apply Kd.R_drewN | apply Kd.R_drew)); exact HO223.out))) (below_size (by repeat (first | (with_reducible first | exact HB.out | apply below_alloc | apply pw_below_drewN | apply below_drew1) | exact HB.out)))); have n8_ := Aside0.mk (below_step (by repeat (first | (with_reducible first | exact HB.out | apply below_alloc | apply pw_below_drewN | apply below_drew1) | exact HB.out)) hb); clear HO199; clear HO204; clear HO208; clear HO212; clear HO215; clear HO219; clear HO223; clear HB; have HO199 := n0_; have HO204 := n1_; have HO208 := n2_; have HO212 := n3_; have HO215 := n4_; have HO219 := n5_; have HO223 := n6_; have HO227 := n7_; have HB := n8_; clear n0_ n1_ n2_ n3_ n4_ n5_ n6_ n7_ n8_; clear hb ho39; obtain ⟨Ao40, co40, eo40⟩ := Kd.R_slice HO227.out; subst eo40) | (go_at_call 19; (with_reducible refine (text_Valid.calls _ _ y225 false _ ?side1 ?side2 A17.out (HTB_.below (by repeat (first | (with_reducible first | exact HB.out | apply below_alloc | apply pw_below_drewN | apply below_drew1) | exact HB.out)))).mono ?_); (case side1 => repeat (first | exact (Kd.R_reads' HO227.out).2.2 | (with_reducible refine Kd.C_alloc ?_ _) | (with_reducible refine Kd.C_drewN ?_ _) | (with_reducible refine Kd.C_drew ?_))); (case side2 => exact (Kd.R_reads' HO227.out).2.1); rintro e w41 ⟨rfl, hb⟩; have n0_ := Aside0.mk (Kd.R_below (by (with_reducible repeat (first | apply Kd.R_alloc | apply Kd.R_drewN | apply Kd.R_drew)); exact HO199.out) hb); have n1_ := Aside0.mk (Kd.R_below (by (with_reducible repeat (first | apply Kd.R_alloc | apply Kd.R_drewN | apply Kd.R_drew)); exact HO204.out) hb); have n2_ := Aside0.mk (Kd.R_below (by (with_reducible repeat (first | apply Kd.R_alloc | apply Kd.R_drewN | apply Kd.R_drew)); exact HO208.out) hb); have n3_ := Aside0.mk (Kd.R_below (by (with_reducible repeat (first | apply Kd.R_alloc | apply Kd.R_drewN | apply Kd.R_drew)); exact HO212.out) hb); have n4_ := Aside0.mk (Kd.R_below (by (with_reducible repeat (first | apply Kd.R_alloc | apply Kd.R_drewN | apply Kd.R_drew)); exact HO215.out) hb); have n5_ := Aside0.mk (Kd.R_below (by (with_reducible repeat (first | apply Kd.R_alloc | apply Kd.R_drewN | apply Kd.R_drew)); exact HO219.out) hb); have n6_ := Aside0.mk (Kd.R_below (by (with_reducible repeat (first | apply Kd.R_alloc | apply Kd.R_drewN | apply Kd.R_drew)); exact HO223.out) hb); have n7_ := Aside0.mk (Kd.R_below (by (with_reducible repeat (first | apply Kd.R_alloc | apply Kd.R_drewN | apply Kd.R_drew)); exact HO227.out) hb); have n8_ := Aside0.mk (below_step (by repeat (first | (with_reducible first | exact HB.out | apply below_alloc | apply pw_below_drewN | apply below_drew1) | exact HB.out)) hb); clear HO199; clear HO204; clear HO208; clear HO212; clear HO215; clear HO219; clear HO223; clear HO227; clear HB; have HO199 := n0_; have HO204 := n1_; have HO208 := n2_; have HO212 := n3_; have HO215 := n4_; have HO219 := n5_; have HO223 := n6_; have HO227 := n7_; have HB := n8_; clear n0_ n1_ n2_ n3_ n4_ n5_ n6_ n7_ n8_; (try clear hb); (try clear hb2); (try clear hk); (try clear hi)) | ((with_reducible refine gate_dst (N := 40) rfl ?_); (try (refine gate_guard (by rfl) ?_; dsimp only)); refine Kd.R_lit (Kd.int .i64) _ 3 ?hg (N := 40) ?hd (xs := ([65, 8364] : List Int)) (inner := [.int .i64 65, .int .i64 8364]) (ok := fun _ => True) (okp := fun _ => True) ?hr ?hp (fun _ hk => hk) trivial (Below.refl _ _) (Nat.le_refl _) (by simp) ?_; (case hd => rfl); (case hg => rfl); (case hr => first | (go_simp; done) | (go_simp; rfl)); (case hp => exact (Reps.one (show Kd.M (Kd.int .i64) _ _ _ 65 [.int .i64 65] from rfl) (Reps.one (show Kd.M (Kd.int .i64) _ _ _ 8364 [.int .i64 8364] from rfl) (Reps.none _ _)))); intro v230 w42 ho43 hb hg_ hnew_; clear hg_ hnew_; (first | rw [← Ny229.out] at ho43 | (simp only [Int.reduceToNat] at ho43; rw [← Ny229.out] at ho43)); have n0_ := Aside0.mk (Kd.R_below (by (with_reducible repeat (first | apply Kd.R_alloc | apply Kd.R_drewN | apply Kd.R_drew)); exact HO199.out) hb); have n1_ := Aside0.mk (Kd.R_elder' (by (with_reducible repeat (first | apply Kd.R_alloc | apply Kd.R_drewN | apply Kd.R_drew)); exact HO204.out) (Kd.R_base ho43) hb); have n2_ := Aside0.mk (Kd.R_below (by (with_reducible repeat (first | apply Kd.R_alloc | apply Kd.R_drewN | apply Kd.R_drew)); exact HO208.out) hb); have n3_ := Aside0.mk (Kd.R_below (by (with_reducible repeat (first | apply Kd.R_alloc | apply Kd.R_drewN | apply Kd.R_drew)); exact HO212.out) hb); have n4_ := Aside0.mk (Kd.R_below (by (with_reducible repeat (first | apply Kd.R_alloc | apply Kd.R_drewN | apply Kd.R_drew)); exact HO215.out) hb); have n5_ := Aside0.mk (Kd.R_below (by (with_reducible repeat (first | apply Kd.R_alloc | apply Kd.R_drewN | apply Kd.R_drew)); exact HO219.out) hb); have n6_ := Aside0.mk (Kd.R_below (by (with_reducible repeat (first | apply Kd.R_alloc | apply Kd.R_drewN | apply Kd.R_drew)); exact HO223.out) hb); have n7_ := Aside0.mk (Kd.R_below (by (with_reducible repeat (first | apply Kd.R_alloc | apply Kd.R_drewN | apply Kd.R_drew)); exact HO227.out) hb); have n8_ := Aside0.mk (Kd.R_lower (Kd.R_new' ho43 (Kd.R_lt (by (with_reducible repeat (first | apply Kd.R_alloc | apply Kd.R_drewN | apply Kd.R_drew)); exact HO204.out))) (below_size (by repeat (first | (with_reducible first | exact HB.out | apply below_alloc | apply pw_below_drewN | apply below_drew1) | exact HB.out)))); have n9_ := Aside0.mk (below_step (by repeat (first | (with_reducible first | exact HB.out | apply below_alloc | apply pw_below_drewN | apply below_drew1) | exact HB.out)) hb); clear HO199; clear HO204; clear HO208; clear HO212; clear HO215; clear HO219; clear HO223; clear HO227; clear HB; have HO199 := n0_; have HO204 := n1_; have HO208 := n2_; have HO212 := n3_; have HO215 := n4_; have HO219 := n5_; have HO223 := n6_; have HO227 := n7_; have HO231 := n8_; have HB := n9_; clear n0_ n1_ n2_ n3_ n4_ n5_ n6_ n7_ n8_ n9_; clear hb ho43; obtain ⟨Ao44, co44, eo44⟩ := Kd.R_slice HO204.out; subst eo44; obtain ⟨Ao45, co45, eo45⟩ := Kd.R_slice HO231.out; subst eo45) | (go_at_call 17; (with_reducible refine (signetryref00_EqInts.calls k _ _ t200 _ _ y229 true _ ?side1 ?side2 ?side3 ?side4 A19.out).mono ?_); (case side1 => repeat (first | exact (Kd.R_reads' HO204.out).2.2 | (with_reducible refine Kd.C_alloc ?_ _) | (with_reducible refine Kd.C_drewN ?_ _) | (with_reducible refine Kd.C_drew ?_))); (case side2 => exact (Kd.R_reads' HO204.out).2.1); (case side3 => repeat (first | exact (Kd.R_reads' HO231.out).2.2 | (with_reducible refine Kd.C_alloc ?_ _) | (with_reducible refine Kd.C_drewN ?_ _) | (with_reducible refine Kd.C_drew ?_))); (case side4 => exact (Kd.R_reads' HO231.out).2.1); rintro e w' ⟨rfl, ⟨nd, rfl⟩⟩) | ((with_reducible refine gate_dst (N := 54) rfl ?_); (try (refine gate_guard (by rfl) ?_; dsimp only)); refine Kd.R_lit (Kd.int .u8) _ 5 ?hg (N := 54) ?hd (xs := ([240, 159, 152, 128] : List Int)) (inner := [.int .u8 240, .int .u8 159, .int .u8 152, .int .u8 128]) (ok := fun _ => True) (okp := fun _ => True) ?hr ?hp (fun _ hk => hk) trivial (Below.refl _ _) (Nat.le_refl _) (by simp) ?_; (case hd => rfl); (case hg => rfl); (case hr => first | (go_simp; done) | (go_simp; rfl)); (case hp => exact (Reps.one (show Kd.M (Kd.int .u8) _ _ _ 240 [.int .u8 240] from rfl) (Reps.one (show Kd.M (Kd.int .u8) _ _ _ 159 [.int .u8 159] from rfl) (Reps.one (show Kd.M (Kd.int .u8) _ _ _ 152 [.int .u8 152] from rfl) (Reps.one (show Kd.M (Kd.int .u8) _ _ _ 128 [.int .u8 128] from rfl) (Reps.none _ _)))))); intro v234 w46 ho47 hb hg_ hnew_; clear hg_ hnew_; (first | rw [← Ny233.out] at ho47 | (simp only [Int.reduceToNat] at ho47; rw [← Ny233.out] at ho47)); have n0_ := Aside0.mk (Kd.R_elder' (by (with_reducible repeat (first | apply Kd.R_alloc | apply Kd.R_drewN | apply Kd.R_drew)); exact HO199.out) (Kd.R_base ho47) hb); have n1_ := Aside0.mk (Kd.R_below (by (with_reducible repeat (first | apply Kd.R_alloc | apply Kd.R_drewN | apply Kd.R_drew)); exact HO204.out) hb); have n2_ := Aside0.mk (Kd.R_elder' (by (with_reducible repeat (first | apply Kd.R_alloc | apply Kd.R_drewN | apply Kd.R_drew)); exact HO208.out) (Kd.R_base ho47) hb); have n3_ := Aside0.mk (Kd.R_elder' (by (with_reducible repeat (first | apply Kd.R_alloc | apply Kd.R_drewN | apply Kd.R_drew)); exact HO212.out) (Kd.R_base ho47) hb); have n4_ := Aside0.mk (Kd.R_elder' (by (with_reducible repeat (first | apply Kd.R_alloc | apply Kd.R_drewN | apply Kd.R_drew)); exact HO215.out) (Kd.R_base ho47) hb); have n5_ := Aside0.mk (Kd.R_elder' (by (with_reducible repeat (first | apply Kd.R_alloc | apply Kd.R_drewN | apply Kd.R_drew)); exact HO219.out) (Kd.R_base ho47) hb); have n6_ := Aside0.mk (Kd.R_elder' (by (with_reducible repeat (first | apply Kd.R_alloc | apply Kd.R_drewN | apply Kd.R_drew)); exact HO223.out) (Kd.R_base ho47) hb); have n7_ := Aside0.mk (Kd.R_elder' (by (with_reducible repeat (first | apply Kd.R_alloc | apply Kd.R_drewN | apply Kd.R_drew)); exact HO227.out) (Kd.R_base ho47) hb); have n8_ := Aside0.mk (Kd.R_below (by (with_reducible repeat (first | apply Kd.R_alloc | apply Kd.R_drewN | apply Kd.R_drew)); exact HO231.out) hb); have n9_ := Aside0.mk (Kd.R_lower (Kd.R_new' (Kd.R_new' (Kd.R_new' (Kd.R_new' (Kd.R_new' (Kd.R_new' (Kd.R_new' ho47 (Kd.R_lt (by (with_reducible repeat (first | apply Kd.R_alloc | apply Kd.R_drewN | apply Kd.R_drew)); exact HO199.out))) (Kd.R_lt (by (with_reducible repeat (first | apply Kd.R_alloc | apply Kd.R_drewN | apply Kd.R_drew)); exact HO208.out))) (Kd.R_lt (by (with_reducible repeat (first | apply Kd.R_alloc | apply Kd.R_drewN | apply Kd.R_drew)); exact HO212.out))) (Kd.R_lt (by (with_reducible repeat (first | apply Kd.R_alloc | apply Kd.R_drewN | apply Kd.R_drew)); exact HO215.out))) (Kd.R_lt (by (with_reducible repeat (first | apply Kd.R_alloc | apply Kd.R_drewN | apply Kd.R_drew)); exact HO219.out))) (Kd.R_lt (by (with_reducible repeat (first | apply Kd.R_alloc | apply Kd.R_drewN | apply Kd.R_drew)); exact HO223.out))) (Kd.R_lt (by (with_reducible repeat (first | apply Kd.R_alloc | apply Kd.R_drewN | apply Kd.R_drew)); exact HO227.out))) (below_size (by repeat (first | (with_reducible first | exact HB.out | apply below_alloc | apply pw_below_drewN | apply below_drew1) | exact HB.out)))); have n10_ := Aside0.mk (below_step (by repeat (first | (with_reducible first | exact HB.out | apply below_alloc | apply pw_below_drewN | apply below_drew1) | exact HB.out)) hb); clear HO199; clear HO204; clear HO208; clear HO212; clear HO215; clear HO219; clear HO223; clear HO227; clear HO231; clear HB; have HO199 := n0_; have HO204 := n1_; have HO208 := n2_; have HO212 := n3_; have HO215 := n4_; have HO219 := n5_; have HO223 := n6_; have HO227 := n7_; have HO231 := n8_; have HO235 := n9_; have HB := n10_; clear n0_ n1_ n2_ n3_ n4_ n5_ n6_ n7_ n8_ n9_ n10_; clear hb ho47; obtain ⟨Ao48, co48, eo48⟩ := Kd.R_slice HO208.out; subst eo48; obtain ⟨Ao49, co49, eo49⟩ := Kd.R_slice HO235.out; subst eo49) | (go_at_call 18; (with_reducible refine (signetryref00_EqBytes.calls _ _ t205 _ _ y233 true _ ?side1 ?side2 ?side3 ?side4 A23.out).mono ?_); (case side1 => repeat (first | exact (Kd.R_reads' HO208.out).2.2 | (with_reducible refine Kd.C_alloc ?_ _) | (with_reducible refine Kd.C_drewN ?_ _) | (with_reducible refine Kd.C_drew ?_))); (case side2 => exact (Kd.R_reads' HO208.out).2.1); (case side3 => repeat (first | exact (Kd.R_reads' HO235.out).2.2 | (with_reducible refine Kd.C_alloc ?_ _) | (with_reducible refine Kd.C_drewN ?_ _) | (with_reducible refine Kd.C_drew ?_))); (case side4 => exact (Kd.R_reads' HO235.out).2.1); rintro e w' ⟨rfl, ⟨nd, rfl⟩⟩))
  go_meet
  case rel => exact ⟨_, ((t210 != 20)), (by first | rfl | (simp; done) | (simp [*]; done)), H', ⟨by first | omega | exact Nat.le_refl _⟩, ⟨by repeat (first | (with_reducible first | exact HB.out | apply below_alloc | apply pw_below_drewN | apply below_drew1) | exact HB.out)⟩⟩
 case rest =>
  clear HC4
  try clear c1
  try clear c2
  try clear p2
  try clear c12
  try clear c13
  try clear c14
  try clear c15
  try clear c16
  try clear c18
  try clear c19
  try clear c20
  try clear c21
  try clear c21b0
  try clear c21b1
  try clear c22
  try clear c22b0
  try clear c22b1
  try clear c24
  try clear c25
  try clear c25b0
  try clear c25b1
  obtain ⟨kq, x65_3, rfl, HA, HJ3, HB⟩ := hcut
  cases kq with
  | zero => exact absurd HA.out (by simp [signetrylaw02_works.j0])
  | succ kj3 =>
   have H := HA.out
   clear HA
   simp only [signetrylaw02_works.j0] at H
   by_cases c50 : x65_3 = true
   case pos =>
    subst c50
    have H1 : (none) = some r := by rw [if_pos rfl] at H; exact H
    clear H
    have H := H1
    clear H1
    exact absurd H (by simp)
   replace c50 := Bool.eq_false_iff.mpr c50
   subst c50
   have H1 : ((text_IsIdent.f kj3 (⟨#[97, 95, 49]⟩ : ByteArray)).bind fun t237 => (if t237 = true then ((text_IsIdent.f kj3 (⟨#[49, 97]⟩ : ByteArray)).bind fun t238 => (if t238 = true then (none) else ((text_IsFull.f (⟨#[97, 46, 98]⟩ : ByteArray)).bind fun t239 => (if t239 = true then ((text_IsFull.f (⟨#[97, 46, 46, 98]⟩ : ByteArray)).bind fun t240 => (if t240 = true then (none) else ((text_Key.f (⟨#[102, 111, 111, 95, 98, 97, 114, 95, 50, 120]⟩ : ByteArray)).bind fun t241 => (if t241.toList = ([102, 111, 111, 66, 97, 114, 50, 120] : List UInt8) then ((text_Key.f (⟨#[95, 97, 95, 95, 98]⟩ : ByteArray)).bind fun t242 => (signetrylaw02_works.j1 kj3 (t242.toList == ([65, 66] : List UInt8)))) else (none))))) else (none))))) else (none))) = some r := by rw [if_neg (show ¬ (false = true) by decide)] at H; exact H
   clear H
   have H := H1
   clear H1
   have HC51 := Aside0.mk H
   clear H
   go_upto_region 6 with (fail)
   go_cut [8] (fun v8 wc => ∃ (kq : Nat) (x8_50 : Bool), v8 = .bool x8_50 ∧ Aside0 (signetrylaw02_works.j1 kq x8_50 = some r) ∧ Aside0 (kq ≤ kj3) ∧ Aside0 (Below w.heap.size w wc))
   case first =>
    have H := HC51.out
    clear HC51
    replace H := Option.bind_eq_some_iff.mp H
    obtain ⟨t237, A520, H⟩ := H
    replace H : (if t237 = true then ((text_IsIdent.f kj3 (⟨#[49, 97]⟩ : ByteArray)).bind fun t238 => (if t238 = true then (none) else ((text_IsFull.f (⟨#[97, 46, 98]⟩ : ByteArray)).bind fun t239 => (if t239 = true then ((text_IsFull.f (⟨#[97, 46, 46, 98]⟩ : ByteArray)).bind fun t240 => (if t240 = true then (none) else ((text_Key.f (⟨#[102, 111, 111, 95, 98, 97, 114, 95, 50, 120]⟩ : ByteArray)).bind fun t241 => (if t241.toList = ([102, 111, 111, 66, 97, 114, 50, 120] : List UInt8) then ((text_Key.f (⟨#[95, 97, 95, 95, 98]⟩ : ByteArray)).bind fun t242 => (signetrylaw02_works.j1 kj3 (t242.toList == ([65, 66] : List UInt8)))) else (none))))) else (none))))) else (none)) = some r := H
    have A52 := Aside0.mk A520
    clear A520
    by_cases c53 : t237 = true
    case neg =>
     replace c53 := Bool.eq_false_iff.mpr c53
     subst c53
     have H1 : (none) = some r := by rw [if_neg (show ¬ (false = true) by decide)] at H; exact H
     clear H
     have H := H1
     clear H1
     exact absurd H (by simp)
    subst c53
    have H1 : ((text_IsIdent.f kj3 (⟨#[49, 97]⟩ : ByteArray)).bind fun t238 => (if t238 = true then (none) else ((text_IsFull.f (⟨#[97, 46, 98]⟩ : ByteArray)).bind fun t239 => (if t239 = true then ((text_IsFull.f (⟨#[97, 46, 46, 98]⟩ : ByteArray)).bind fun t240 => (if t240 = true then (none) else ((text_Key.f (⟨#[102, 111, 111, 95, 98, 97, 114, 95, 50, 120]⟩ : ByteArray)).bind fun t241 => (if t241.toList = ([102, 111, 111, 66, 97, 114, 50, 120] : List UInt8) then ((text_Key.f (⟨#[95, 97, 95, 95, 98]⟩ : ByteArray)).bind fun t242 => (signetrylaw02_works.j1 kj3 (t242.toList == ([65, 66] : List UInt8)))) else (none))))) else (none))))) = some r := by rw [if_pos rfl] at H; exact H
    clear H
    have H := H1
    clear H1
    replace H := Option.bind_eq_some_iff.mp H
    obtain ⟨t238, A540, H⟩ := H
    replace H : (if t238 = true then (none) else ((text_IsFull.f (⟨#[97, 46, 98]⟩ : ByteArray)).bind fun t239 => (if t239 = true then ((text_IsFull.f (⟨#[97, 46, 46, 98]⟩ : ByteArray)).bind fun t240 => (if t240 = true then (none) else ((text_Key.f (⟨#[102, 111, 111, 95, 98, 97, 114, 95, 50, 120]⟩ : ByteArray)).bind fun t241 => (if t241.toList = ([102, 111, 111, 66, 97, 114, 50, 120] : List UInt8) then ((text_Key.f (⟨#[95, 97, 95, 95, 98]⟩ : ByteArray)).bind fun t242 => (signetrylaw02_works.j1 kj3 (t242.toList == ([65, 66] : List UInt8)))) else (none))))) else (none)))) = some r := H
    have A54 := Aside0.mk A540
    clear A540
    by_cases c55 : t238 = true
    case pos =>
     subst c55
     have H1 : (none) = some r := by rw [if_pos rfl] at H; exact H
     clear H
     have H := H1
     clear H1
     exact absurd H (by simp)
    replace c55 := Bool.eq_false_iff.mpr c55
    subst c55
    have H1 : ((text_IsFull.f (⟨#[97, 46, 98]⟩ : ByteArray)).bind fun t239 => (if t239 = true then ((text_IsFull.f (⟨#[97, 46, 46, 98]⟩ : ByteArray)).bind fun t240 => (if t240 = true then (none) else ((text_Key.f (⟨#[102, 111, 111, 95, 98, 97, 114, 95, 50, 120]⟩ : ByteArray)).bind fun t241 => (if t241.toList = ([102, 111, 111, 66, 97, 114, 50, 120] : List UInt8) then ((text_Key.f (⟨#[95, 97, 95, 95, 98]⟩ : ByteArray)).bind fun t242 => (signetrylaw02_works.j1 kj3 (t242.toList == ([65, 66] : List UInt8)))) else (none))))) else (none))) = some r := by rw [if_neg (show ¬ (false = true) by decide)] at H; exact H
    clear H
    have H := H1
    clear H1
    replace H := Option.bind_eq_some_iff.mp H
    obtain ⟨t239, A560, H⟩ := H
    replace H : (if t239 = true then ((text_IsFull.f (⟨#[97, 46, 46, 98]⟩ : ByteArray)).bind fun t240 => (if t240 = true then (none) else ((text_Key.f (⟨#[102, 111, 111, 95, 98, 97, 114, 95, 50, 120]⟩ : ByteArray)).bind fun t241 => (if t241.toList = ([102, 111, 111, 66, 97, 114, 50, 120] : List UInt8) then ((text_Key.f (⟨#[95, 97, 95, 95, 98]⟩ : ByteArray)).bind fun t242 => (signetrylaw02_works.j1 kj3 (t242.toList == ([65, 66] : List UInt8)))) else (none))))) else (none)) = some r := H
    have A56 := Aside0.mk A560
    clear A560
    by_cases c57 : t239 = true
    case neg =>
     replace c57 := Bool.eq_false_iff.mpr c57
     subst c57
     have H1 : (none) = some r := by rw [if_neg (show ¬ (false = true) by decide)] at H; exact H
     clear H
     have H := H1
     clear H1
     exact absurd H (by simp)
    subst c57
    have H1 : ((text_IsFull.f (⟨#[97, 46, 46, 98]⟩ : ByteArray)).bind fun t240 => (if t240 = true then (none) else ((text_Key.f (⟨#[102, 111, 111, 95, 98, 97, 114, 95, 50, 120]⟩ : ByteArray)).bind fun t241 => (if t241.toList = ([102, 111, 111, 66, 97, 114, 50, 120] : List UInt8) then ((text_Key.f (⟨#[95, 97, 95, 95, 98]⟩ : ByteArray)).bind fun t242 => (signetrylaw02_works.j1 kj3 (t242.toList == ([65, 66] : List UInt8)))) else (none))))) = some r := by rw [if_pos rfl] at H; exact H
    clear H
    have H := H1
    clear H1
    replace H := Option.bind_eq_some_iff.mp H
    obtain ⟨t240, A580, H⟩ := H
    replace H : (if t240 = true then (none) else ((text_Key.f (⟨#[102, 111, 111, 95, 98, 97, 114, 95, 50, 120]⟩ : ByteArray)).bind fun t241 => (if t241.toList = ([102, 111, 111, 66, 97, 114, 50, 120] : List UInt8) then ((text_Key.f (⟨#[95, 97, 95, 95, 98]⟩ : ByteArray)).bind fun t242 => (signetrylaw02_works.j1 kj3 (t242.toList == ([65, 66] : List UInt8)))) else (none)))) = some r := H
    have A58 := Aside0.mk A580
    clear A580
    by_cases c59 : t240 = true
    case pos =>
     subst c59
     have H1 : (none) = some r := by rw [if_pos rfl] at H; exact H
     clear H
     have H := H1
     clear H1
     exact absurd H (by simp)
    replace c59 := Bool.eq_false_iff.mpr c59
    subst c59
    have H1 : ((text_Key.f (⟨#[102, 111, 111, 95, 98, 97, 114, 95, 50, 120]⟩ : ByteArray)).bind fun t241 => (if t241.toList = ([102, 111, 111, 66, 97, 114, 50, 120] : List UInt8) then ((text_Key.f (⟨#[95, 97, 95, 95, 98]⟩ : ByteArray)).bind fun t242 => (signetrylaw02_works.j1 kj3 (t242.toList == ([65, 66] : List UInt8)))) else (none))) = some r := by rw [if_neg (show ¬ (false = true) by decide)] at H; exact H
    clear H
    have H := H1
    clear H1
    replace H := Option.bind_eq_some_iff.mp H
    obtain ⟨t241, A600, H⟩ := H
    replace H : (if t241.toList = ([102, 111, 111, 66, 97, 114, 50, 120] : List UInt8) then ((text_Key.f (⟨#[95, 97, 95, 95, 98]⟩ : ByteArray)).bind fun t242 => (signetrylaw02_works.j1 kj3 (t242.toList == ([65, 66] : List UInt8)))) else (none)) = some r := H
    have A60 := Aside0.mk A600
    clear A600
    by_cases c61 : t241.toList = ([102, 111, 111, 66, 97, 114, 50, 120] : List UInt8)
    case neg =>
     rw [if_neg c61] at H
     exact absurd H (by simp)
    rw [if_pos c61] at H
    have c61b0 : (t241.toList == ([102, 111, 111, 66, 97, 114, 50, 120] : List UInt8)) = true := beq_iff_eq.mpr c61
    have c61b1 : (t241.toList != ([102, 111, 111, 66, 97, 114, 50, 120] : List UInt8)) = false := bne_eq_false_iff_eq.mpr c61
    clear c61
    (first | rw [c61b0] | (simp only [i64_w, i32_w]; rw [c61b0]) | skip)
    replace H := Option.bind_eq_some_iff.mp H
    obtain ⟨t242, A620, H⟩ := H
    replace H : (signetrylaw02_works.j1 kj3 (t242.toList == ([65, 66] : List UInt8))) = some r := H
    have A62 := Aside0.mk A620
    clear A620
    have H' := Aside0.mk H
    clear H
    go_wp2_with (first | ((with_reducible refine gate_callee (f := 22) rfl ?_); refine goesL_ (some 66) rfl rfl Tryd.func22 (by kernel_rfl) rfl #[.string (⟨#[97, 95, 49]⟩ : ByteArray)] rfl (by (try simp only [List.map_toArray, List.map_cons, List.map_nil]); first | done | rfl | (simp only [List.length_drop, List.length_take]; rfl)) ?_; (with_reducible refine (text_IsIdent.calls kj3 (⟨#[97, 95, 49]⟩ : ByteArray) true _ A52.out).mono ?_); rintro e w63 ⟨rfl, hb⟩; refine ⟨_, rfl, ?_⟩; have n0_ := Aside0.mk (below_step (by repeat (first | (with_reducible first | exact HB.out | apply below_alloc | apply pw_below_drewN | apply below_drew1) | exact HB.out)) hb); clear HB; have HB := n0_; clear n0_; (try clear hb); (try clear hb2); (try clear hk); (try clear hi)) | (go_at_call 22; (with_reducible refine (text_IsIdent.calls kj3 (⟨#[49, 97]⟩ : ByteArray) false _ A54.out).mono ?_); rintro e w64 ⟨rfl, hb⟩; have n0_ := Aside0.mk (below_step (by repeat (first | (with_reducible first | exact HB.out | apply below_alloc | apply pw_below_drewN | apply below_drew1) | exact HB.out)) hb); clear HB; have HB := n0_; clear n0_; (try clear hb); (try clear hb2); (try clear hk); (try clear hi)) | (go_at_call 24; (with_reducible refine (text_IsFull.calls (⟨#[97, 46, 98]⟩ : ByteArray) true _ A56.out (HTB_.below (by repeat (first | (with_reducible first | exact HB.out | apply below_alloc | apply pw_below_drewN | apply below_drew1) | exact HB.out)))).mono ?_); rintro e w65 ⟨rfl, hb⟩; have n0_ := Aside0.mk (below_step (by repeat (first | (with_reducible first | exact HB.out | apply below_alloc | apply pw_below_drewN | apply below_drew1) | exact HB.out)) hb); clear HB; have HB := n0_; clear n0_; (try clear hb); (try clear hb2); (try clear hk); (try clear hi)) | (go_at_call 24; (with_reducible refine (text_IsFull.calls (⟨#[97, 46, 46, 98]⟩ : ByteArray) false _ A58.out (HTB_.below (by repeat (first | (with_reducible first | exact HB.out | apply below_alloc | apply pw_below_drewN | apply below_drew1) | exact HB.out)))).mono ?_); rintro e w66 ⟨rfl, hb⟩; have n0_ := Aside0.mk (below_step (by repeat (first | (with_reducible first | exact HB.out | apply below_alloc | apply pw_below_drewN | apply below_drew1) | exact HB.out)) hb); clear HB; have HB := n0_; clear n0_; (try clear hb); (try clear hb2); (try clear hk); (try clear hi)) | (go_at_call 26; (with_reducible refine (text_Key.calls (⟨#[102, 111, 111, 95, 98, 97, 114, 95, 50, 120]⟩ : ByteArray) t241 _ A60.out).mono ?_); rintro e w67 ⟨rfl, hb⟩; have n0_ := Aside0.mk (below_step (by repeat (first | (with_reducible first | exact HB.out | apply below_alloc | apply pw_below_drewN | apply below_drew1) | exact HB.out)) hb); clear HB; have HB := n0_; clear n0_; (try clear hb); (try clear hb2); (try clear hk); (try clear hi)) | (go_at_call 26; (with_reducible refine (text_Key.calls (⟨#[95, 97, 95, 95, 98]⟩ : ByteArray) t242 _ A62.out).mono ?_); rintro e w68 ⟨rfl, hb⟩; have n0_ := Aside0.mk (below_step (by repeat (first | (with_reducible first | exact HB.out | apply below_alloc | apply pw_below_drewN | apply below_drew1) | exact HB.out)) hb); clear HB; have HB := n0_; clear n0_; (try clear hb); (try clear hb2); (try clear hk); (try clear hi)))
    go_meet
    case rel => exact ⟨_, ((t242.toList == ([65, 66] : List UInt8))), (by first | rfl | (simp; done) | (simp [*]; done)), H', ⟨by have := HJ3.out; first | omega | exact Nat.le_refl _⟩, ⟨by repeat (first | (with_reducible first | exact HB.out | apply below_alloc | apply pw_below_drewN | apply below_drew1) | exact HB.out)⟩⟩
   case rest =>
    clear HC51
    try clear c1
    try clear c2
    try clear p2
    try clear c5
    try clear c6
    try clear c12
    try clear c13
    try clear c14
    try clear c15
    try clear c16
    try clear c18
    try clear c19
    try clear c20
    try clear c21
    try clear c21b0
    try clear c21b1
    try clear c22
    try clear c22b0
    try clear c22b1
    try clear c24
    try clear c25
    try clear c25b0
    try clear c25b1
    try clear c50
    try clear c53
    try clear c55
    try clear c57
    try clear c59
    try clear c61
    try clear c61b0
    try clear c61b1
    try clear p2
    obtain ⟨kq, x8_50, rfl, HA, HJ50, HB⟩ := hcut
    cases kq with
    | zero => exact absurd HA.out (by simp [signetrylaw02_works.j1])
    | succ kj50 =>
     have H := HA.out
     clear HA
     simp only [signetrylaw02_works.j1] at H
     by_cases c69 : x8_50 = true
     case neg =>
      replace c69 := Bool.eq_false_iff.mpr c69
      subst c69
      have H1 : (none) = some r := by rw [if_neg (show ¬ (false = true) by decide)] at H; exact H
      clear H
      have H := H1
      clear H1
      exact absurd H (by simp)
     subst c69
     have H1 : ((text_Quote.f (([97, 34, 0, 255] : List Int))).bind fun t246 => (if t246.toList = ([34, 97, 92, 34, 92, 48, 48, 48, 92, 51, 55, 55, 34] : List UInt8) then ((signetrylaw02_reads.f kj50 (⟨#[39, 97, 92, 120, 52, 97, 92, 49, 48, 49, 92, 117, 50, 48, 65, 67, 39]⟩ : ByteArray) (([97, 74, 65, 226, 130, 172] : List Int))).bind fun t250 => (if t250 = true then ((signetrylaw02_none.f kj50 (⟨#[34, 97, 39]⟩ : ByteArray)).bind fun t251 => (if t251 = true then ((signetrylaw02_none.f kj50 (⟨#[34, 92, 52, 48, 48, 34]⟩ : ByteArray)).bind fun t252 => (some t252)) else (none))) else (none))) else (none))) = some r := by rw [if_pos rfl] at H; exact H
     clear H
     have H := H1
     clear H1
     obtain ⟨y243, hy243⟩ : ∃ y_ : List Int, y_ = (([97, 34, 0, 255] : List Int)) := ⟨_, rfl⟩
     replace H : ((text_Quote.f y243).bind fun t246 => (if t246.toList = ([34, 97, 92, 34, 92, 48, 48, 48, 92, 51, 55, 55, 34] : List UInt8) then ((signetrylaw02_reads.f kj50 (⟨#[39, 97, 92, 120, 52, 97, 92, 49, 48, 49, 92, 117, 50, 48, 65, 67, 39]⟩ : ByteArray) (([97, 74, 65, 226, 130, 172] : List Int))).bind fun t250 => (if t250 = true then ((signetrylaw02_none.f kj50 (⟨#[34, 97, 39]⟩ : ByteArray)).bind fun t251 => (if t251 = true then ((signetrylaw02_none.f kj50 (⟨#[34, 92, 52, 48, 48, 34]⟩ : ByteArray)).bind fun t252 => (some t252)) else (none))) else (none))) else (none))) = some r := by first | (rw [hy243]; with_reducible exact H) | (have H2_ := (Option.bind_some _ _).symm.trans H; rw [hy243]; with_reducible exact H2_) | (have H2_ := (Option.bind_some _ _).symm.trans H; with_reducible exact H2_) | with_reducible exact H | (rw [hy243]; exact H) | exact H
     have Ny243 := Aside0.mk hy243
     clear hy243
     replace H := Option.bind_eq_some_iff.mp H
     obtain ⟨t246, A700, H⟩ := H
     replace H : (if t246.toList = ([34, 97, 92, 34, 92, 48, 48, 48, 92, 51, 55, 55, 34] : List UInt8) then ((signetrylaw02_reads.f kj50 (⟨#[39, 97, 92, 120, 52, 97, 92, 49, 48, 49, 92, 117, 50, 48, 65, 67, 39]⟩ : ByteArray) (([97, 74, 65, 226, 130, 172] : List Int))).bind fun t250 => (if t250 = true then ((signetrylaw02_none.f kj50 (⟨#[34, 97, 39]⟩ : ByteArray)).bind fun t251 => (if t251 = true then ((signetrylaw02_none.f kj50 (⟨#[34, 92, 52, 48, 48, 34]⟩ : ByteArray)).bind fun t252 => (some t252)) else (none))) else (none))) else (none)) = some r := H
     have A70 := Aside0.mk A700
     clear A700
     by_cases c71 : t246.toList = ([34, 97, 92, 34, 92, 48, 48, 48, 92, 51, 55, 55, 34] : List UInt8)
     case neg =>
      rw [if_neg c71] at H
      exact absurd H (by simp)
     rw [if_pos c71] at H
     have c71b0 : (t246.toList == ([34, 97, 92, 34, 92, 48, 48, 48, 92, 51, 55, 55, 34] : List UInt8)) = true := beq_iff_eq.mpr c71
     have c71b1 : (t246.toList != ([34, 97, 92, 34, 92, 48, 48, 48, 92, 51, 55, 55, 34] : List UInt8)) = false := bne_eq_false_iff_eq.mpr c71
     clear c71
     obtain ⟨y247, hy247⟩ : ∃ y_ : List Int, y_ = (([97, 74, 65, 226, 130, 172] : List Int)) := ⟨_, rfl⟩
     replace H : ((signetrylaw02_reads.f kj50 (⟨#[39, 97, 92, 120, 52, 97, 92, 49, 48, 49, 92, 117, 50, 48, 65, 67, 39]⟩ : ByteArray) y247).bind fun t250 => (if t250 = true then ((signetrylaw02_none.f kj50 (⟨#[34, 97, 39]⟩ : ByteArray)).bind fun t251 => (if t251 = true then ((signetrylaw02_none.f kj50 (⟨#[34, 92, 52, 48, 48, 34]⟩ : ByteArray)).bind fun t252 => (some t252)) else (none))) else (none))) = some r := by first | (rw [hy247]; with_reducible exact H) | (have H2_ := (Option.bind_some _ _).symm.trans H; rw [hy247]; with_reducible exact H2_) | (have H2_ := (Option.bind_some _ _).symm.trans H; with_reducible exact H2_) | with_reducible exact H | (rw [hy247]; exact H) | exact H
     have Ny247 := Aside0.mk hy247
     clear hy247
     replace H := Option.bind_eq_some_iff.mp H
     obtain ⟨t250, A720, H⟩ := H
     replace H : (if t250 = true then ((signetrylaw02_none.f kj50 (⟨#[34, 97, 39]⟩ : ByteArray)).bind fun t251 => (if t251 = true then ((signetrylaw02_none.f kj50 (⟨#[34, 92, 52, 48, 48, 34]⟩ : ByteArray)).bind fun t252 => (some t252)) else (none))) else (none)) = some r := H
     have A72 := Aside0.mk A720
     clear A720
     by_cases c73 : t250 = true
     case neg =>
      replace c73 := Bool.eq_false_iff.mpr c73
      subst c73
      have H1 : (none) = some r := by rw [if_neg (show ¬ (false = true) by decide)] at H; exact H
      clear H
      have H := H1
      clear H1
      exact absurd H (by simp)
     subst c73
     have H1 : ((signetrylaw02_none.f kj50 (⟨#[34, 97, 39]⟩ : ByteArray)).bind fun t251 => (if t251 = true then ((signetrylaw02_none.f kj50 (⟨#[34, 92, 52, 48, 48, 34]⟩ : ByteArray)).bind fun t252 => (some t252)) else (none))) = some r := by rw [if_pos rfl] at H; exact H
     clear H
     have H := H1
     clear H1
     replace H := Option.bind_eq_some_iff.mp H
     obtain ⟨t251, A740, H⟩ := H
     replace H : (if t251 = true then ((signetrylaw02_none.f kj50 (⟨#[34, 92, 52, 48, 48, 34]⟩ : ByteArray)).bind fun t252 => (some t252)) else (none)) = some r := H
     have A74 := Aside0.mk A740
     clear A740
     by_cases c75 : t251 = true
     case neg =>
      replace c75 := Bool.eq_false_iff.mpr c75
      subst c75
      have H1 : (none) = some r := by rw [if_neg (show ¬ (false = true) by decide)] at H; exact H
      clear H
      have H := H1
      clear H1
      exact absurd H (by simp)
     subst c75
     have H1 : ((signetrylaw02_none.f kj50 (⟨#[34, 92, 52, 48, 48, 34]⟩ : ByteArray)).bind fun t252 => (some t252)) = some r := by rw [if_pos rfl] at H; exact H
     clear H
     have H := H1
     clear H1
     replace H := Option.bind_eq_some_iff.mp H
     obtain ⟨t252, A760, H⟩ := H
     replace H : (some t252) = some r := H
     have A76 := Aside0.mk A760
     clear A760
     obtain rfl := Option.some.inj H
     go_wp2_with (first | ((with_reducible refine gate_dst (N := 88) rfl ?_); (try (refine gate_guard (by rfl) ?_; dsimp only)); refine Kd.R_lit (Kd.int .u8) _ 5 ?hg (N := 88) ?hd (xs := ([97, 34, 0, 255] : List Int)) (inner := [.int .u8 97, .int .u8 34, .int .u8 0, .int .u8 255]) (ok := fun _ => True) (okp := fun _ => True) ?hr ?hp (fun _ hk => hk) trivial (Below.refl _ _) (Nat.le_refl _) (by simp) ?_; (case hd => rfl); (case hg => rfl); (case hr => first | (go_simp; done) | (go_simp; rfl)); (case hp => exact (Reps.one (show Kd.M (Kd.int .u8) _ _ _ 97 [.int .u8 97] from rfl) (Reps.one (show Kd.M (Kd.int .u8) _ _ _ 34 [.int .u8 34] from rfl) (Reps.one (show Kd.M (Kd.int .u8) _ _ _ 0 [.int .u8 0] from rfl) (Reps.one (show Kd.M (Kd.int .u8) _ _ _ 255 [.int .u8 255] from rfl) (Reps.none _ _)))))); intro v244 w77 ho78 hb hg_ hnew_; clear hg_ hnew_; (first | rw [← Ny243.out] at ho78 | (simp only [Int.reduceToNat] at ho78; rw [← Ny243.out] at ho78)); have n0_ := Aside0.mk (Kd.R_lower ho78 (below_size (by repeat (first | (with_reducible first | exact HB.out | apply below_alloc | apply pw_below_drewN | apply below_drew1) | exact HB.out)))); have n1_ := Aside0.mk (below_step (by repeat (first | (with_reducible first | exact HB.out | apply below_alloc | apply pw_below_drewN | apply below_drew1) | exact HB.out)) hb); clear HB; have HO245 := n0_; have HB := n1_; clear n0_ n1_; clear hb ho78; obtain ⟨Ao79, co79, eo79⟩ := Kd.R_slice HO245.out; subst eo79) | (go_at_call 30; (with_reducible refine (text_Quote.calls _ _ y243 t246 _ ?side1 ?side2 A70.out).mono ?_); (case side1 => repeat (first | exact (Kd.R_reads' HO245.out).2.2 | (with_reducible refine Kd.C_alloc ?_ _) | (with_reducible refine Kd.C_drewN ?_ _) | (with_reducible refine Kd.C_drew ?_))); (case side2 => exact (Kd.R_reads' HO245.out).2.1); rintro e w80 ⟨rfl, hb⟩; have n0_ := Aside0.mk (Kd.R_below (by (with_reducible repeat (first | apply Kd.R_alloc | apply Kd.R_drewN | apply Kd.R_drew)); exact HO245.out) hb); have n1_ := Aside0.mk (below_step (by repeat (first | (with_reducible first | exact HB.out | apply below_alloc | apply pw_below_drewN | apply below_drew1) | exact HB.out)) hb); clear HO245; clear HB; have HO245 := n0_; have HB := n1_; clear n0_ n1_; (try clear hb); (try clear hb2); (try clear hk); (try clear hi)) | ((with_reducible refine gate_dst (N := 93) rfl ?_); (try (refine gate_guard (by rfl) ?_; dsimp only)); refine Kd.R_lit (Kd.int .u8) _ 5 ?hg (N := 93) ?hd (xs := ([97, 74, 65, 226, 130, 172] : List Int)) (inner := [.int .u8 97, .int .u8 74, .int .u8 65, .int .u8 226, .int .u8 130, .int .u8 172]) (ok := fun _ => True) (okp := fun _ => True) ?hr ?hp (fun _ hk => hk) trivial (Below.refl _ _) (Nat.le_refl _) (by simp) ?_; (case hd => rfl); (case hg => rfl); (case hr => first | (go_simp; done) | (go_simp; rfl)); (case hp => exact (Reps.one (show Kd.M (Kd.int .u8) _ _ _ 97 [.int .u8 97] from rfl) (Reps.one (show Kd.M (Kd.int .u8) _ _ _ 74 [.int .u8 74] from rfl) (Reps.one (show Kd.M (Kd.int .u8) _ _ _ 65 [.int .u8 65] from rfl) (Reps.one (show Kd.M (Kd.int .u8) _ _ _ 226 [.int .u8 226] from rfl) (Reps.one (show Kd.M (Kd.int .u8) _ _ _ 130 [.int .u8 130] from rfl) (Reps.one (show Kd.M (Kd.int .u8) _ _ _ 172 [.int .u8 172] from rfl) (Reps.none _ _)))))))); intro v248 w81 ho82 hb hg_ hnew_; clear hg_ hnew_; (first | rw [← Ny247.out] at ho82 | (simp only [Int.reduceToNat] at ho82; rw [← Ny247.out] at ho82)); have n0_ := Aside0.mk (Kd.R_elder' (by (with_reducible repeat (first | apply Kd.R_alloc | apply Kd.R_drewN | apply Kd.R_drew)); exact HO245.out) (Kd.R_base ho82) hb); have n1_ := Aside0.mk (Kd.R_lower (Kd.R_new' ho82 (Kd.R_lt (by (with_reducible repeat (first | apply Kd.R_alloc | apply Kd.R_drewN | apply Kd.R_drew)); exact HO245.out))) (below_size (by repeat (first | (with_reducible first | exact HB.out | apply below_alloc | apply pw_below_drewN | apply below_drew1) | exact HB.out)))); have n2_ := Aside0.mk (below_step (by repeat (first | (with_reducible first | exact HB.out | apply below_alloc | apply pw_below_drewN | apply below_drew1) | exact HB.out)) hb); clear HO245; clear HB; have HO245 := n0_; have HO249 := n1_; have HB := n2_; clear n0_ n1_ n2_; clear hb ho82; obtain ⟨Ao83, co83, eo83⟩ := Kd.R_slice HO249.out; subst eo83) | (go_at_call 41; (with_reducible refine (signetrylaw02_reads.calls kj50 (⟨#[39, 97, 92, 120, 52, 97, 92, 49, 48, 49, 92, 117, 50, 48, 65, 67, 39]⟩ : ByteArray) _ _ y247 true _ ?side1 ?side2 A72.out (HTB_.below (by repeat (first | (with_reducible first | exact HB.out | apply below_alloc | apply pw_below_drewN | apply below_drew1) | exact HB.out)))).mono ?_); (case side1 => repeat (first | exact (Kd.R_reads' HO249.out).2.2 | (with_reducible refine Kd.C_alloc ?_ _) | (with_reducible refine Kd.C_drewN ?_ _) | (with_reducible refine Kd.C_drew ?_))); (case side2 => exact (Kd.R_reads' HO249.out).2.1); rintro e w84 ⟨rfl, hb⟩; have n0_ := Aside0.mk (Kd.R_below (by (with_reducible repeat (first | apply Kd.R_alloc | apply Kd.R_drewN | apply Kd.R_drew)); exact HO245.out) hb); have n1_ := Aside0.mk (Kd.R_below (by (with_reducible repeat (first | apply Kd.R_alloc | apply Kd.R_drewN | apply Kd.R_drew)); exact HO249.out) hb); have n2_ := Aside0.mk (below_step (by repeat (first | (with_reducible first | exact HB.out | apply below_alloc | apply pw_below_drewN | apply below_drew1) | exact HB.out)) hb); clear HO245; clear HO249; clear HB; have HO245 := n0_; have HO249 := n1_; have HB := n2_; clear n0_ n1_ n2_; (try clear hb); (try clear hb2); (try clear hk); (try clear hi)) | (go_at_call 42; (with_reducible refine (signetrylaw02_none.calls kj50 (⟨#[34, 97, 39]⟩ : ByteArray) true _ A74.out (HTB_.below (by repeat (first | (with_reducible first | exact HB.out | apply below_alloc | apply pw_below_drewN | apply below_drew1) | exact HB.out)))).mono ?_); rintro e w85 ⟨rfl, hb⟩; have n0_ := Aside0.mk (Kd.R_below (by (with_reducible repeat (first | apply Kd.R_alloc | apply Kd.R_drewN | apply Kd.R_drew)); exact HO245.out) hb); have n1_ := Aside0.mk (Kd.R_below (by (with_reducible repeat (first | apply Kd.R_alloc | apply Kd.R_drewN | apply Kd.R_drew)); exact HO249.out) hb); have n2_ := Aside0.mk (below_step (by repeat (first | (with_reducible first | exact HB.out | apply below_alloc | apply pw_below_drewN | apply below_drew1) | exact HB.out)) hb); clear HO245; clear HO249; clear HB; have HO245 := n0_; have HO249 := n1_; have HB := n2_; clear n0_ n1_ n2_; (try clear hb); (try clear hb2); (try clear hk); (try clear hi)) | (go_at_call 42; (with_reducible refine (signetrylaw02_none.calls kj50 (⟨#[34, 92, 52, 48, 48, 34]⟩ : ByteArray) t252 _ A76.out (HTB_.below (by repeat (first | (with_reducible first | exact HB.out | apply below_alloc | apply pw_below_drewN | apply below_drew1) | exact HB.out)))).mono ?_); rintro e w86 ⟨rfl, hb⟩; have n0_ := Aside0.mk (Kd.R_below (by (with_reducible repeat (first | apply Kd.R_alloc | apply Kd.R_drewN | apply Kd.R_drew)); exact HO245.out) hb); have n1_ := Aside0.mk (Kd.R_below (by (with_reducible repeat (first | apply Kd.R_alloc | apply Kd.R_drewN | apply Kd.R_drew)); exact HO249.out) hb); have n2_ := Aside0.mk (below_step (by repeat (first | (with_reducible first | exact HB.out | apply below_alloc | apply pw_below_drewN | apply below_drew1) | exact HB.out)) hb); clear HO245; clear HO249; clear HB; have HO245 := n0_; have HO249 := n1_; have HB := n2_; clear n0_ n1_ n2_; (try clear hb); (try clear hb2); (try clear hk); (try clear hi)))
     go_ret
     exact ⟨by first | rfl | (simp [errW_none, errW_some] <;> rfl) | (simp [*, errW_none, errW_some] <;> rfl), by repeat (first | (with_reducible first | exact HB.out | apply below_alloc | apply pw_below_drewN | apply below_drew1) | exact HB.out)⟩
end Go.Proofs.YtaklkcnohbbfoaaDoor.PAll
