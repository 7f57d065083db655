-- Written by this repo's program wip/tools/pr.py (over the kit's print) out of the translation. Not trusted: Lean checks it.
import Derived.Test.YtodnggilomanbaaGreatDoorAp
import Derived.Test.YtodnggilomanbaaGreatDoorGTz
import Derived.Test.YtodnggilomanbaaGreatDoorHandAa
set_option maxHeartbeats 8000000
set_option maxRecDepth 100000
namespace Go.Proofs.YtodnggilomanbaaGreatDoor.PAll
open Go.Proofs.YtodnggilomanbaaGreatDoor.Hand
open Go.RowKit Go.Proofs.YtodnggilomanbaaGreatDoorW.PrintWords Go.Proofs.YtodnggilomanbaaGreatDoorW.PrintLast Go.Proofs.YtodnggilomanbaaGreatDoorW.PrintMore
attribute [local go_sem] max2_int min2_int max_two min_two max_three min_three max_four min_four   -- for this text's walks alone
set_option linter.unusedVariables false
set_option linter.unusedSimpArgs false
attribute [-simp] List.length_take List.length_drop ByteArray.size_extract

/-! ### aN: function 123 -/
def aN.f (a0 : Int) : Option (Bool) := if a0 ≥ 0 then (if a0 ≤ 1114111 then (if a0 < 55296 then (some true) else (some (decide (a0 > 57343)))) else (some false)) else (some false)
theorem aN.calls (a0 : Int) (r : Bool) (w : World) (h : aN.f a0 = some r) :
 Calls Tryz.prog 123 #[.int .i64 a0] w fun e w' => e = .returned (.bool r) ∧ Drawn0 w w' := by
 have H : (if a0 ≥ 0 then (if a0 ≤ 1114111 then (if a0 < 55296 then (some true) else (some (decide (a0 > 57343)))) else (some false)) else (some false)) = some r := h
 clear h
 by_cases c2 : a0 ≥ 0
 case neg =>
  rw [if_neg c2] at H
  have eQ : decide (0 ≤ a0) = false := decide_eq_false c2
  clear c2
  obtain rfl := Option.some.inj H
  go_enter Tryz.func123, Tryz.ntmps123
  go_wp2
  go_ret
  exact ⟨p5z, p17z⟩

 rw [if_pos c2] at H
 have eQ : decide (0 ≤ a0) = true := decide_eq_true c2
 clear c2
 by_cases c3 : a0 ≤ 1114111
 case neg =>
  rw [if_neg c3] at H
  have cW : decide (a0 ≤ 1114111) = false := decide_eq_false c3
  clear c3
  obtain rfl := Option.some.inj H
  go_enter Tryz.func123, Tryz.ntmps123
  go_wp2
  go_ret
  exact ⟨p5z, p17z⟩
 rw [if_pos c3] at H
 have cW : decide (a0 ≤ 1114111) = true := decide_eq_true c3
 clear c3
 by_cases c4 : a0 < 55296
 case pos =>
  rw [if_pos c4] at H
  have dd : decide (a0 < 55296) = true := decide_eq_true c4
  clear c4
  obtain rfl := Option.some.inj H
  go_enter Tryz.func123, Tryz.ntmps123
  go_wp2
  go_ret
  exact ⟨p5z, p17z⟩
 rw [if_neg c4] at H
 have dd : decide (a0 < 55296) = false := decide_eq_false c4
 clear c4
 obtain rfl := Option.some.inj H
 go_enter Tryz.func123, Tryz.ntmps123
 go_wp2
 go_ret
 exact ⟨p5z, p17z⟩
/-! ### aC: function 124 -/
def aC.f (l0 : List Int) : Option (List Int) := if ([] : List Int).length + l0.length < 140737488355328 then (some (([] : List Int) ++ l0)) else (none)
theorem aC.calls (A0 : Option Addr) (c0 : Nat) (l0 : List Int) (r : List Int) (w : World) (hr0 : Kd.C (Kd.int .u8) w A0 l0.length l0) (hc0 : l0.length ≤ c0) (h : aC.f l0 = some r) :
 Calls Tryz.prog 124 #[.slice A0 l0.length c0] w fun e w' => ∃ v0_ : Value, e = .returned (v0_) ∧ Kd.R (Kd.int .u8) 5 w' w.heap.size (fun _ => True) v0_ r ∧ Below w.heap.size w w' := by
 have HR0 := Aside0.mk hr0
 have HC0 := Aside0.mk hc0
 clear hr0 hc0
 have HB := Aside0.mk (Below.refl w.heap.size w)
 have H : (if ([] : List Int).length + l0.length < 140737488355328 then (some (([] : List Int) ++ l0)) else (none)) = some r := h
 clear h
 by_cases c2 : ([] : List Int).length + l0.length < 140737488355328
 case neg =>
  rw [if_neg c2] at H
  exact absurd H (by simp)

 rw [if_pos c2] at H
 have LMc2 := Aside0.mk c2
 clear c2
 obtain ⟨y211, hy211⟩ : ∃ y_ : List Int, y_ = (([] : List Int) ++ l0) := ⟨_, rfl⟩
 replace H : (some y211) = some r := by first | (rw [hy211]; with_reducible exact H) | (have H2_ := (Option.bind_some _ _).symm.trans H; rw [hy211]; with_reducible exact H2_) | (have H2_ := (Option.bind_some _ _).symm.trans H; with_reducible exact H2_) | with_reducible exact H | (rw [hy211]; exact H) | exact H
 have Ny211 := Aside0.mk hy211
 clear hy211
 obtain rfl := Option.some.inj H
 go_enter Tryz.func124, Tryz.ntmps124
 go_wp2_with (first | ((with_reducible refine gate_builtin (b := .append) (xs := #[.tmp 4, .tmp 5]) rfl ?_); at_builtin; refine Kd.R_append_rows (Kd.int .u8) (w0 := w) w.heap.size rfl (.tmp 4) (.tmp 5) 23 5 (.int .u8 0) 1 rfl Tryz.underlying23 info5 rfl (by decide) (by omega) (.slice none 0 0) ([] : List Int) l0 _ _ _ (fun _ => True) (fun _ => False) rfl rfl ?aO ?aR (fun _ _ h => h) (fun _ h => h.elim) ?aF ?aB ?aS ?aL ?_; (case aR => exact p41z); (case aB => exact p0z); (case aF => exact (fun _ _ => trivial)); (case aO => exact ((Kd.R_nil _ _ _ _ (fun _ => True)))); (case aS => exact (below_size p0z)); (case aL => have := LMc2.out; omega); intro v212 w3 ho hb hg hat; rw [← Ny211.out] at ho; have z_ := asi2 (hb) (ho); clear HB; obtain ⟨HB, HO213⟩ := z_; clear ho hb hg hat))
 go_ret
 exact ⟨_, p7z, q0z HO213.out, p0z⟩
/-! ### az: function 113 -/
def az.f (l0 : List Int) (a1 : Int) : Option (List Int × Int) := (aN.f a1).bind fun j5 => (if j5 = true then ((aC.f l0).bind fun bF => (if a1 < 128 then (if bF.length < 140737488355328 then (some ((bF ++ [(a1) % 256]), 0)) else (none)) else (if a1 < 2048 then ((some (([(192 + ((wrap64 (Int.tdiv a1 64)) % 256)) % 256, (128 + ((Int.tmod a1 64) % 256)) % 256] : List Int) : List Int)).bind fun y221 => (if bF.length + y221.length < 140737488355328 then (some ((bF ++ y221), 0)) else (none))) else (if a1 < 65536 then ((some (([(224 + ((wrap64 (Int.tdiv a1 4096)) % 256)) % 256, (128 + ((Int.tmod (wrap64 (Int.tdiv a1 64)) 64) % 256)) % 256, (128 + ((Int.tmod a1 64) % 256)) % 256] : List Int) : List Int)).bind fun y227 => (if bF.length + y227.length < 140737488355328 then (some ((bF ++ y227), 0)) else (none))) else ((some (([(240 + ((wrap64 (Int.tdiv a1 262144)) % 256)) % 256, (128 + ((Int.tmod (wrap64 (Int.tdiv a1 4096)) 64) % 256)) % 256, (128 + ((Int.tmod (wrap64 (Int.tdiv a1 64)) 64) % 256)) % 256, (128 + ((Int.tmod a1 64) % 256)) % 256] : List Int) : List Int)).bind fun y233 => (if bF.length + y233.length < 140737488355328 then (some ((bF ++ y233), 0)) else (none))))))) else (some (([] : List Int), 20)))
theorem az.calls (A0 : Option Addr) (c0 : Nat) (l0 : List Int) (a1 : Int) (r1 : List Int) (r2 : Int) (w : World) (hr0 : Kd.C (Kd.int .u8) w A0 l0.length l0) (hc0 : l0.length ≤ c0) (h : az.f l0 a1 = some (r1, r2)) :
 Calls Tryz.prog 113 #[.slice A0 l0.length c0, .int .i64 a1] w fun e w' => ∃ v0_ : Value, e = .returned (.tuple #[v0_, .int .i64 r2]) ∧ Kd.R (Kd.int .u8) 5 w' w.heap.size (fun _ => True) v0_ r1 ∧ Below w.heap.size w w' := by
 have HR0 := Aside0.mk hr0
 have HC0 := Aside0.mk hc0
 clear hr0 hc0
 have HB := Aside0.mk (Below.refl w.heap.size w)
 have H : ((aN.f a1).bind fun j5 => (if j5 = true then ((aC.f l0).bind fun bF => (if a1 < 128 then (if bF.length < 140737488355328 then (some ((bF ++ [(a1) % 256]), 0)) else (none)) else (if a1 < 2048 then ((some (([(192 + ((wrap64 (Int.tdiv a1 64)) % 256)) % 256, (128 + ((Int.tmod a1 64) % 256)) % 256] : List Int) : List Int)).bind fun y221 => (if bF.length + y221.length < 140737488355328 then (some ((bF ++ y221), 0)) else (none))) else (if a1 < 65536 then ((some (([(224 + ((wrap64 (Int.tdiv a1 4096)) % 256)) % 256, (128 + ((Int.tmod (wrap64 (Int.tdiv a1 64)) 64) % 256)) % 256, (128 + ((Int.tmod a1 64) % 256)) % 256] : List Int) : List Int)).bind fun y227 => (if bF.length + y227.length < 140737488355328 then (some ((bF ++ y227), 0)) else (none))) else ((some (([(240 + ((wrap64 (Int.tdiv a1 262144)) % 256)) % 256, (128 + ((Int.tmod (wrap64 (Int.tdiv a1 4096)) 64) % 256)) % 256, (128 + ((Int.tmod (wrap64 (Int.tdiv a1 64)) 64) % 256)) % 256, (128 + ((Int.tmod a1 64) % 256)) % 256] : List Int) : List Int)).bind fun y233 => (if bF.length + y233.length < 140737488355328 then (some ((bF ++ y233), 0)) else (none))))))) else (some (([] : List Int), 20)))) = some (r1, r2) := h
 clear h
 replace H := Option.bind_eq_some_iff.mp H
 obtain ⟨j5, A30, H⟩ := H
 replace H : (if j5 = true then ((aC.f l0).bind fun bF => (if a1 < 128 then (if bF.length < 140737488355328 then (some ((bF ++ [(a1) % 256]), 0)) else (none)) else (if a1 < 2048 then ((some (([(192 + ((wrap64 (Int.tdiv a1 64)) % 256)) % 256, (128 + ((Int.tmod a1 64) % 256)) % 256] : List Int) : List Int)).bind fun y221 => (if bF.length + y221.length < 140737488355328 then (some ((bF ++ y221), 0)) else (none))) else (if a1 < 65536 then ((some (([(224 + ((wrap64 (Int.tdiv a1 4096)) % 256)) % 256, (128 + ((Int.tmod (wrap64 (Int.tdiv a1 64)) 64) % 256)) % 256, (128 + ((Int.tmod a1 64) % 256)) % 256] : List Int) : List Int)).bind fun y227 => (if bF.length + y227.length < 140737488355328 then (some ((bF ++ y227), 0)) else (none))) else ((some (([(240 + ((wrap64 (Int.tdiv a1 262144)) % 256)) % 256, (128 + ((Int.tmod (wrap64 (Int.tdiv a1 4096)) 64) % 256)) % 256, (128 + ((Int.tmod (wrap64 (Int.tdiv a1 64)) 64) % 256)) % 256, (128 + ((Int.tmod a1 64) % 256)) % 256] : List Int) : List Int)).bind fun y233 => (if bF.length + y233.length < 140737488355328 then (some ((bF ++ y233), 0)) else (none))))))) else (some (([] : List Int), 20))) = some (r1, r2) := H
 have A3 := Aside0.mk A30
 clear A30
 by_cases c4 : j5 = true
 case neg =>
  replace c4 := Bool.eq_false_iff.mpr c4
  subst c4
  have H1 : (some (([] : List Int), 20)) = some (r1, r2) := p39z
  clear H
  have H := H1
  clear H1
  simp only [Option.some.injEq, Prod.mk.injEq] at H
  obtain ⟨rfl, rfl⟩ := H
  go_enter Tryz.func113, Tryz.ntmps113
  go_wp2_with (first | ((with_reducible refine gate_callee (f := 123) rfl ?_); refine goesL_ (some 8) rfl rfl Tryz.func123 p12z rfl #[.int .i64 a1] rfl p3z ?_; (with_reducible refine (aN.calls a1 false _ A3.out).mono ?_); rintro e w' ⟨rfl, ⟨nd, rfl⟩⟩; refine ⟨_, rfl, ?_⟩))
  go_ret2
  exact ⟨_, p7z, p34z, p0z⟩

 subst c4
 have H1 : ((aC.f l0).bind fun bF => (if a1 < 128 then (if bF.length < 140737488355328 then (some ((bF ++ [(a1) % 256]), 0)) else (none)) else (if a1 < 2048 then ((some (([(192 + ((wrap64 (Int.tdiv a1 64)) % 256)) % 256, (128 + ((Int.tmod a1 64) % 256)) % 256] : List Int) : List Int)).bind fun y221 => (if bF.length + y221.length < 140737488355328 then (some ((bF ++ y221), 0)) else (none))) else (if a1 < 65536 then ((some (([(224 + ((wrap64 (Int.tdiv a1 4096)) % 256)) % 256, (128 + ((Int.tmod (wrap64 (Int.tdiv a1 64)) 64) % 256)) % 256, (128 + ((Int.tmod a1 64) % 256)) % 256] : List Int) : List Int)).bind fun y227 => (if bF.length + y227.length < 140737488355328 then (some ((bF ++ y227), 0)) else (none))) else ((some (([(240 + ((wrap64 (Int.tdiv a1 262144)) % 256)) % 256, (128 + ((Int.tmod (wrap64 (Int.tdiv a1 4096)) 64) % 256)) % 256, (128 + ((Int.tmod (wrap64 (Int.tdiv a1 64)) 64) % 256)) % 256, (128 + ((Int.tmod a1 64) % 256)) % 256] : List Int) : List Int)).bind fun y233 => (if bF.length + y233.length < 140737488355328 then (some ((bF ++ y233), 0)) else (none))))))) = some (r1, r2) := p72z
 clear H
 have H := H1
 clear H1
 replace H := Option.bind_eq_some_iff.mp H
 obtain ⟨bF, A50, H⟩ := H
 replace H : (if a1 < 128 then (if bF.length < 140737488355328 then (some ((bF ++ [(a1) % 256]), 0)) else (none)) else (if a1 < 2048 then ((some (([(192 + ((wrap64 (Int.tdiv a1 64)) % 256)) % 256, (128 + ((Int.tmod a1 64) % 256)) % 256] : List Int) : List Int)).bind fun y221 => (if bF.length + y221.length < 140737488355328 then (some ((bF ++ y221), 0)) else (none))) else (if a1 < 65536 then ((some (([(224 + ((wrap64 (Int.tdiv a1 4096)) % 256)) % 256, (128 + ((Int.tmod (wrap64 (Int.tdiv a1 64)) 64) % 256)) % 256, (128 + ((Int.tmod a1 64) % 256)) % 256] : List Int) : List Int)).bind fun y227 => (if bF.length + y227.length < 140737488355328 then (some ((bF ++ y227), 0)) else (none))) else ((some (([(240 + ((wrap64 (Int.tdiv a1 262144)) % 256)) % 256, (128 + ((Int.tmod (wrap64 (Int.tdiv a1 4096)) 64) % 256)) % 256, (128 + ((Int.tmod (wrap64 (Int.tdiv a1 64)) 64) % 256)) % 256, (128 + ((Int.tmod a1 64) % 256)) % 256] : List Int) : List Int)).bind fun y233 => (if bF.length + y233.length < 140737488355328 then (some ((bF ++ y233), 0)) else (none)))))) = some (r1, r2) := H
 have A5 := Aside0.mk A50
 clear A50
 by_cases c6 : a1 < 128
 case pos =>
  rw [if_pos c6] at H
  have df : decide (a1 < 128) = true := decide_eq_true c6
  clear c6
  by_cases c7 : bF.length < 140737488355328
  case neg =>
   rw [if_neg c7] at H
   exact absurd H (by simp)
  rw [if_pos c7] at H
  have LMc7 := Aside0.mk c7
  clear c7
  obtain ⟨y218, hy218⟩ : ∃ y_ : List Int, y_ = (bF ++ [(a1) % 256]) := ⟨_, rfl⟩
  replace H : (some (y218, 0)) = some (r1, r2) := by first | (rw [hy218]; with_reducible exact H) | (have H2_ := (Option.bind_some _ _).symm.trans H; rw [hy218]; with_reducible exact H2_) | (have H2_ := (Option.bind_some _ _).symm.trans H; with_reducible exact H2_) | with_reducible exact H | (rw [hy218]; exact H) | exact H
  have Ny218 := Aside0.mk hy218
  clear hy218
  simp only [Option.some.injEq, Prod.mk.injEq] at H
  obtain ⟨rfl, rfl⟩ := H
  go_enter Tryz.func113, Tryz.ntmps113
  go_wp2_with (first | ((with_reducible refine gate_callee (f := 123) rfl ?_); refine goesL_ (some 8) rfl rfl Tryz.func123 p12z rfl #[.int .i64 a1] rfl p3z ?_; (with_reducible refine (aN.calls a1 true _ A3.out).mono ?_); rintro e w' ⟨rfl, ⟨nd, rfl⟩⟩; refine ⟨_, rfl, ?_⟩) | ((with_reducible refine gate_callee (f := 124) rfl ?_); refine goesL_ (some 11) rfl rfl Tryz.func124 p12z rfl #[.slice A0 l0.length c0] rfl p3z ?_; (with_reducible refine (aC.calls _ _ l0 bF _ ?side1 ?side2 A5.out).mono ?_); (case side1 => exact p41z); (case side2 => exact HC0.out); rintro e w8 ⟨i1, rfl, ho0, hb⟩; refine ⟨_, rfl, ?_⟩; have z_ := asi2 (Kd.R_lower ho0 (below_size p0z)) (below_step p0z hb); clear HB; obtain ⟨dk, HB⟩ := z_; (try clear hb hk ho0)) | ((with_reducible refine gate_builtin (b := .append) (xs := #[.tmp 15, .tmp 18]) rfl ?_); at_builtin; refine Kd.R_append (Kd.int .u8) (w0 := w) w.heap.size rfl (.tmp 15) (.tmp 18) 23 5 (.int .u8 0) 1 rfl Tryz.underlying23 info5 rfl (by decide) (by omega) i1 bF ((a1) % 256) [.int .u8 ((a1) % 256)] (fun _ => True) (fun _ => False) rfl rfl ?aP (fun _ hk => hk.elim) ?aF ?aO ?aB ?aS ?aL ?_; (case aP => exact rfl); (case aB => exact p0z); (case aF => exact (fun _ _ => trivial)); (case aO => exact p58z); (case aS => exact (below_size p0z)); (case aL => have := LMc7.out; omega); intro v219 w9 ho hb hg hat; rw [← Ny218.out] at ho; have z_ := asi2 (hb) (ho); clear HB dk; obtain ⟨HB, HO220⟩ := z_; clear ho hb hg hat))
  go_ret2
  exact ⟨_, p7z, q0z HO220.out, p0z⟩
 rw [if_neg c6] at H
 have df : decide (a1 < 128) = false := decide_eq_false c6
 clear c6
 by_cases c10 : a1 < 2048
 case pos =>
  rw [if_pos c10] at H
  have eE : decide (a1 < 2048) = true := decide_eq_true c10
  clear c10
  obtain ⟨y221, hy221⟩ : ∃ y_ : List Int, y_ = (([(192 + ((wrap64 (Int.tdiv a1 64)) % 256)) % 256, (128 + ((Int.tmod a1 64) % 256)) % 256] : List Int)) := ⟨_, rfl⟩
  replace H : (if bF.length + y221.length < 140737488355328 then (some ((bF ++ y221), 0)) else (none)) = some (r1, r2) := by first | (rw [hy221]; with_reducible exact H) | (have H2_ := (Option.bind_some _ _).symm.trans H; rw [hy221]; with_reducible exact H2_) | (have H2_ := (Option.bind_some _ _).symm.trans H; with_reducible exact H2_) | with_reducible exact H | (rw [hy221]; exact H) | exact H
  have Ny221 := Aside0.mk hy221
  clear hy221
  by_cases c11 : bF.length + y221.length < 140737488355328
  case neg =>
   rw [if_neg c11] at H
   exact absurd H (by simp)
  rw [if_pos c11] at H
  have LMc11 := Aside0.mk c11
  clear c11
  obtain ⟨y224, hy224⟩ : ∃ y_ : List Int, y_ = (bF ++ y221) := ⟨_, rfl⟩
  replace H : (some (y224, 0)) = some (r1, r2) := by first | (rw [hy224]; with_reducible exact H) | (have H2_ := (Option.bind_some _ _).symm.trans H; rw [hy224]; with_reducible exact H2_) | (have H2_ := (Option.bind_some _ _).symm.trans H; with_reducible exact H2_) | with_reducible exact H | (rw [hy224]; exact H) | exact H
  have Ny224 := Aside0.mk hy224
  clear hy224
  simp only [Option.some.injEq, Prod.mk.injEq] at H
  obtain ⟨rfl, rfl⟩ := H
  go_enter Tryz.func113, Tryz.ntmps113
  go_wp2_with (first | ((with_reducible refine gate_callee (f := 123) rfl ?_); refine goesL_ (some 8) rfl rfl Tryz.func123 p12z rfl #[.int .i64 a1] rfl p3z ?_; (with_reducible refine (aN.calls a1 true _ A3.out).mono ?_); rintro e w' ⟨rfl, ⟨nd, rfl⟩⟩; refine ⟨_, rfl, ?_⟩) | ((with_reducible refine gate_callee (f := 124) rfl ?_); refine goesL_ (some 11) rfl rfl Tryz.func124 p12z rfl #[.slice A0 l0.length c0] rfl p3z ?_; (with_reducible refine (aC.calls _ _ l0 bF _ ?side1 ?side2 A5.out).mono ?_); (case side1 => exact p41z); (case side2 => exact HC0.out); rintro e w12 ⟨i1, rfl, ho0, hb⟩; refine ⟨_, rfl, ?_⟩; have z_ := asi2 (Kd.R_lower ho0 (below_size p0z)) (below_step p0z hb); clear HB; obtain ⟨dk, HB⟩ := z_; (try clear hb hk ho0)) | ((with_reducible refine gate_dst (N := 32) rfl ?_); refine Kd.R_lit (Kd.int .u8) _ 5 ?hg (N := 32) ?hd (xs := ([(192 + ((wrap64 (Int.tdiv a1 64)) % 256)) % 256, (128 + ((Int.tmod a1 64) % 256)) % 256] : List Int)) (inner := [.int .u8 ((192 + ((wrap64 (Int.tdiv a1 64)) % 256)) % 256), .int .u8 ((128 + ((Int.tmod a1 64) % 256)) % 256)]) (ok := fun _ => True) (okp := fun _ => True) ?hr ?hp (fun _ hk => hk) trivial (Below.refl _ _) (Nat.le_refl _) (by simp) ?_; (case hd => rfl); (case hg => rfl); (case hr => exact p9z); (case hp => exact (Reps.one (show Kd.M (Kd.int .u8) _ _ _ ((192 + ((wrap64 (Int.tdiv a1 64)) % 256)) % 256) [.int .u8 ((192 + ((wrap64 (Int.tdiv a1 64)) % 256)) % 256)] from rfl) (Reps.one (show Kd.M (Kd.int .u8) _ _ _ ((128 + ((Int.tmod a1 64) % 256)) % 256) [.int .u8 ((128 + ((Int.tmod a1 64) % 256)) % 256)] from rfl) (Reps.none _ _)))); intro v222 w13 ho14 hb hg_ hnew_; clear hg_ hnew_; (first | rw [← Ny221.out] at ho14 | (simp only [Int.reduceToNat] at ho14; rw [← Ny221.out] at ho14)); have z_ := asi3 (Kd.R_elder' p58z (Kd.R_base ho14) hb) (Kd.R_lower (Kd.R_new' ho14 (Kd.R_lt p58z)) (below_size p0z)) (below_step p0z hb); clear dk HB; obtain ⟨dk, fu, HB⟩ := z_; clear hb ho14; obtain ⟨Ao16, co16, eo16⟩ := Kd.R_slice fu.out; subst eo16) | ((with_reducible refine gate_builtin (b := .append) (xs := #[.tmp 23, .tmp 32]) rfl ?_); at_builtin; refine Kd.R_append_rows (Kd.int .u8) (w0 := w) w.heap.size rfl (.tmp 23) (.tmp 32) 23 5 (.int .u8 0) 1 rfl Tryz.underlying23 info5 rfl (by decide) (by omega) i1 bF y221 _ _ _ (fun k_ => some k_ ≠ (.slice Ao16 y221.length co16 : Value).ownBlock) (fun _ => False) rfl rfl ?aO ?aR (fun _ _ h => h) (fun _ h => h.elim) ?aF ?aB ?aS ?aL ?_; (case aR => repeat (first | exact (Kd.R_reads' fu.out).2.2 | (with_reducible refine Kd.C_alloc ?_ _) | (with_reducible refine Kd.C_drewN ?_ _) | (with_reducible refine Kd.C_drew ?_))); (case aB => exact p0z); (case aF => exact (fun k_ hk => Kd.fresh' (Kd.R_lt (q0z fu.out)) k_ hk)); (case aO => exact p98z); (case aS => exact (below_size p0z)); (case aL => have := LMc11.out; omega); intro v225 w15 ho hb hg hat; rw [← Ny224.out] at ho; have z_ := asi3 (Kd.R_after (ok := (fun _ => True)) (q0z fu.out) hg hat) (hb) (ho); clear fu HB dk; obtain ⟨fu, HB, HO226⟩ := z_; clear ho hb hg hat))
  go_ret2
  exact ⟨_, p7z, by (with_reducible repeat (first | apply Kd.R_alloc | apply Kd.R_drewN | apply Kd.R_drew)); exact Kd.R_mono HO226.out (fun _ hk => trivial), p0z⟩
 rw [if_neg c10] at H
 have eE : decide (a1 < 2048) = false := decide_eq_false c10
 clear c10
 by_cases c17 : a1 < 65536
 case pos =>
  rw [if_pos c17] at H
  have eF : decide (a1 < 65536) = true := decide_eq_true c17
  clear c17
  obtain ⟨y227, hy227⟩ : ∃ y_ : List Int, y_ = (([(224 + ((wrap64 (Int.tdiv a1 4096)) % 256)) % 256, (128 + ((Int.tmod (wrap64 (Int.tdiv a1 64)) 64) % 256)) % 256, (128 + ((Int.tmod a1 64) % 256)) % 256] : List Int)) := ⟨_, rfl⟩
  replace H : (if bF.length + y227.length < 140737488355328 then (some ((bF ++ y227), 0)) else (none)) = some (r1, r2) := by first | (rw [hy227]; with_reducible exact H) | (have H2_ := (Option.bind_some _ _).symm.trans H; rw [hy227]; with_reducible exact H2_) | (have H2_ := (Option.bind_some _ _).symm.trans H; with_reducible exact H2_) | with_reducible exact H | (rw [hy227]; exact H) | exact H
  have Ny227 := Aside0.mk hy227
  clear hy227
  by_cases c18 : bF.length + y227.length < 140737488355328
  case neg =>
   rw [if_neg c18] at H
   exact absurd H (by simp)
  rw [if_pos c18] at H
  have LMc18 := Aside0.mk c18
  clear c18
  obtain ⟨y230, hy230⟩ : ∃ y_ : List Int, y_ = (bF ++ y227) := ⟨_, rfl⟩
  replace H : (some (y230, 0)) = some (r1, r2) := by first | (rw [hy230]; with_reducible exact H) | (have H2_ := (Option.bind_some _ _).symm.trans H; rw [hy230]; with_reducible exact H2_) | (have H2_ := (Option.bind_some _ _).symm.trans H; with_reducible exact H2_) | with_reducible exact H | (rw [hy230]; exact H) | exact H
  have Ny230 := Aside0.mk hy230
  clear hy230
  simp only [Option.some.injEq, Prod.mk.injEq] at H
  obtain ⟨rfl, rfl⟩ := H
  go_enter Tryz.func113, Tryz.ntmps113
  go_wp2_with (first | ((with_reducible refine gate_callee (f := 123) rfl ?_); refine goesL_ (some 8) rfl rfl Tryz.func123 p12z rfl #[.int .i64 a1] rfl p3z ?_; (with_reducible refine (aN.calls a1 true _ A3.out).mono ?_); rintro e w' ⟨rfl, ⟨nd, rfl⟩⟩; refine ⟨_, rfl, ?_⟩) | ((with_reducible refine gate_callee (f := 124) rfl ?_); refine goesL_ (some 11) rfl rfl Tryz.func124 p12z rfl #[.slice A0 l0.length c0] rfl p3z ?_; (with_reducible refine (aC.calls _ _ l0 bF _ ?side1 ?side2 A5.out).mono ?_); (case side1 => exact p41z); (case side2 => exact HC0.out); rintro e w19 ⟨i1, rfl, ho0, hb⟩; refine ⟨_, rfl, ?_⟩; have z_ := asi2 (Kd.R_lower ho0 (below_size p0z)) (below_step p0z hb); clear HB; obtain ⟨dk, HB⟩ := z_; (try clear hb hk ho0)) | ((with_reducible refine gate_dst (N := 51) rfl ?_); refine Kd.R_lit (Kd.int .u8) _ 5 ?hg (N := 51) ?hd (xs := ([(224 + ((wrap64 (Int.tdiv a1 4096)) % 256)) % 256, (128 + ((Int.tmod (wrap64 (Int.tdiv a1 64)) 64) % 256)) % 256, (128 + ((Int.tmod a1 64) % 256)) % 256] : List Int)) (inner := [.int .u8 ((224 + ((wrap64 (Int.tdiv a1 4096)) % 256)) % 256), .int .u8 ((128 + ((Int.tmod (wrap64 (Int.tdiv a1 64)) 64) % 256)) % 256), .int .u8 ((128 + ((Int.tmod a1 64) % 256)) % 256)]) (ok := fun _ => True) (okp := fun _ => True) ?hr ?hp (fun _ hk => hk) trivial (Below.refl _ _) (Nat.le_refl _) (by simp) ?_; (case hd => rfl); (case hg => rfl); (case hr => exact p9z); (case hp => exact (Reps.one (show Kd.M (Kd.int .u8) _ _ _ ((224 + ((wrap64 (Int.tdiv a1 4096)) % 256)) % 256) [.int .u8 ((224 + ((wrap64 (Int.tdiv a1 4096)) % 256)) % 256)] from rfl) (Reps.one (show Kd.M (Kd.int .u8) _ _ _ ((128 + ((Int.tmod (wrap64 (Int.tdiv a1 64)) 64) % 256)) % 256) [.int .u8 ((128 + ((Int.tmod (wrap64 (Int.tdiv a1 64)) 64) % 256)) % 256)] from rfl) (Reps.one (show Kd.M (Kd.int .u8) _ _ _ ((128 + ((Int.tmod a1 64) % 256)) % 256) [.int .u8 ((128 + ((Int.tmod a1 64) % 256)) % 256)] from rfl) (Reps.none _ _))))); intro v228 w20 ho21 hb hg_ hnew_; clear hg_ hnew_; (first | rw [← Ny227.out] at ho21 | (simp only [Int.reduceToNat] at ho21; rw [← Ny227.out] at ho21)); have z_ := asi3 (Kd.R_elder' p58z (Kd.R_base ho21) hb) (Kd.R_lower (Kd.R_new' ho21 (Kd.R_lt p58z)) (below_size p0z)) (below_step p0z hb); clear dk HB; obtain ⟨dk, fv, HB⟩ := z_; clear hb ho21; obtain ⟨Ao23, co23, eo23⟩ := Kd.R_slice fv.out; subst eo23) | ((with_reducible refine gate_builtin (b := .append) (xs := #[.tmp 37, .tmp 51]) rfl ?_); at_builtin; refine Kd.R_append_rows (Kd.int .u8) (w0 := w) w.heap.size rfl (.tmp 37) (.tmp 51) 23 5 (.int .u8 0) 1 rfl Tryz.underlying23 info5 rfl (by decide) (by omega) i1 bF y227 _ _ _ (fun k_ => some k_ ≠ (.slice Ao23 y227.length co23 : Value).ownBlock) (fun _ => False) rfl rfl ?aO ?aR (fun _ _ h => h) (fun _ h => h.elim) ?aF ?aB ?aS ?aL ?_; (case aR => repeat (first | exact (Kd.R_reads' fv.out).2.2 | (with_reducible refine Kd.C_alloc ?_ _) | (with_reducible refine Kd.C_drewN ?_ _) | (with_reducible refine Kd.C_drew ?_))); (case aB => exact p0z); (case aF => exact (fun k_ hk => Kd.fresh' (Kd.R_lt (q0z fv.out)) k_ hk)); (case aO => exact p98z); (case aS => exact (below_size p0z)); (case aL => have := LMc18.out; omega); intro v231 w22 ho hb hg hat; rw [← Ny230.out] at ho; have z_ := asi3 (Kd.R_after (ok := (fun _ => True)) (q0z fv.out) hg hat) (hb) (ho); clear fv HB dk; obtain ⟨fv, HB, HO232⟩ := z_; clear ho hb hg hat))
  go_ret2
  exact ⟨_, p7z, by (with_reducible repeat (first | apply Kd.R_alloc | apply Kd.R_drewN | apply Kd.R_drew)); exact Kd.R_mono HO232.out (fun _ hk => trivial), p0z⟩
 rw [if_neg c17] at H
 have eF : decide (a1 < 65536) = false := decide_eq_false c17
 clear c17
 obtain ⟨y233, hy233⟩ : ∃ y_ : List Int, y_ = (([(240 + ((wrap64 (Int.tdiv a1 262144)) % 256)) % 256, (128 + ((Int.tmod (wrap64 (Int.tdiv a1 4096)) 64) % 256)) % 256, (128 + ((Int.tmod (wrap64 (Int.tdiv a1 64)) 64) % 256)) % 256, (128 + ((Int.tmod a1 64) % 256)) % 256] : List Int)) := ⟨_, rfl⟩
 replace H : (if bF.length + y233.length < 140737488355328 then (some ((bF ++ y233), 0)) else (none)) = some (r1, r2) := by first | (rw [hy233]; with_reducible exact H) | (have H2_ := (Option.bind_some _ _).symm.trans H; rw [hy233]; with_reducible exact H2_) | (have H2_ := (Option.bind_some _ _).symm.trans H; with_reducible exact H2_) | with_reducible exact H | (rw [hy233]; exact H) | exact H
 have Ny233 := Aside0.mk hy233
 clear hy233
 by_cases c24 : bF.length + y233.length < 140737488355328
 case neg =>
  rw [if_neg c24] at H
  exact absurd H (by simp)
 rw [if_pos c24] at H
 have LMc24 := Aside0.mk c24
 clear c24
 obtain ⟨y236, hy236⟩ : ∃ y_ : List Int, y_ = (bF ++ y233) := ⟨_, rfl⟩
 replace H : (some (y236, 0)) = some (r1, r2) := by first | (rw [hy236]; with_reducible exact H) | (have H2_ := (Option.bind_some _ _).symm.trans H; rw [hy236]; with_reducible exact H2_) | (have H2_ := (Option.bind_some _ _).symm.trans H; with_reducible exact H2_) | with_reducible exact H | (rw [hy236]; exact H) | exact H
 have Ny236 := Aside0.mk hy236
 clear hy236
 simp only [Option.some.injEq, Prod.mk.injEq] at H
 obtain ⟨rfl, rfl⟩ := H
 go_enter Tryz.func113, Tryz.ntmps113
 go_wp2_with (first | ((with_reducible refine gate_callee (f := 123) rfl ?_); refine goesL_ (some 8) rfl rfl Tryz.func123 p12z rfl #[.int .i64 a1] rfl p3z ?_; (with_reducible refine (aN.calls a1 true _ A3.out).mono ?_); rintro e w' ⟨rfl, ⟨nd, rfl⟩⟩; refine ⟨_, rfl, ?_⟩) | ((with_reducible refine gate_callee (f := 124) rfl ?_); refine goesL_ (some 11) rfl rfl Tryz.func124 p12z rfl #[.slice A0 l0.length c0] rfl p3z ?_; (with_reducible refine (aC.calls _ _ l0 bF _ ?side1 ?side2 A5.out).mono ?_); (case side1 => exact p41z); (case side2 => exact HC0.out); rintro e w25 ⟨i1, rfl, ho0, hb⟩; refine ⟨_, rfl, ?_⟩; have z_ := asi2 (Kd.R_lower ho0 (below_size p0z)) (below_step p0z hb); clear HB; obtain ⟨dk, HB⟩ := z_; (try clear hb hk ho0)) | ((with_reducible refine gate_dst (N := 72) rfl ?_); refine Kd.R_lit (Kd.int .u8) _ 5 ?hg (N := 72) ?hd (xs := ([(240 + ((wrap64 (Int.tdiv a1 262144)) % 256)) % 256, (128 + ((Int.tmod (wrap64 (Int.tdiv a1 4096)) 64) % 256)) % 256, (128 + ((Int.tmod (wrap64 (Int.tdiv a1 64)) 64) % 256)) % 256, (128 + ((Int.tmod a1 64) % 256)) % 256] : List Int)) (inner := [.int .u8 ((240 + ((wrap64 (Int.tdiv a1 262144)) % 256)) % 256), .int .u8 ((128 + ((Int.tmod (wrap64 (Int.tdiv a1 4096)) 64) % 256)) % 256), .int .u8 ((128 + ((Int.tmod (wrap64 (Int.tdiv a1 64)) 64) % 256)) % 256), .int .u8 ((128 + ((Int.tmod a1 64) % 256)) % 256)]) (ok := fun _ => True) (okp := fun _ => True) ?hr ?hp (fun _ hk => hk) trivial (Below.refl _ _) (Nat.le_refl _) (by simp) ?_; (case hd => rfl); (case hg => rfl); (case hr => exact p9z); (case hp => exact (Reps.one (show Kd.M (Kd.int .u8) _ _ _ ((240 + ((wrap64 (Int.tdiv a1 262144)) % 256)) % 256) [.int .u8 ((240 + ((wrap64 (Int.tdiv a1 262144)) % 256)) % 256)] from rfl) (Reps.one (show Kd.M (Kd.int .u8) _ _ _ ((128 + ((Int.tmod (wrap64 (Int.tdiv a1 4096)) 64) % 256)) % 256) [.int .u8 ((128 + ((Int.tmod (wrap64 (Int.tdiv a1 4096)) 64) % 256)) % 256)] from rfl) (Reps.one (show Kd.M (Kd.int .u8) _ _ _ ((128 + ((Int.tmod (wrap64 (Int.tdiv a1 64)) 64) % 256)) % 256) [.int .u8 ((128 + ((Int.tmod (wrap64 (Int.tdiv a1 64)) 64) % 256)) % 256)] from rfl) (Reps.one (show Kd.M (Kd.int .u8) _ _ _ ((128 + ((Int.tmod a1 64) % 256)) % 256) [.int .u8 ((128 + ((Int.tmod a1 64) % 256)) % 256)] from rfl) (Reps.none _ _)))))); intro v234 w26 ho27 hb hg_ hnew_; clear hg_ hnew_; (first | rw [← Ny233.out] at ho27 | (simp only [Int.reduceToNat] at ho27; rw [← Ny233.out] at ho27)); have z_ := asi3 (Kd.R_elder' p58z (Kd.R_base ho27) hb) (Kd.R_lower (Kd.R_new' ho27 (Kd.R_lt p58z)) (below_size p0z)) (below_step p0z hb); clear dk HB; obtain ⟨dk, fw, HB⟩ := z_; clear hb ho27; obtain ⟨Ao29, co29, eo29⟩ := Kd.R_slice fw.out; subst eo29) | ((with_reducible refine gate_builtin (b := .append) (xs := #[.tmp 53, .tmp 72]) rfl ?_); at_builtin; refine Kd.R_append_rows (Kd.int .u8) (w0 := w) w.heap.size rfl (.tmp 53) (.tmp 72) 23 5 (.int .u8 0) 1 rfl Tryz.underlying23 info5 rfl (by decide) (by omega) i1 bF y233 _ _ _ (fun k_ => some k_ ≠ (.slice Ao29 y233.length co29 : Value).ownBlock) (fun _ => False) rfl rfl ?aO ?aR (fun _ _ h => h) (fun _ h => h.elim) ?aF ?aB ?aS ?aL ?_; (case aR => repeat (first | exact (Kd.R_reads' fw.out).2.2 | (with_reducible refine Kd.C_alloc ?_ _) | (with_reducible refine Kd.C_drewN ?_ _) | (with_reducible refine Kd.C_drew ?_))); (case aB => exact p0z); (case aF => exact (fun k_ hk => Kd.fresh' (Kd.R_lt (q0z fw.out)) k_ hk)); (case aO => exact p98z); (case aS => exact (below_size p0z)); (case aL => have := LMc24.out; omega); intro v237 w28 ho hb hg hat; rw [← Ny236.out] at ho; have z_ := asi3 (Kd.R_after (ok := (fun _ => True)) (q0z fw.out) hg hat) (hb) (ho); clear fw HB dk; obtain ⟨fw, HB, HO238⟩ := z_; clear ho hb hg hat))
 go_ret2
 exact ⟨_, p7z, by (with_reducible repeat (first | apply Kd.R_alloc | apply Kd.R_drewN | apply Kd.R_drew)); exact Kd.R_mono HO238.out (fun _ hk => trivial), p0z⟩
/-! ### aJ: function 122 -/
def aJ.f (l0 : List Int) (l1 : List Int) : Option (Bool) := some ((strOfNums l0).toList == (strOfNums l1).toList)
theorem aJ.calls (A0 : Option Addr) (c0 : Nat) (l0 : List Int) (A1 : Option Addr) (c1 : Nat) (l1 : List Int) (r : Bool) (w : World) (hr0 : Kd.C (Kd.int .u8) w A0 l0.length l0) (hc0 : l0.length ≤ c0) (hr1 : Kd.C (Kd.int .u8) w A1 l1.length l1) (hc1 : l1.length ≤ c1) (h : aJ.f l0 l1 = some r) :
    Calls Tryz.prog 122 #[.slice A0 l0.length c0, .slice A1 l1.length c1] w fun e w' => e = .returned (.bool r) ∧ Drawn0 w w' := by
  have HR0 := Aside0.mk hr0
  have HC0 := Aside0.mk hc0
  clear hr0 hc0
  have HR1 := Aside0.mk hr1
  have HC1 := Aside0.mk hc1
  clear hr1 hc1
  have H : (some ((strOfNums l0).toList == (strOfNums l1).toList)) = some r := h
  clear h
  obtain rfl := Option.some.inj H
  have hcv3 := Kd.C_string (P := Tryz.prog) (A := A0) (c := c0) Tryz.underlying23 Tryz.underlying5 Tryz.underlying9 HR0.out
  have hcv4 := Kd.C_string (P := Tryz.prog) (A := A1) (c := c1) Tryz.underlying23 Tryz.underlying5 Tryz.underlying9 HR1.out
  go_enter Tryz.func122, Tryz.ntmps122
  go_wp2
  go_ret
  exact ⟨p5z, p17z⟩

/-! ### ai: function 111 -/
mutual
def ai.j0 : Nat → List Int → Int → Int → Option (Int × Int)
  | 0, _, _, _ => none
  | k + 1, x0, x4, x5 => ai.l0 k x0 x4 x5 1
def ai.j2 : Nat → List Int → Int → Int → Option (Int × Int)
  | 0, _, _, _ => none
  | k + 1, x0, x4, x5 => (az.f ([] : List Int) x5).bind fun bt247 => (if bt247.2 = 0 then (if x4 > (x0.length : Int) then (some (0, 0)) else (if 0 ≤ x4 then (if x4 ≤ (x0.length : Int) then ((aJ.f bt247.1 (x0.take (x4 : Int).toNat)).bind fun j6 => (if j6 = true then (some (x5, x4)) else (some (0, 0)))) else (none)) else (none))) else (some (0, 0)))
def ai.l0 : Nat → List Int → Int → Int → Int → Option (Int × Int)
  | 0, _, _, _, _ => none
  | k + 1, x0, x4, x5, x6 => if x6 < x4 then (if x6 < (x0.length : Int) then (if 0 ≤ x6 then (ai.l0 k x0 x4 (wrap64 ((wrap64 (64 * x5)) + (wrap64 (Int.tmod (rd x0 x6) 64)))) (wrap64 (x6 + 1))) else (none)) else (ai.j2 k x0 x4 x5)) else (ai.j2 k x0 x4 x5)
end
def ai.f (k : Nat) (l0 : List Int) : Option (Int × Int) := if 0 < (l0.length : Int) then (if (rd l0 0) ≥ 240 then (ai.j0 k l0 4 (wrap64 (Int.tmod (rd l0 0) 8))) else (if (rd l0 0) ≥ 224 then (ai.j0 k l0 3 (wrap64 (Int.tmod (rd l0 0) 16))) else (if (rd l0 0) ≥ 192 then (ai.j0 k l0 2 (wrap64 (Int.tmod (rd l0 0) 32))) else (ai.j0 k l0 1 (wrap64 (rd l0 0)))))) else (none)
theorem ai.calls (k : Nat) (A0 : Option Addr) (c0 : Nat) (l0 : List Int) (r1 : Int) (r2 : Int) (w : World) (hr0 : Kd.C (Kd.int .u8) w A0 l0.length l0) (hc0 : l0.length ≤ c0) (h : ai.f k l0 = some (r1, r2)) :
 Calls Tryz.prog 111 #[.slice A0 l0.length c0] w fun e w' => e = .returned (.tuple #[.int .i64 r1, .int .i64 r2]) ∧ Below w.heap.size w w' := by
 have HR0 := Aside0.mk hr0
 have HC0 := Aside0.mk hc0
 clear hr0 hc0
 have HB := Aside0.mk (Below.refl w.heap.size w)
 have H : (if 0 < (l0.length : Int) then (if (rd l0 0) ≥ 240 then (ai.j0 k l0 4 (wrap64 (Int.tmod (rd l0 0) 8))) else (if (rd l0 0) ≥ 224 then (ai.j0 k l0 3 (wrap64 (Int.tmod (rd l0 0) 16))) else (if (rd l0 0) ≥ 192 then (ai.j0 k l0 2 (wrap64 (Int.tmod (rd l0 0) 32))) else (ai.j0 k l0 1 (wrap64 (rd l0 0)))))) else (none)) = some (r1, r2) := h
 clear h
 by_cases c2 : 0 < (l0.length : Int)
 case neg =>
  rw [if_neg c2] at H
  exact absurd H (by simp)

 rw [if_pos c2] at H
 have eQ : decide (0 < (l0.length : Int)) = true := decide_eq_true c2
 have gv : decide (0 < l0.length) = true := decide_eq_true (by omega)
 clear c2
 have HC3 := Aside0.mk H
 clear H
 have p239 : 0 ≤ (0 : Int) := (by omega)
 have q239 : 0 < (l0.length : Int) := of_decide_eq_true p4z
 obtain ⟨ad239, e239, hx239_0⟩ := Kd.at_int HR0.out 0 p239 q239
 cases e239
 have qi239 : (0 < l0.length) = True := eq_true (by omega)
 (try rw [show ((0 : Int)).toNat = 0 from rfl] at hx239_0)
 (try rw [Addr.add_zero'] at hx239_0)
 replace p239 := eq_true p239
 replace q239 := eq_true q239
 go_enter Tryz.func111, Tryz.ntmps111
 go_upto_block 0 with (fail)
 repeat (go_quiet (fail); go_upto_block 0 with (fail))
 go_cut [4, 5] (fun v4 v5 wc => ∃ (kq : Nat) (cb : Int) (aM : Int), v4 = .int .i64 cb ∧ v5 = .int .i64 aM ∧ Aside0 (ai.j0 kq l0 cb aM = some (r1, r2)) ∧ Aside0 (kq ≤ k) ∧ Aside0 (Below w.heap.size w wc))
 case first =>
  have H := HC3.out
  clear HC3
  by_cases c4 : (rd l0 0) ≥ 240
  case pos =>
   rw [if_pos c4] at H
   have dd : decide (240 ≤ (rd l0 0)) = true := decide_eq_true c4
   clear c4
   (first | rw [dd] | (simp only [i64_w, i32_w]; rw [dd]) | skip)
   have H' := Aside0.mk H
   clear H
   have p240 : 0 ≤ (0 : Int) := (by omega)
   have q240 : 0 < (l0.length : Int) := of_decide_eq_true p4z
   obtain ⟨ad240, e240, hx240_0⟩ := Kd.at_int HR0.out 0 p240 q240
   obtain rfl : ad239 = ad240 := (by injection e240)
   have qi240 : (0 < l0.length) = True := eq_true (by omega)
   (try rw [show ((0 : Int)).toNat = 0 from rfl] at hx240_0)
   (try rw [Addr.add_zero'] at hx240_0)
   replace hx240_0 := (HB.out.cell (World.block_lt_of_cell? w _ hx240_0)).trans hx240_0
   replace p240 := eq_true p240
   replace q240 := eq_true q240
   have p241 : 0 ≤ (0 : Int) := (by omega)
   have q241 : 0 < (l0.length : Int) := of_decide_eq_true p4z
   obtain ⟨ad241, e241, hx241_0⟩ := Kd.at_int HR0.out 0 p241 q241
   obtain rfl : ad239 = ad241 := (by injection e241)
   have qi241 : (0 < l0.length) = True := eq_true (by omega)
   (try rw [show ((0 : Int)).toNat = 0 from rfl] at hx241_0)
   (try rw [Addr.add_zero'] at hx241_0)
   replace hx241_0 := (HB.out.cell (World.block_lt_of_cell? w _ hx241_0)).trans hx241_0
   replace p241 := eq_true p241
   replace q241 := eq_true q241
   go_wp2
   repeat (go_quiet (fail); try go_wp2)
   go_meet
   case rel => exact ⟨_, (4), (wrap64 (Int.tmod (rd l0 0) 8)), p5z, p5z, H', ⟨p81z⟩, ⟨p0z⟩⟩
  rw [if_neg c4] at H
  have dd : decide (240 ≤ (rd l0 0)) = false := decide_eq_false c4
  clear c4
  (first | rw [dd] | (simp only [i64_w, i32_w]; rw [dd]) | skip)
  by_cases c5 : (rd l0 0) ≥ 224
  case pos =>
   rw [if_pos c5] at H
   have dE : decide (224 ≤ (rd l0 0)) = true := decide_eq_true c5
   clear c5
   have H' := Aside0.mk H
   clear H
   have p240 : 0 ≤ (0 : Int) := (by omega)
   have q240 : 0 < (l0.length : Int) := of_decide_eq_true p4z
   obtain ⟨ad240, e240, hx240_0⟩ := Kd.at_int HR0.out 0 p240 q240
   obtain rfl : ad239 = ad240 := (by injection e240)
   have qi240 : (0 < l0.length) = True := eq_true (by omega)
   (try rw [show ((0 : Int)).toNat = 0 from rfl] at hx240_0)
   (try rw [Addr.add_zero'] at hx240_0)
   replace hx240_0 := (HB.out.cell (World.block_lt_of_cell? w _ hx240_0)).trans hx240_0
   replace p240 := eq_true p240
   replace q240 := eq_true q240
   have p242 : 0 ≤ (0 : Int) := (by omega)
   have q242 : 0 < (l0.length : Int) := of_decide_eq_true p4z
   obtain ⟨ad242, e242, hx242_0⟩ := Kd.at_int HR0.out 0 p242 q242
   obtain rfl : ad239 = ad242 := (by injection e242)
   have qi242 : (0 < l0.length) = True := eq_true (by omega)
   (try rw [show ((0 : Int)).toNat = 0 from rfl] at hx242_0)
   (try rw [Addr.add_zero'] at hx242_0)
   replace hx242_0 := (HB.out.cell (World.block_lt_of_cell? w _ hx242_0)).trans hx242_0
   replace p242 := eq_true p242
   replace q242 := eq_true q242
   have p243 : 0 ≤ (0 : Int) := (by omega)
   have q243 : 0 < (l0.length : Int) := of_decide_eq_true p4z
   obtain ⟨ad243, e243, hx243_0⟩ := Kd.at_int HR0.out 0 p243 q243
   obtain rfl : ad239 = ad243 := (by injection e243)
   have qi243 : (0 < l0.length) = True := eq_true (by omega)
   (try rw [show ((0 : Int)).toNat = 0 from rfl] at hx243_0)
   (try rw [Addr.add_zero'] at hx243_0)
   replace hx243_0 := (HB.out.cell (World.block_lt_of_cell? w _ hx243_0)).trans hx243_0
   replace p243 := eq_true p243
   replace q243 := eq_true q243
   go_wp2
   repeat (go_quiet (fail); try go_wp2)
   go_meet
   case rel => exact ⟨_, (3), (wrap64 (Int.tmod (rd l0 0) 16)), p5z, p5z, H', ⟨p81z⟩, ⟨p0z⟩⟩
  rw [if_neg c5] at H
  have dE : decide (224 ≤ (rd l0 0)) = false := decide_eq_false c5
  clear c5
  by_cases c6 : (rd l0 0) ≥ 192
  case neg =>
   rw [if_neg c6] at H
   have df : decide (192 ≤ (rd l0 0)) = false := decide_eq_false c6
   clear c6
   have H' := Aside0.mk H
   clear H
   have p240 : 0 ≤ (0 : Int) := (by omega)
   have q240 : 0 < (l0.length : Int) := of_decide_eq_true p4z
   obtain ⟨ad240, e240, hx240_0⟩ := Kd.at_int HR0.out 0 p240 q240
   obtain rfl : ad239 = ad240 := (by injection e240)
   have qi240 : (0 < l0.length) = True := eq_true (by omega)
   (try rw [show ((0 : Int)).toNat = 0 from rfl] at hx240_0)
   (try rw [Addr.add_zero'] at hx240_0)
   replace hx240_0 := (HB.out.cell (World.block_lt_of_cell? w _ hx240_0)).trans hx240_0
   replace p240 := eq_true p240
   replace q240 := eq_true q240
   have p242 : 0 ≤ (0 : Int) := (by omega)
   have q242 : 0 < (l0.length : Int) := of_decide_eq_true p4z
   obtain ⟨ad242, e242, hx242_0⟩ := Kd.at_int HR0.out 0 p242 q242
   obtain rfl : ad239 = ad242 := (by injection e242)
   have qi242 : (0 < l0.length) = True := eq_true (by omega)
   (try rw [show ((0 : Int)).toNat = 0 from rfl] at hx242_0)
   (try rw [Addr.add_zero'] at hx242_0)
   replace hx242_0 := (HB.out.cell (World.block_lt_of_cell? w _ hx242_0)).trans hx242_0
   replace p242 := eq_true p242
   replace q242 := eq_true q242
   have p244 : 0 ≤ (0 : Int) := (by omega)
   have q244 : 0 < (l0.length : Int) := of_decide_eq_true p4z
   obtain ⟨ad244, e244, hx244_0⟩ := Kd.at_int HR0.out 0 p244 q244
   obtain rfl : ad239 = ad244 := (by injection e244)
   have qi244 : (0 < l0.length) = True := eq_true (by omega)
   (try rw [show ((0 : Int)).toNat = 0 from rfl] at hx244_0)
   (try rw [Addr.add_zero'] at hx244_0)
   replace hx244_0 := (HB.out.cell (World.block_lt_of_cell? w _ hx244_0)).trans hx244_0
   replace p244 := eq_true p244
   replace q244 := eq_true q244
   go_wp2
   repeat (go_quiet (fail); try go_wp2)
   go_meet
   case rel => exact ⟨_, (1), (wrap64 (rd l0 0)), p5z, p5z, H', ⟨p81z⟩, ⟨p0z⟩⟩
  rw [if_pos c6] at H
  have df : decide (192 ≤ (rd l0 0)) = true := decide_eq_true c6
  clear c6
  have H' := Aside0.mk H
  clear H
  have p240 : 0 ≤ (0 : Int) := (by omega)
  have q240 : 0 < (l0.length : Int) := of_decide_eq_true p4z
  obtain ⟨ad240, e240, hx240_0⟩ := Kd.at_int HR0.out 0 p240 q240
  obtain rfl : ad239 = ad240 := (by injection e240)
  have qi240 : (0 < l0.length) = True := eq_true (by omega)
  (try rw [show ((0 : Int)).toNat = 0 from rfl] at hx240_0)
  (try rw [Addr.add_zero'] at hx240_0)
  replace hx240_0 := (HB.out.cell (World.block_lt_of_cell? w _ hx240_0)).trans hx240_0
  replace p240 := eq_true p240
  replace q240 := eq_true q240
  have p242 : 0 ≤ (0 : Int) := (by omega)
  have q242 : 0 < (l0.length : Int) := of_decide_eq_true p4z
  obtain ⟨ad242, e242, hx242_0⟩ := Kd.at_int HR0.out 0 p242 q242
  obtain rfl : ad239 = ad242 := (by injection e242)
  have qi242 : (0 < l0.length) = True := eq_true (by omega)
  (try rw [show ((0 : Int)).toNat = 0 from rfl] at hx242_0)
  (try rw [Addr.add_zero'] at hx242_0)
  replace hx242_0 := (HB.out.cell (World.block_lt_of_cell? w _ hx242_0)).trans hx242_0
  replace p242 := eq_true p242
  replace q242 := eq_true q242
  have p244 : 0 ≤ (0 : Int) := (by omega)
  have q244 : 0 < (l0.length : Int) := of_decide_eq_true p4z
  obtain ⟨ad244, e244, hx244_0⟩ := Kd.at_int HR0.out 0 p244 q244
  obtain rfl : ad239 = ad244 := (by injection e244)
  have qi244 : (0 < l0.length) = True := eq_true (by omega)
  (try rw [show ((0 : Int)).toNat = 0 from rfl] at hx244_0)
  (try rw [Addr.add_zero'] at hx244_0)
  replace hx244_0 := (HB.out.cell (World.block_lt_of_cell? w _ hx244_0)).trans hx244_0
  replace p244 := eq_true p244
  replace q244 := eq_true q244
  have p245 : 0 ≤ (0 : Int) := (by omega)
  have q245 : 0 < (l0.length : Int) := of_decide_eq_true p4z
  obtain ⟨ad245, e245, hx245_0⟩ := Kd.at_int HR0.out 0 p245 q245
  obtain rfl : ad239 = ad245 := (by injection e245)
  have qi245 : (0 < l0.length) = True := eq_true (by omega)
  (try rw [show ((0 : Int)).toNat = 0 from rfl] at hx245_0)
  (try rw [Addr.add_zero'] at hx245_0)
  replace hx245_0 := (HB.out.cell (World.block_lt_of_cell? w _ hx245_0)).trans hx245_0
  replace p245 := eq_true p245
  replace q245 := eq_true q245
  go_wp2
  repeat (go_quiet (fail); try go_wp2)
  go_meet
  case rel => exact ⟨_, (2), (wrap64 (Int.tmod (rd l0 0) 32)), p5z, p5z, H', ⟨p81z⟩, ⟨p0z⟩⟩
 case rest =>
  clear HC3
  try clear eQ
  try clear gv
  try clear hx239_0
  try clear p239
  try clear q239
  obtain ⟨kq, cb, aM, rfl, rfl, HA, HJ2, HB⟩ := hcut
  cases kq with
  | zero => exact absurd HA.out (by simp [ai.j0])
  | succ kj2 =>
   have H := HA.out
   clear HA
   simp only [ai.j0] at H
   have HC7 := Aside0.mk H
   clear H
   go_upto_block 1 with (fail)
   repeat (go_quiet (fail); go_upto_block 1 with (fail))
   go_cut [5] (fun v5 wc => ∃ (kq : Nat) (dJ : Int), v5 = .int .i64 dJ ∧ Aside0 (ai.j2 kq l0 cb dJ = some (r1, r2)) ∧ Aside0 (kq ≤ kj2) ∧ Aside0 (Below w.heap.size w wc))
   case first =>
    have H := HC7.out
    clear HC7
    have H' := Aside0.mk H
    clear H
    go_wp2
    repeat (go_quiet (fail); try go_wp2)
    go_loopg [5, 6] kj2 (fun kq v5 v6 w' => ∃ (aM : Int) (bO : Int), v5 = .int .i64 aM ∧ v6 = .int .i64 bO ∧ Aside0 (ai.l0 kq l0 cb aM bO = some (r1, r2)) ∧ Aside0 (kq ≤ kj2) ∧ Aside0 (Below w.heap.size w w'))
    case atStart => exact ⟨(aM), (1), p5z, p5z, H', ⟨Nat.le_refl _⟩, ⟨p0z⟩⟩
    case round =>
     clear H'
     obtain ⟨aM, bO, rfl, rfl, HA, HK2, HB⟩ := hrel
     cases gk with
     | zero => exact absurd HA.out (by simp [ai.l0])
     | succ k2 =>
      have H := HA.out
      clear HA
      simp only [ai.l0] at H
      by_cases c8 : bO < cb
      case neg =>
       rw [if_neg c8] at H
       have dK : decide (bO < cb) = false := decide_eq_false c8
       clear c8
       (first | rw [dK] | (simp only [i64_w, i32_w]; rw [dK]) | skip)
       have H' := Aside0.mk H
       clear H
       go_wp2
       repeat (go_quiet (fail); try go_wp2)
       go_meet
       case rel => exact ⟨_, (aM), p5z, H', ⟨by have := HJ2.out; have := HK2.out; first | omega | exact Nat.le_refl _⟩, ⟨p0z⟩⟩
      rw [if_pos c8] at H
      have dK : decide (bO < cb) = true := decide_eq_true c8
      clear c8
      (first | rw [dK] | (simp only [i64_w, i32_w]; rw [dK]) | skip)
      by_cases c9 : bO < (l0.length : Int)
      case neg =>
       rw [if_neg c9] at H
       have f5 : decide (bO < (l0.length : Int)) = false := decide_eq_false c9
       clear c9
       have H' := Aside0.mk H
       clear H
       go_wp2
       repeat (go_quiet (fail); try go_wp2)
       go_meet
       case rel => exact ⟨_, (aM), p5z, H', ⟨by have := HJ2.out; have := HK2.out; first | omega | exact Nat.le_refl _⟩, ⟨p0z⟩⟩
      rw [if_pos c9] at H
      have f5 : decide (bO < (l0.length : Int)) = true := decide_eq_true c9
      clear c9
      by_cases c10 : 0 ≤ bO
      case neg =>
       rw [if_neg c10] at H
       exact absurd H (by simp)
      rw [if_pos c10] at H
      have eE : decide (0 ≤ bO) = true := decide_eq_true c10
      clear c10
      have H' := Aside0.mk H
      clear H
      have p246 : 0 ≤ (bO : Int) := of_decide_eq_true p4z
      have q246 : bO < (l0.length : Int) := of_decide_eq_true p4z
      obtain ⟨ad246, e246, hx246_0⟩ := Kd.at_int HR0.out bO p246 q246
      obtain rfl : ad239 = ad246 := (by injection e246)
      replace hx246_0 := (HB.out.cell (World.block_lt_of_cell? w _ hx246_0)).trans hx246_0
      replace p246 := eq_true p246
      replace q246 := eq_true q246
      go_wp2
      repeat (go_quiet (fail); try go_wp2)
      go_roundg k2
      case measure => have := HJ2.out; have := HK2.out; omega
      case rel => exact ⟨(wrap64 ((wrap64 (64 * aM)) + (wrap64 (Int.tmod (rd l0 bO) 64)))), (wrap64 (bO + 1)), p5z, p5z, H', ⟨by have := HJ2.out; have := HK2.out; omega⟩, ⟨p0z⟩⟩
   case rest =>
    clear HC7
    obtain ⟨kq, dJ, rfl, HA, HJ6, HB⟩ := hcut
    cases kq with
    | zero => exact absurd HA.out (by simp [ai.j2])
    | succ kj6 =>
     have H := HA.out
     clear HA
     simp only [ai.j2] at H
     replace H := Option.bind_eq_some_iff.mp H
     obtain ⟨⟨da, dL⟩, A110, H⟩ := H
     replace H : (if dL = 0 then (if cb > (l0.length : Int) then (some (0, 0)) else (if 0 ≤ cb then (if cb ≤ (l0.length : Int) then ((aJ.f da (l0.take (cb : Int).toNat)).bind fun j6 => (if j6 = true then (some (dJ, cb)) else (some (0, 0)))) else (none)) else (none))) else (some (0, 0))) = some (r1, r2) := H
     have A11 := Aside0.mk A110
     clear A110
     by_cases c12 : dL = 0
     case neg =>
      rw [if_neg c12] at H
      have jn : (dL == 0) = false := beq_eq_false_iff_ne.mpr c12
      have jo : (dL != 0) = true := bne_iff_ne.mpr c12
      simp only [Option.some.injEq, Prod.mk.injEq] at H
      obtain ⟨rfl, rfl⟩ := H
      go_wp2_with (first | (go_at_call 113; (refine (az.calls _ _ ([] : List Int) dJ da dL _ ?side1 ?side2 A11.out).mono ?_); (case side1 => exact Kd.C_nil _ _); (case side2 => exact Nat.le_refl _); rintro e w25 ⟨f6, rfl, ho0, hb⟩; have z_ := asi2 (Kd.R_lower ho0 (below_size p0z)) (below_step p0z hb); clear HB; obtain ⟨cC, HB⟩ := z_; (try clear hb ho0)))
      repeat (go_quiet (first | (go_at_call 113; (refine (az.calls _ _ ([] : List Int) dJ da dL _ ?side1 ?side2 A11.out).mono ?_); (case side1 => exact Kd.C_nil _ _); (case side2 => exact Nat.le_refl _); rintro e w25 ⟨f6, rfl, ho0, hb⟩; have z_ := asi2 (Kd.R_lower ho0 (below_size p0z)) (below_step p0z hb); clear HB; obtain ⟨cC, HB⟩ := z_; (try clear hb ho0))); try go_wp2_with (first | (go_at_call 113; (refine (az.calls _ _ ([] : List Int) dJ da dL _ ?side1 ?side2 A11.out).mono ?_); (case side1 => exact Kd.C_nil _ _); (case side2 => exact Nat.le_refl _); rintro e w25 ⟨f6, rfl, ho0, hb⟩; have z_ := asi2 (Kd.R_lower ho0 (below_size p0z)) (below_step p0z hb); clear HB; obtain ⟨cC, HB⟩ := z_; (try clear hb ho0))))
      go_ret2
      exact ⟨p7z, p0z⟩
     rw [if_pos c12] at H
     have jn : (dL == 0) = true := beq_iff_eq.mpr c12
     have jo : (dL != 0) = false := bne_eq_false_iff_eq.mpr c12
     clear c12
     by_cases c13 : cb > (l0.length : Int)
     case pos =>
      rw [if_pos c13] at H
      have jp : decide ((l0.length : Int) < cb) = true := decide_eq_true c13
      clear c13
      simp only [Option.some.injEq, Prod.mk.injEq] at H
      obtain ⟨rfl, rfl⟩ := H
      go_wp2_with (first | (go_at_call 113; (refine (az.calls _ _ ([] : List Int) dJ da dL _ ?side1 ?side2 A11.out).mono ?_); (case side1 => exact Kd.C_nil _ _); (case side2 => exact Nat.le_refl _); rintro e w14 ⟨f6, rfl, ho0, hb⟩; have z_ := asi2 (Kd.R_lower ho0 (below_size p0z)) (below_step p0z hb); clear HB; obtain ⟨cC, HB⟩ := z_; (try clear hb ho0)))
      repeat (go_quiet (first | (go_at_call 113; (refine (az.calls _ _ ([] : List Int) dJ da dL _ ?side1 ?side2 A11.out).mono ?_); (case side1 => exact Kd.C_nil _ _); (case side2 => exact Nat.le_refl _); rintro e w14 ⟨f6, rfl, ho0, hb⟩; have z_ := asi2 (Kd.R_lower ho0 (below_size p0z)) (below_step p0z hb); clear HB; obtain ⟨cC, HB⟩ := z_; (try clear hb ho0))); try go_wp2_with (first | (go_at_call 113; (refine (az.calls _ _ ([] : List Int) dJ da dL _ ?side1 ?side2 A11.out).mono ?_); (case side1 => exact Kd.C_nil _ _); (case side2 => exact Nat.le_refl _); rintro e w14 ⟨f6, rfl, ho0, hb⟩; have z_ := asi2 (Kd.R_lower ho0 (below_size p0z)) (below_step p0z hb); clear HB; obtain ⟨cC, HB⟩ := z_; (try clear hb ho0))))
      go_ret2
      exact ⟨p7z, p0z⟩
     rw [if_neg c13] at H
     have jp : decide ((l0.length : Int) < cb) = false := decide_eq_false c13
     clear c13
     by_cases c15 : 0 ≤ cb
     case neg =>
      rw [if_neg c15] at H
      exact absurd H (by simp)
     rw [if_pos c15] at H
     have dA := eq_true c15
     have c15b1 : decide (0 ≤ cb) = true := decide_eq_true c15
     clear c15
     by_cases c16 : cb ≤ (l0.length : Int)
     case neg =>
      rw [if_neg c16] at H
      exact absurd H (by simp)
     rw [if_pos c16] at H
     have fx := eq_true c16
     have c16b1 : decide (cb ≤ (l0.length : Int)) = true := decide_eq_true c16
     clear c16
     replace H := Option.bind_eq_some_iff.mp H
     obtain ⟨j6, A170, H⟩ := H
     replace H : (if j6 = true then (some (dJ, cb)) else (some (0, 0))) = some (r1, r2) := H
     have A17 := Aside0.mk A170
     clear A170
     by_cases c18 : j6 = true
     case pos =>
      subst c18
      have H1 : (some (dJ, cb)) = some (r1, r2) := p72z
      clear H
      have H := H1
      clear H1
      simp only [Option.some.injEq, Prod.mk.injEq] at H
      obtain ⟨rfl, rfl⟩ := H
      go_wp2_with (first | (go_at_call 113; (refine (az.calls _ _ ([] : List Int) dJ da dL _ ?side1 ?side2 A11.out).mono ?_); (case side1 => exact Kd.C_nil _ _); (case side2 => exact Nat.le_refl _); rintro e w19 ⟨f6, rfl, ho0, hb⟩; have z_ := asi2 (Kd.R_lower ho0 (below_size p0z)) (below_step p0z hb); clear HB; obtain ⟨cC, HB⟩ := z_; (try clear hb ho0); obtain ⟨i020, hi020, _, hsz20, _⟩ := info_parts info5; obtain ⟨hcut20, hA20, hC20⟩ := print_take_of (P := Tryz.prog) (Value.int .u8) 0 23 5 .i64 Tryz.underlying23 hi020 hsz20 (some ad239) c0 l0 cb (of_decide_eq_true p4z) (of_decide_eq_true p4z) HC0.out; have HR251 := Aside0.mk (Kd.C_of_reads (h1 := fun _ => rfl) (hA20 _ (Kd.reads_of_C HR0.out))); have HC251 := Aside0.mk hC20; clear hA20 hC20 hi020 hsz20; obtain ⟨ey, co21, eo21⟩ := Kd.R_slice cC.out; subst eo21) | (go_at_call 122; refine calls_of_args (args' := #[.slice ey da.length co21, .slice (some ad239) (l0.take (cb : Int).toNat).length c0]) p16z ?_; (with_reducible refine (aJ.calls _ _ da _ _ (l0.take (cb : Int).toNat) true _ ?side1 ?side2 ?side3 ?side4 A17.out).mono ?_); (case side1 => exact p43z); (case side2 => exact (Kd.R_reads' cC.out).2.1); (case side3 => exact p42z); (case side4 => exact HC251.out); rintro e w' ⟨rfl, ⟨nd, rfl⟩⟩; (try first | exact ⟨rfl, _, World.drewN_drewN _ _ _⟩ | exact ⟨rfl, _, Eq.trans (World.drewN_drewN _ _ _) (congrArg (World.drewN _) (Nat.add_assoc _ _ _))⟩)))
      repeat (go_quiet (first | (go_at_call 113; (refine (az.calls _ _ ([] : List Int) dJ da dL _ ?side1 ?side2 A11.out).mono ?_); (case side1 => exact Kd.C_nil _ _); (case side2 => exact Nat.le_refl _); rintro e w19 ⟨f6, rfl, ho0, hb⟩; have z_ := asi2 (Kd.R_lower ho0 (below_size p0z)) (below_step p0z hb); clear HB; obtain ⟨cC, HB⟩ := z_; (try clear hb ho0); obtain ⟨i020, hi020, _, hsz20, _⟩ := info_parts info5; obtain ⟨hcut20, hA20, hC20⟩ := print_take_of (P := Tryz.prog) (Value.int .u8) 0 23 5 .i64 Tryz.underlying23 hi020 hsz20 (some ad239) c0 l0 cb (of_decide_eq_true p4z) (of_decide_eq_true p4z) HC0.out; have HR251 := Aside0.mk (Kd.C_of_reads (h1 := fun _ => rfl) (hA20 _ (Kd.reads_of_C HR0.out))); have HC251 := Aside0.mk hC20; clear hA20 hC20 hi020 hsz20; obtain ⟨ey, co21, eo21⟩ := Kd.R_slice cC.out; subst eo21) | (go_at_call 122; refine calls_of_args (args' := #[.slice ey da.length co21, .slice (some ad239) (l0.take (cb : Int).toNat).length c0]) p16z ?_; (with_reducible refine (aJ.calls _ _ da _ _ (l0.take (cb : Int).toNat) true _ ?side1 ?side2 ?side3 ?side4 A17.out).mono ?_); (case side1 => exact p43z); (case side2 => exact (Kd.R_reads' cC.out).2.1); (case side3 => exact p42z); (case side4 => exact HC251.out); rintro e w' ⟨rfl, ⟨nd, rfl⟩⟩; (try first | exact ⟨rfl, _, World.drewN_drewN _ _ _⟩ | exact ⟨rfl, _, Eq.trans (World.drewN_drewN _ _ _) (congrArg (World.drewN _) (Nat.add_assoc _ _ _))⟩))); try go_wp2_with (first | (go_at_call 113; (refine (az.calls _ _ ([] : List Int) dJ da dL _ ?side1 ?side2 A11.out).mono ?_); (case side1 => exact Kd.C_nil _ _); (case side2 => exact Nat.le_refl _); rintro e w19 ⟨f6, rfl, ho0, hb⟩; have z_ := asi2 (Kd.R_lower ho0 (below_size p0z)) (below_step p0z hb); clear HB; obtain ⟨cC, HB⟩ := z_; (try clear hb ho0); obtain ⟨i020, hi020, _, hsz20, _⟩ := info_parts info5; obtain ⟨hcut20, hA20, hC20⟩ := print_take_of (P := Tryz.prog) (Value.int .u8) 0 23 5 .i64 Tryz.underlying23 hi020 hsz20 (some ad239) c0 l0 cb (of_decide_eq_true p4z) (of_decide_eq_true p4z) HC0.out; have HR251 := Aside0.mk (Kd.C_of_reads (h1 := fun _ => rfl) (hA20 _ (Kd.reads_of_C HR0.out))); have HC251 := Aside0.mk hC20; clear hA20 hC20 hi020 hsz20; obtain ⟨ey, co21, eo21⟩ := Kd.R_slice cC.out; subst eo21) | (go_at_call 122; refine calls_of_args (args' := #[.slice ey da.length co21, .slice (some ad239) (l0.take (cb : Int).toNat).length c0]) p16z ?_; (with_reducible refine (aJ.calls _ _ da _ _ (l0.take (cb : Int).toNat) true _ ?side1 ?side2 ?side3 ?side4 A17.out).mono ?_); (case side1 => exact p43z); (case side2 => exact (Kd.R_reads' cC.out).2.1); (case side3 => exact p42z); (case side4 => exact HC251.out); rintro e w' ⟨rfl, ⟨nd, rfl⟩⟩; (try first | exact ⟨rfl, _, World.drewN_drewN _ _ _⟩ | exact ⟨rfl, _, Eq.trans (World.drewN_drewN _ _ _) (congrArg (World.drewN _) (Nat.add_assoc _ _ _))⟩))))
      go_ret2
      exact ⟨p7z, p0z⟩
     replace c18 := Bool.eq_false_iff.mpr c18
     subst c18
     have H1 : (some (0, 0)) = some (r1, r2) := p39z
     clear H
     have H := H1
     clear H1
     simp only [Option.some.injEq, Prod.mk.injEq] at H
     obtain ⟨rfl, rfl⟩ := H
     go_wp2_with (first | (go_at_call 113; (refine (az.calls _ _ ([] : List Int) dJ da dL _ ?side1 ?side2 A11.out).mono ?_); (case side1 => exact Kd.C_nil _ _); (case side2 => exact Nat.le_refl _); rintro e w22 ⟨f6, rfl, ho0, hb⟩; have z_ := asi2 (Kd.R_lower ho0 (below_size p0z)) (below_step p0z hb); clear HB; obtain ⟨cC, HB⟩ := z_; (try clear hb ho0); obtain ⟨i023, hi023, _, hsz23, _⟩ := info_parts info5; obtain ⟨hcut23, hA23, hC23⟩ := print_take_of (P := Tryz.prog) (Value.int .u8) 0 23 5 .i64 Tryz.underlying23 hi023 hsz23 (some ad239) c0 l0 cb (of_decide_eq_true p4z) (of_decide_eq_true p4z) HC0.out; have HR251 := Aside0.mk (Kd.C_of_reads (h1 := fun _ => rfl) (hA23 _ (Kd.reads_of_C HR0.out))); have HC251 := Aside0.mk hC23; clear hA23 hC23 hi023 hsz23; obtain ⟨fl, co24, eo24⟩ := Kd.R_slice cC.out; subst eo24) | (go_at_call 122; refine calls_of_args (args' := #[.slice fl da.length co24, .slice (some ad239) (l0.take (cb : Int).toNat).length c0]) p16z ?_; (with_reducible refine (aJ.calls _ _ da _ _ (l0.take (cb : Int).toNat) false _ ?side1 ?side2 ?side3 ?side4 A17.out).mono ?_); (case side1 => exact p43z); (case side2 => exact (Kd.R_reads' cC.out).2.1); (case side3 => exact p42z); (case side4 => exact HC251.out); rintro e w' ⟨rfl, ⟨nd, rfl⟩⟩; (try first | exact ⟨rfl, _, World.drewN_drewN _ _ _⟩ | exact ⟨rfl, _, Eq.trans (World.drewN_drewN _ _ _) (congrArg (World.drewN _) (Nat.add_assoc _ _ _))⟩)))
     repeat (go_quiet (first | (go_at_call 113; (refine (az.calls _ _ ([] : List Int) dJ da dL _ ?side1 ?side2 A11.out).mono ?_); (case side1 => exact Kd.C_nil _ _); (case side2 => exact Nat.le_refl _); rintro e w22 ⟨f6, rfl, ho0, hb⟩; have z_ := asi2 (Kd.R_lower ho0 (below_size p0z)) (below_step p0z hb); clear HB; obtain ⟨cC, HB⟩ := z_; (try clear hb ho0); obtain ⟨i023, hi023, _, hsz23, _⟩ := info_parts info5; obtain ⟨hcut23, hA23, hC23⟩ := print_take_of (P := Tryz.prog) (Value.int .u8) 0 23 5 .i64 Tryz.underlying23 hi023 hsz23 (some ad239) c0 l0 cb (of_decide_eq_true p4z) (of_decide_eq_true p4z) HC0.out; have HR251 := Aside0.mk (Kd.C_of_reads (h1 := fun _ => rfl) (hA23 _ (Kd.reads_of_C HR0.out))); have HC251 := Aside0.mk hC23; clear hA23 hC23 hi023 hsz23; obtain ⟨fl, co24, eo24⟩ := Kd.R_slice cC.out; subst eo24) | (go_at_call 122; refine calls_of_args (args' := #[.slice fl da.length co24, .slice (some ad239) (l0.take (cb : Int).toNat).length c0]) p16z ?_; (with_reducible refine (aJ.calls _ _ da _ _ (l0.take (cb : Int).toNat) false _ ?side1 ?side2 ?side3 ?side4 A17.out).mono ?_); (case side1 => exact p43z); (case side2 => exact (Kd.R_reads' cC.out).2.1); (case side3 => exact p42z); (case side4 => exact HC251.out); rintro e w' ⟨rfl, ⟨nd, rfl⟩⟩; (try first | exact ⟨rfl, _, World.drewN_drewN _ _ _⟩ | exact ⟨rfl, _, Eq.trans (World.drewN_drewN _ _ _) (congrArg (World.drewN _) (Nat.add_assoc _ _ _))⟩))); try go_wp2_with (first | (go_at_call 113; (refine (az.calls _ _ ([] : List Int) dJ da dL _ ?side1 ?side2 A11.out).mono ?_); (case side1 => exact Kd.C_nil _ _); (case side2 => exact Nat.le_refl _); rintro e w22 ⟨f6, rfl, ho0, hb⟩; have z_ := asi2 (Kd.R_lower ho0 (below_size p0z)) (below_step p0z hb); clear HB; obtain ⟨cC, HB⟩ := z_; (try clear hb ho0); obtain ⟨i023, hi023, _, hsz23, _⟩ := info_parts info5; obtain ⟨hcut23, hA23, hC23⟩ := print_take_of (P := Tryz.prog) (Value.int .u8) 0 23 5 .i64 Tryz.underlying23 hi023 hsz23 (some ad239) c0 l0 cb (of_decide_eq_true p4z) (of_decide_eq_true p4z) HC0.out; have HR251 := Aside0.mk (Kd.C_of_reads (h1 := fun _ => rfl) (hA23 _ (Kd.reads_of_C HR0.out))); have HC251 := Aside0.mk hC23; clear hA23 hC23 hi023 hsz23; obtain ⟨fl, co24, eo24⟩ := Kd.R_slice cC.out; subst eo24) | (go_at_call 122; refine calls_of_args (args' := #[.slice fl da.length co24, .slice (some ad239) (l0.take (cb : Int).toNat).length c0]) p16z ?_; (with_reducible refine (aJ.calls _ _ da _ _ (l0.take (cb : Int).toNat) false _ ?side1 ?side2 ?side3 ?side4 A17.out).mono ?_); (case side1 => exact p43z); (case side2 => exact (Kd.R_reads' cC.out).2.1); (case side3 => exact p42z); (case side4 => exact HC251.out); rintro e w' ⟨rfl, ⟨nd, rfl⟩⟩; (try first | exact ⟨rfl, _, World.drewN_drewN _ _ _⟩ | exact ⟨rfl, _, Eq.trans (World.drewN_drewN _ _ _) (congrArg (World.drewN _) (Nat.add_assoc _ _ _))⟩))))
     go_ret2
     exact ⟨p7z, p0z⟩
/-! ### av: function 99 -/
def av.l0 : Nat → List Int → List Int → Int → Option (List Int × Int × Int)
  | 0, _, _, _ => none
  | k + 1, x0, x5, x6 => if x6 < (x0.length : Int) then (if 0 ≤ x6 then (if x6 ≤ (x0.length : Int) then ((ai.f k (x0.drop (x6 : Int).toNat)).bind fun jq => (if jq.2 = 0 then (some (([] : List Int), x6, 20)) else (if x5.length < 17592186044416 then (av.l0 k x0 (x5 ++ [jq.1]) (wrap64 (x6 + jq.2))) else (none)))) else (none)) else (none)) else (some (x5, 0, 0))
def av.f (k : Nat) (l0 : List Int) : Option (List Int × Int × Int) := av.l0 k l0 ([] : List Int) 0
theorem av.calls (k : Nat) (A0 : Option Addr) (c0 : Nat) (l0 : List Int) (r1 : List Int) (r2 : Int) (r3 : Int) (w : World) (hr0 : Kd.C (Kd.int .u8) w A0 l0.length l0) (hc0 : l0.length ≤ c0) (h : av.f k l0 = some (r1, r2, r3)) :
 Calls Tryz.prog 99 #[.slice A0 l0.length c0] w fun e w' => ∃ v0_ : Value, e = .returned (.tuple #[v0_, .int .i64 r2, .int .i64 r3]) ∧ Kd.R (Kd.int .i64) 3 w' w.heap.size (fun _ => True) v0_ r1 ∧ Below w.heap.size w w' := by
 have HR0 := Aside0.mk hr0
 have HC0 := Aside0.mk hc0
 clear hr0 hc0
 have HB := Aside0.mk (Below.refl w.heap.size w)
 have H : (av.l0 k l0 ([] : List Int) 0) = some (r1, r2, r3) := h
 clear h
 have H' := Aside0.mk H
 clear H
 go_enter Tryz.func99, Tryz.ntmps99
 go_wp2
 go_loopg [5, 6] k (fun kq v5 v6 w' => ∃ (bP : List Int) (aU : Int), v6 = .int .i64 aU ∧ Aside0 (av.l0 kq l0 bP aU = some (r1, r2, r3)) ∧ Aside0 (kq ≤ k) ∧ Aside0 (Kd.R (Kd.int .i64) 3 w' w.heap.size (fun _ => True) v5 bP) ∧ Aside0 (Below w.heap.size w w'))
 case atStart => exact ⟨(([] : List Int)), (0), p5z, H', ⟨Nat.le_refl _⟩, ⟨p34z⟩, ⟨p0z⟩⟩
 case round =>
  clear H'
  obtain ⟨bP, aU, rfl, HA, HK1, j7, HB⟩ := hrel
  cases gk with
  | zero => exact absurd HA.out (by simp [av.l0])
  | succ k1 =>
   have H := HA.out
   clear HA
   simp only [av.l0] at H
   by_cases c2 : aU < (l0.length : Int)
   case neg =>
    rw [if_neg c2] at H
    have eQ : decide (aU < (l0.length : Int)) = false := decide_eq_false c2
    clear c2
    simp only [Option.some.injEq, Prod.mk.injEq] at H
    obtain ⟨rfl, rfl, rfl⟩ := H
    go_wp2
    go_ret3
    exact ⟨_, p7z, p90z, p0z⟩

   rw [if_pos c2] at H
   have eQ : decide (aU < (l0.length : Int)) = true := decide_eq_true c2
   clear c2
   by_cases c3 : 0 ≤ aU
   case neg =>
    rw [if_neg c3] at H
    exact absurd H (by simp)
   rw [if_pos c3] at H
   have cW := eq_true c3
   have ez : decide (0 ≤ aU) = true := decide_eq_true c3
   clear c3
   by_cases c4 : aU ≤ (l0.length : Int)
   case neg =>
    rw [if_neg c4] at H
    exact absurd H (by simp)
   rw [if_pos c4] at H
   have dd := eq_true c4
   have c4b1 : decide (aU ≤ (l0.length : Int)) = true := decide_eq_true c4
   clear c4
   replace H := Option.bind_eq_some_iff.mp H
   obtain ⟨⟨j8, f8⟩, A50, H⟩ := H
   replace H : (if f8 = 0 then (some (([] : List Int), aU, 20)) else (if bP.length < 17592186044416 then (av.l0 k1 l0 (bP ++ [j8]) (wrap64 (aU + f8))) else (none))) = some (r1, r2, r3) := H
   have A5 := Aside0.mk A50
   clear A50
   by_cases c6 : f8 = 0
   case pos =>
    rw [if_pos c6] at H
    have df : (f8 == 0) = true := beq_iff_eq.mpr c6
    have i5 : (f8 != 0) = false := bne_eq_false_iff_eq.mpr c6
    clear c6
    simp only [Option.some.injEq, Prod.mk.injEq] at H
    obtain ⟨rfl, rfl, rfl⟩ := H
    obtain ⟨i07, hi07, _, hsz7, _⟩ := info_parts info5
    obtain ⟨A7, hcut7, hA7, hC7⟩ := print_drop_of (P := Tryz.prog) (Value.int .u8) 0 23 5 .i64 Tryz.underlying23 hi07 hsz7 A0 c0 l0 aU (of_decide_eq_true p4z) (of_decide_eq_true p4z) HC0.out
    have HR253 := Aside0.mk (Kd.C_of_reads (h1 := fun _ => rfl) (hA7 _ (Kd.reads_of_C HR0.out)))
    have HC253 := Aside0.mk hC7
    clear hA7 hC7 hi07 hsz7
    go_wp2_with (first | ((with_reducible refine gate_callee (f := 111) rfl ?_); refine goesL_ (some 17) rfl rfl Tryz.func111 p12z rfl #[.slice A7 (l0.drop (aU : Int).toNat).length (c0 - aU.toNat)] rfl p69z ?_; (with_reducible refine (ai.calls k1 _ _ (l0.drop (aU : Int).toNat) j8 f8 _ ?side1 ?side2 A5.out).mono ?_); (case side1 => exact p120z); (case side2 => exact HC253.out); rintro e w8 ⟨rfl, hb⟩; refine ⟨_, rfl, ?_⟩; have z_ := asi2 (Kd.R_below p90z hb) (below_step p0z hb); clear j7 HB; obtain ⟨j7, HB⟩ := z_; (try clear hb)))
    go_ret3
    exact ⟨_, p7z, p34z, p0z⟩
   rw [if_neg c6] at H
   have df : (f8 == 0) = false := beq_eq_false_iff_ne.mpr c6
   have i5 : (f8 != 0) = true := bne_iff_ne.mpr c6
   by_cases c9 : bP.length < 17592186044416
   case neg =>
    rw [if_neg c9] at H
    exact absurd H (by simp)
   rw [if_pos c9] at H
   have LMc9 := Aside0.mk c9
   clear c9
   obtain ⟨y256, hy256⟩ : ∃ y_ : List Int, y_ = (bP ++ [j8]) := ⟨_, rfl⟩
   replace H : (av.l0 k1 l0 y256 (wrap64 (aU + f8))) = some (r1, r2, r3) := by first | (rw [hy256]; with_reducible exact H) | (have H2_ := (Option.bind_some _ _).symm.trans H; rw [hy256]; with_reducible exact H2_) | (have H2_ := (Option.bind_some _ _).symm.trans H; with_reducible exact H2_) | with_reducible exact H | (rw [hy256]; exact H) | exact H
   have Ny256 := Aside0.mk hy256
   clear hy256
   have H' := Aside0.mk H
   clear H
   obtain ⟨i010, hi010, _, hsz10, _⟩ := info_parts info5
   obtain ⟨A10, hcut10, hA10, hC10⟩ := print_drop_of (P := Tryz.prog) (Value.int .u8) 0 23 5 .i64 Tryz.underlying23 hi010 hsz10 A0 c0 l0 aU (of_decide_eq_true p4z) (of_decide_eq_true p4z) HC0.out
   have HR253 := Aside0.mk (Kd.C_of_reads (h1 := fun _ => rfl) (hA10 _ (Kd.reads_of_C HR0.out)))
   have HC253 := Aside0.mk hC10
   clear hA10 hC10 hi010 hsz10
   go_wp2_with (first | ((with_reducible refine gate_callee (f := 111) rfl ?_); refine goesL_ (some 17) rfl rfl Tryz.func111 p12z rfl #[.slice A10 (l0.drop (aU : Int).toNat).length (c0 - aU.toNat)] rfl p69z ?_; (with_reducible refine (ai.calls k1 _ _ (l0.drop (aU : Int).toNat) j8 f8 _ ?side1 ?side2 A5.out).mono ?_); (case side1 => exact p120z); (case side2 => exact HC253.out); rintro e w11 ⟨rfl, hb⟩; refine ⟨_, rfl, ?_⟩; have z_ := asi2 (Kd.R_below p90z hb) (below_step p0z hb); clear j7 HB; obtain ⟨j7, HB⟩ := z_; (try clear hb hk)) | ((with_reducible refine gate_builtin (b := .append) (xs := #[.tmp 23, .tmp 25]) rfl ?_); at_builtin; refine Kd.R_append (Kd.int .i64) (w0 := w) w.heap.size rfl (.tmp 23) (.tmp 25) 56 3 (.int .i64 0) 8 rfl Tryz.underlying56 info3 rfl (by decide) (by omega) u5 bP j8 [.int .i64 j8] (fun _ => True) (fun _ => False) rfl rfl ?aP (fun _ hk => hk.elim) ?aF ?aO ?aB ?aS ?aL ?_; (case aP => exact rfl); (case aB => exact p0z); (case aF => exact (fun _ _ => trivial)); (case aO => exact p90z); (case aS => exact (below_size p0z)); (case aL => have := LMc9.out; omega); intro v257 w12 ho hb hg hat; rw [← Ny256.out] at ho; have z_ := asi2 (hb) (ho); clear HB j7; obtain ⟨HB, HO258⟩ := z_; clear ho hb hg hat))
   go_roundg k1
   case measure => have := HK1.out; omega
   case rel => exact ⟨(y256), (wrap64 (aU + f8)), p5z, H', ⟨p96z⟩, ⟨q0z HO258.out⟩, ⟨p0z⟩⟩
/-! ### aq: function 78 -/
def aq.f (k : Nat) (l0 : List Int) : Option (Bool) := (av.f k l0).bind fun jr => (some (jr.2.2 == 0))
theorem aq.calls (k : Nat) (A0 : Option Addr) (c0 : Nat) (l0 : List Int) (r : Bool) (w : World) (hr0 : Kd.C (Kd.int .u8) w A0 l0.length l0) (hc0 : l0.length ≤ c0) (h : aq.f k l0 = some r) :
    Calls Tryz.prog 78 #[.slice A0 l0.length c0] w fun e w' => e = .returned (.bool r) ∧ Below w.heap.size w w' := by
  have HR0 := Aside0.mk hr0
  have HC0 := Aside0.mk hc0
  clear hr0 hc0
  have HB := Aside0.mk (Below.refl w.heap.size w)
  have H : ((av.f k l0).bind fun jr => (some (jr.2.2 == 0))) = some r := h
  clear h
  replace H := Option.bind_eq_some_iff.mp H
  obtain ⟨⟨t259, t260, t261⟩, A20, H⟩ := H
  replace H : (some (t261 == 0)) = some r := H
  have A2 := Aside0.mk A20
  clear A20
  obtain rfl := Option.some.inj H
  go_enter Tryz.func78, Tryz.ntmps78
  go_wp2_with (first | ((with_reducible refine gate_callee (f := 99) rfl ?_); refine goesL_ (some 8) rfl rfl Tryz.func99 p12z rfl #[.slice A0 l0.length c0] rfl p3z ?_; (with_reducible refine (av.calls k _ _ l0 t259 t260 t261 _ ?side1 ?side2 A2.out).mono ?_); (case side1 => exact p41z); (case side2 => exact HC0.out); rintro e w3 ⟨v262, rfl, ho0, hb⟩; refine ⟨_, rfl, ?_⟩; have z_ := asi2 (Kd.R_lower ho0 (below_size p0z)) (below_step p0z hb); clear HB; obtain ⟨HO263, HB⟩ := z_; (try clear hb ho0)))
  go_ret
  exact ⟨p7z, p0z⟩
end Go.Proofs.YtodnggilomanbaaGreatDoor.PAll
