/-
  
-/
import Derived.Test.YtbclejgljegfmaaAp
import Derived.Test.YtbclejgljegfmaaPAllx0
import Derived.Test.YtbclejgljegfmaaGA
section
-- Written by this repo's program wip/tools/pr.py (over the kit's print) out of the translation. Not trusted: Lean checks it.
set_option maxHeartbeats 8000000
set_option maxRecDepth 100000
namespace Go.Proofs.Ytbclejgljegfmaa.PAll
open Go.Proofs.Ytbclejgljegfmaa.Hand
open Go.RowKit Go.Proofs.YtbclejgljegfmaaW.PrintWords Go.Proofs.YtbclejgljegfmaaW.PrintLast Go.Proofs.YtbclejgljegfmaaW.PrintMore
attribute [local go_sem] max2_int min2_int max_two min_two max_three min_three max_four min_four   -- for this text's walks alone
set_option linter.unusedVariables false
set_option linter.unusedSimpArgs false

/-! ### wire_Zig: function 18 -/
def wire_Zig.f (a0 : Int) : Option (Int) := some (Go.bits .xor .u64 (IntKind.u64.wrap ((IntKind.u64.wrap (a0)) * 2)) (IntKind.u64.wrap (a0 / 9223372036854775808)))
theorem wire_Zig.calls (a0 : Int) (r : Int) (w : World) (h : wire_Zig.f a0 = some r) :
    Calls Try.prog 18 #[.int .i64 a0] w fun e w' => e = .returned (.int .u64 r) ∧ Drawn0 w w' := by
  have H : (some (Go.bits .xor .u64 (IntKind.u64.wrap ((IntKind.u64.wrap (a0)) * 2)) (IntKind.u64.wrap (a0 / 9223372036854775808)))) = some r := h
  clear h
  obtain rfl := Option.some.inj H
  go_enter Try.func18, Try.ntmps18
  go_wp2
  go_ret
  exact ⟨p21z, p87z⟩

/-! ### wire_Zag: function 20 -/
def wire_Zag.f (a0 : Int) : Option (Int) := some (Go.bits .xor .i64 (wrap64 (a0 / 2)) (wrap64 (-(wrap64 (Go.bits .and .u64 a0 1)))))
theorem wire_Zag.calls (a0 : Int) (r : Int) (w : World) (h : wire_Zag.f a0 = some r) :
    Calls Try.prog 20 #[.int .u64 a0] w fun e w' => e = .returned (.int .i64 r) ∧ Drawn0 w w' := by
  have H : (some (Go.bits .xor .i64 (wrap64 (a0 / 2)) (wrap64 (-(wrap64 (Go.bits .and .u64 a0 1)))))) = some r := h
  clear h
  obtain rfl := Option.some.inj H
  go_enter Try.func20, Try.ntmps20
  go_wp2
  go_ret
  exact ⟨p21z, p87z⟩
end Go.Proofs.Ytbclejgljegfmaa.PAll
end
section
-- Written by this repo's program wip/tools/pr.py (over the kit's print) out of the translation. Not trusted: Lean checks it.
set_option maxHeartbeats 8000000
set_option maxRecDepth 100000
namespace Go.Proofs.Ytbclejgljegfmaa.PAll
open Go.Proofs.Ytbclejgljegfmaa.Hand
open Go.RowKit Go.Proofs.YtbclejgljegfmaaW.PrintWords Go.Proofs.YtbclejgljegfmaaW.PrintLast Go.Proofs.YtbclejgljegfmaaW.PrintMore
attribute [local go_sem] max2_int min2_int max_two min_two max_three min_three max_four min_four   -- for this text's walks alone
attribute [-simp] Int.emod_add_emod Int.add_emod_emod
set_option linter.unusedVariables false
set_option linter.unusedSimpArgs false

/-! ### aj: function 15 -/
def aj.l0 : Nat → Int → List Int → Option (List Int)
  | 0, _, _ => none
  | k + 1, x1, x5 => if x1 ≥ 128 then (if x5.length < 140737488355328 then (aj.l0 k (IntKind.u64.wrap (Int.tdiv x1 128)) (x5 ++ [(((Int.tmod x1 128) % 256) + 128) % 256])) else (none)) else (if x5.length < 140737488355328 then (some (x5 ++ [(x1) % 256])) else (none))
def aj.f (k : Nat) (l0 : List Int) (a1 : Int) : Option (List Int) := (ag.f l0).bind fun kP => (aj.l0 k a1 kP)
theorem aj.calls (k : Nat) (A0 : Option Addr) (c0 : Nat) (l0 : List Int) (a1 : Int) (r : List Int) (w : World) (hr0 : Kd.C (Kd.int .u8) w A0 l0.length l0) (hc0 : l0.length ≤ c0) (h : aj.f k l0 a1 = some r) :
 Calls Try.prog 15 #[.slice A0 l0.length c0, .int .u64 a1] w fun e w' => ∃ v0_ : Value, e = .returned (v0_) ∧ Kd.R (Kd.int .u8) 5 w' w.heap.size (fun _ => True) v0_ r ∧ Below w.heap.size w w' := by
 have HR0 := Aside0.mk hr0
 have HC0 := Aside0.mk hc0
 clear hr0 hc0
 have HB := Aside0.mk (Below.refl w.heap.size w)
 have H : ((ag.f l0).bind fun kP => (aj.l0 k a1 kP)) = some r := h
 clear h
 replace H := Option.bind_eq_some_iff.mp H
 obtain ⟨kP, A30, H⟩ := H
 replace H : (aj.l0 k a1 kP) = some r := H
 have A3 := Aside0.mk A30
 clear A30
 have H' := Aside0.mk H
 clear H
 go_enter Try.func15, Try.ntmps15
 go_wp2_with (first | ((with_reducible refine gate_callee (f := 12) rfl ?_); refine goesL_ (some 7) rfl rfl Try.func12 p16z rfl #[.slice A0 l0.length c0] rfl p2z ?_; (with_reducible refine (ag.calls _ _ l0 kP _ ?side1 ?side2 A3.out).mono ?_); (case side1 => exact p242z); (case side2 => exact HC0.out); rintro e w4 ⟨v336, rfl, ho0, hb⟩; refine ⟨_, rfl, ?_⟩; have z_ := asi2 (Kd.R_lower ho0 (below_size p0z)) (below_step p0z hb); clear HB; obtain ⟨HO337, HB⟩ := z_; (try clear hb ho0)))
 go_loopg [1, 5] k (fun kq v1 v5 w' => ∃ (fO : Int) (b5 : List Int), v1 = .int .u64 fO ∧ Aside0 (aj.l0 kq fO b5 = some r) ∧ Aside0 (kq ≤ k) ∧ Aside0 (Kd.R (Kd.int .u8) 5 w' w.heap.size (fun _ => True) v5 b5) ∧ Aside0 (Below w.heap.size w w'))
 case atStart => exact ⟨(a1), (kP), p21z, H', ⟨Nat.le_refl _⟩, ⟨q0z HO337.out⟩, ⟨p0z⟩⟩
 case round =>
  clear H'
  obtain ⟨fO, b5, rfl, HA, HK1, mh, HB⟩ := hrel
  cases gk with
  | zero => exact absurd HA.out (by simp [aj.l0])
  | succ k1 =>
   have H := HA.out
   clear HA
   simp only [aj.l0] at H
   by_cases c5 : fO ≥ 128
   case neg =>
    rw [if_neg c5] at H
    have gI : decide (128 ≤ fO) = false := decide_eq_false c5
    clear c5
    by_cases c8 : b5.length < 140737488355328
    case neg =>
     rw [if_neg c8] at H
     exact absurd H (by simp)

    rw [if_pos c8] at H
    have LMc8 := Aside0.mk c8
    clear c8
    obtain ⟨y341, hy341⟩ : ∃ y_ : List Int, y_ = (b5 ++ [(fO) % 256]) := ⟨_, rfl⟩
    replace H : (some y341) = some r := by first | (rw [hy341]; with_reducible exact H) | (have H2_ := (Option.bind_some _ _).symm.trans H; rw [hy341]; with_reducible exact H2_) | (have H2_ := (Option.bind_some _ _).symm.trans H; with_reducible exact H2_) | with_reducible exact H | (rw [hy341]; exact H) | exact H
    have Ny341 := Aside0.mk hy341
    clear hy341
    obtain rfl := Option.some.inj H
    go_wp2_with (first | ((with_reducible refine gate_builtin (b := .append) (xs := #[.tmp 19, .tmp 22]) rfl ?_); at_builtin; refine Kd.R_append (Kd.int .u8) (w0 := w) w.heap.size rfl (.tmp 19) (.tmp 22) 22 5 (.int .u8 0) 1 rfl Try.underlying22 info5 rfl (by decide) (by omega) u5 b5 ((fO) % 256) [.int .u8 ((fO) % 256)] (fun _ => True) (fun _ => False) rfl rfl ?aP (fun _ hk => hk.elim) ?aF ?aO ?aB ?aS ?aL ?_; (case aP => exact rfl); (case aB => exact p0z); (case aF => exact (fun _ _ => trivial)); (case aO => exact p196z); (case aS => exact (below_size p0z)); (case aL => have := LMc8.out; omega); intro v342 w9 ho hb hg hat; rw [← Ny341.out] at ho; have z_ := asi2 (hb) (ho); clear HB mh; obtain ⟨HB, HO343⟩ := z_; clear ho hb hg hat))
    go_ret
    exact ⟨_, p6z, q0z HO343.out, p0z⟩
   rw [if_pos c5] at H
   have gI : decide (128 ≤ fO) = true := decide_eq_true c5
   clear c5
   by_cases c6 : b5.length < 140737488355328
   case neg =>
    rw [if_neg c6] at H
    exact absurd H (by simp)
   rw [if_pos c6] at H
   have LMc6 := Aside0.mk c6
   clear c6
   obtain ⟨y338, hy338⟩ : ∃ y_ : List Int, y_ = (b5 ++ [(((Int.tmod fO 128) % 256) + 128) % 256]) := ⟨_, rfl⟩
   replace H : (aj.l0 k1 (IntKind.u64.wrap (Int.tdiv fO 128)) y338) = some r := by first | (rw [hy338]; with_reducible exact H) | (have H2_ := (Option.bind_some _ _).symm.trans H; rw [hy338]; with_reducible exact H2_) | (have H2_ := (Option.bind_some _ _).symm.trans H; with_reducible exact H2_) | with_reducible exact H | (rw [hy338]; exact H) | exact H
   have Ny338 := Aside0.mk hy338
   clear hy338
   have H' := Aside0.mk H
   clear H
   go_wp2_with (first | ((with_reducible refine gate_builtin (b := .append) (xs := #[.tmp 10, .tmp 15]) rfl ?_); at_builtin; refine Kd.R_append (Kd.int .u8) (w0 := w) w.heap.size rfl (.tmp 10) (.tmp 15) 22 5 (.int .u8 0) 1 rfl Try.underlying22 info5 rfl (by decide) (by omega) u5 b5 ((((Int.tmod fO 128) % 256) + 128) % 256) [.int .u8 ((((Int.tmod fO 128) % 256) + 128) % 256)] (fun _ => True) (fun _ => False) rfl rfl ?aP (fun _ hk => hk.elim) ?aF ?aO ?aB ?aS ?aL ?_; (case aP => exact rfl); (case aB => exact p0z); (case aF => exact (fun _ _ => trivial)); (case aO => exact p196z); (case aS => exact (below_size p0z)); (case aL => have := LMc6.out; omega); intro v339 w7 ho hb hg hat; rw [← Ny338.out] at ho; have z_ := asi2 (hb) (ho); clear HB mh; obtain ⟨HB, HO340⟩ := z_; clear ho hb hg hat))
   go_roundg k1
   case measure => have := HK1.out; omega
   case rel => exact ⟨(IntKind.u64.wrap (Int.tdiv fO 128)), (y338), p21z, H', ⟨p217z⟩, ⟨q0z HO340.out⟩, ⟨p0z⟩⟩
/-! ### aA: function 17 -/
def aA.f (k : Nat) (a0 : Int) : Option (Int) := (aj.f k ([] : List Int) a0).bind fun lJ => (some (lJ.length : Int))
theorem aA.calls (k : Nat) (a0 : Int) (r : Int) (w : World) (h : aA.f k a0 = some r) :
    Calls Try.prog 17 #[.int .u64 a0] w fun e w' => e = .returned (.int .i64 r) ∧ Below w.heap.size w w' := by
  have HB := Aside0.mk (Below.refl w.heap.size w)
  have H : ((aj.f k ([] : List Int) a0).bind fun lJ => (some (lJ.length : Int))) = some r := h
  clear h
  replace H := Option.bind_eq_some_iff.mp H
  obtain ⟨lJ, A20, H⟩ := H
  replace H : (some (lJ.length : Int)) = some r := H
  have A2 := Aside0.mk A20
  clear A20
  obtain rfl := Option.some.inj H
  go_enter Try.func17, Try.ntmps17
  go_wp2_with (first | ((with_reducible refine gate_callee (f := 15) rfl ?_); refine goesL_ (some 4) rfl rfl Try.func15 p16z rfl #[.slice none 0 0, .int .u64 a0] rfl p2z ?_; (refine (aj.calls k _ _ ([] : List Int) a0 lJ _ ?side1 ?side2 A2.out).mono ?_); (case side1 => exact Kd.C_nil _ _); (case side2 => exact Nat.le_refl _); rintro e w3 ⟨v345, rfl, ho0, hb⟩; refine ⟨_, rfl, ?_⟩; have z_ := asi2 (Kd.R_lower ho0 (below_size p0z)) (below_step p0z hb); clear HB; obtain ⟨HO346, HB⟩ := z_; (try clear hb ho0); obtain ⟨Ao4, co4, eo4⟩ := Kd.R_slice HO346.out; subst eo4))
  go_ret
  exact ⟨p6z, p0z⟩

/-! ### az: function 19 -/
def az.f (a0 : Int) : Option (Int) := if a0 ≥ 0 then (some (IntKind.u64.wrap (2 * (IntKind.u64.wrap (a0))))) else (some (IntKind.u64.wrap ((IntKind.u64.wrap (2 * (IntKind.u64.wrap (wrap64 (-(wrap64 (a0 + 1))))))) + 1)))
theorem az.calls (a0 : Int) (r : Int) (w : World) (h : az.f a0 = some r) :
 Calls Try.prog 19 #[.int .i64 a0] w fun e w' => e = .returned (.int .u64 r) ∧ Drawn0 w w' := by
 have H : (if a0 ≥ 0 then (some (IntKind.u64.wrap (2 * (IntKind.u64.wrap (a0))))) else (some (IntKind.u64.wrap ((IntKind.u64.wrap (2 * (IntKind.u64.wrap (wrap64 (-(wrap64 (a0 + 1))))))) + 1)))) = some r := h
 clear h
 by_cases c2 : a0 ≥ 0
 case pos =>
  rw [if_pos c2] at H
  have ig : decide (0 ≤ a0) = true := decide_eq_true c2
  clear c2
  obtain rfl := Option.some.inj H
  go_enter Try.func19, Try.ntmps19
  go_wp2
  go_ret
  exact ⟨p21z, p87z⟩
 rw [if_neg c2] at H
 have ig : decide (0 ≤ a0) = false := decide_eq_false c2
 clear c2
 obtain rfl := Option.some.inj H
 go_enter Try.func19, Try.ntmps19
 go_wp2
 go_ret
 exact ⟨p21z, p87z⟩

/-! ### au: function 21 -/
def au.f (a0 : Int) : Option (Int) := if (Int.tmod a0 2) = 0 then (some (wrap64 (IntKind.u64.wrap (Int.tdiv a0 2)))) else (some (wrap64 ((wrap64 (-(wrap64 (IntKind.u64.wrap (Int.tdiv a0 2))))) - 1)))
theorem au.calls (a0 : Int) (r : Int) (w : World) (h : au.f a0 = some r) :
 Calls Try.prog 21 #[.int .u64 a0] w fun e w' => e = .returned (.int .i64 r) ∧ Drawn0 w w' := by
 have H : (if (Int.tmod a0 2) = 0 then (some (wrap64 (IntKind.u64.wrap (Int.tdiv a0 2)))) else (some (wrap64 ((wrap64 (-(wrap64 (IntKind.u64.wrap (Int.tdiv a0 2))))) - 1)))) = some r := h
 clear h
 by_cases c2 : (Int.tmod a0 2) = 0
 case neg =>
  rw [if_neg c2] at H
  have ig : ((Int.tmod a0 2) == 0) = false := beq_eq_false_iff_ne.mpr c2
  have kM : ((Int.tmod a0 2) != 0) = true := bne_iff_ne.mpr c2
  obtain rfl := Option.some.inj H
  go_enter Try.func21, Try.ntmps21
  go_wp2
  go_ret
  exact ⟨p21z, p87z⟩

 rw [if_pos c2] at H
 have ig : ((Int.tmod a0 2) == 0) = true := beq_iff_eq.mpr c2
 have kM : ((Int.tmod a0 2) != 0) = false := bne_eq_false_iff_eq.mpr c2
 clear c2
 obtain rfl := Option.some.inj H
 go_enter Try.func21, Try.ntmps21
 go_wp2
 go_ret
 exact ⟨p21z, p87z⟩
/-! ### ax: function 53 -/
def ax.l0 : Nat → Int → Int → List Int → Int → Option (List Int)
  | 0, _, _, _, _ => none
  | k + 1, x0, x1, x5, x6 => if x6 < x1 then (if x5.length < 140737488355328 then (ax.l0 k (IntKind.u64.wrap (Int.tdiv x0 256)) x1 (x5 ++ [(Int.tmod x0 256) % 256]) (wrap64 (x6 + 1))) else (none)) else (some x5)
def ax.f (k : Nat) (a0 : Int) (a1 : Int) : Option (List Int) := ax.l0 k a0 a1 ([] : List Int) 0
theorem ax.calls (k : Nat) (a0 : Int) (a1 : Int) (r : List Int) (w : World) (h : ax.f k a0 a1 = some r) :
 Calls Try.prog 53 #[.int .u64 a0, .int .i64 a1] w fun e w' => ∃ v0_ : Value, e = .returned (v0_) ∧ Kd.R (Kd.int .u8) 5 w' w.heap.size (fun _ => True) v0_ r ∧ Below w.heap.size w w' := by
 have HB := Aside0.mk (Below.refl w.heap.size w)
 have H : (ax.l0 k a0 a1 ([] : List Int) 0) = some r := h
 clear h
 have H' := Aside0.mk H
 clear H
 go_enter Try.func53, Try.ntmps53
 go_wp2
 go_loopg [0, 5, 6] k (fun kq v0 v5 v6 w' => ∃ (cH : Int) (b5 : List Int) (km : Int), v0 = .int .u64 cH ∧ v6 = .int .i64 km ∧ Aside0 (ax.l0 kq cH a1 b5 km = some r) ∧ Aside0 (kq ≤ k) ∧ Aside0 (Kd.R (Kd.int .u8) 5 w' w.heap.size (fun _ => True) v5 b5) ∧ Aside0 (Below w.heap.size w w'))
 case atStart => exact ⟨(a0), (([] : List Int)), (0), p21z, p21z, H', ⟨Nat.le_refl _⟩, ⟨p9z⟩, ⟨p0z⟩⟩
 case round =>
  clear H'
  obtain ⟨cH, b5, km, rfl, rfl, HA, HK1, mh, HB⟩ := hrel
  cases gk with
  | zero => exact absurd HA.out (by simp [ax.l0])
  | succ k1 =>
   have H := HA.out
   clear HA
   simp only [ax.l0] at H
   by_cases c3 : km < a1
   case neg =>
    rw [if_neg c3] at H
    have eh : decide (km < a1) = false := decide_eq_false c3
    clear c3
    obtain rfl := Option.some.inj H
    go_wp2
    go_ret
    exact ⟨_, p6z, p196z, p0z⟩
   rw [if_pos c3] at H
   have eh : decide (km < a1) = true := decide_eq_true c3
   clear c3
   by_cases c4 : b5.length < 140737488355328
   case neg =>
    rw [if_neg c4] at H
    exact absurd H (by simp)
   rw [if_pos c4] at H
   have LMc4 := Aside0.mk c4
   clear c4
   obtain ⟨y442, hy442⟩ : ∃ y_ : List Int, y_ = (b5 ++ [(Int.tmod cH 256) % 256]) := ⟨_, rfl⟩
   replace H : (ax.l0 k1 (IntKind.u64.wrap (Int.tdiv cH 256)) a1 y442 (wrap64 (km + 1))) = some r := by first | (rw [hy442]; with_reducible exact H) | (have H2_ := (Option.bind_some _ _).symm.trans H; rw [hy442]; with_reducible exact H2_) | (have H2_ := (Option.bind_some _ _).symm.trans H; with_reducible exact H2_) | with_reducible exact H | (rw [hy442]; exact H) | exact H
   have Ny442 := Aside0.mk hy442
   clear hy442
   have H' := Aside0.mk H
   clear H
   go_wp2_with (first | ((with_reducible refine gate_builtin (b := .append) (xs := #[.tmp 12, .tmp 16]) rfl ?_); at_builtin; refine Kd.R_append (Kd.int .u8) (w0 := w) w.heap.size rfl (.tmp 12) (.tmp 16) 22 5 (.int .u8 0) 1 rfl Try.underlying22 info5 rfl (by decide) (by omega) u5 b5 ((Int.tmod cH 256) % 256) [.int .u8 ((Int.tmod cH 256) % 256)] (fun _ => True) (fun _ => False) rfl rfl ?aP (fun _ hk => hk.elim) ?aF ?aO ?aB ?aS ?aL ?_; (case aP => exact rfl); (case aB => exact p0z); (case aF => exact (fun _ _ => trivial)); (case aO => exact p196z); (case aS => exact (below_size p0z)); (case aL => have := LMc4.out; omega); intro v443 w5 ho hb hg hat; rw [← Ny442.out] at ho; have z_ := asi2 (hb) (ho); clear HB mh; obtain ⟨HB, HO444⟩ := z_; clear ho hb hg hat))
   go_roundg k1
   case measure => have := HK1.out; omega
   case rel => exact ⟨(IntKind.u64.wrap (Int.tdiv cH 256)), (y442), (wrap64 (km + 1)), p21z, p21z, H', ⟨p217z⟩, ⟨q0z HO444.out⟩, ⟨p0z⟩⟩
end Go.Proofs.Ytbclejgljegfmaa.PAll
end
