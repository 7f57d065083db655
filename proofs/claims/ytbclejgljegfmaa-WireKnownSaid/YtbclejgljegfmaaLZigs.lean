-- Written by this repo's program wip/tools/pr.py (over the kit's print) out of the translation. Not trusted: Lean checks it.
import Derived.Test.YtbclejgljegfmaaAp
import Derived.Test.YtbclejgljegfmaaPAllx0
import Derived.Test.YtbclejgljegfmaaGVz
import Derived.Test.YtbclejgljegfmaaHandWorks
set_option maxHeartbeats 8000000
set_option maxRecDepth 100000
namespace Go.Proofs.Ytbclejgljegfmaa.PAll
open Go.Proofs.Ytbclejgljegfmaa.Hand
open Go.RowKit Go.Proofs.YtbclejgljegfmaaW.PrintWords Go.Proofs.YtbclejgljegfmaaW.PrintLast Go.Proofs.YtbclejgljegfmaaW.PrintMore
attribute [local go_sem] max2_int min2_int max_two min_two max_three min_three max_four min_four   -- for this text's walks alone
set_option linter.unusedVariables false
set_option linter.unusedSimpArgs false

/-! ### ae: function 5 -/
mutual
def ae.j0 : Nat → Int → Int → Bool → Option (Bool)
  | 0, _, _, _ => none
  | k + 1, x0, x1, x20 => if x20 = true then (none) else ((wire_Zig.f x0).bind fun kn => ((wire_Zig.f x1).bind fun ip => (if x0 < 0 then (ae.j1 k x0 x1 (IntKind.u64.wrap (wrap64 (-(wrap64 (x0 + 1))))) (IntKind.u64.wrap (Int.tdiv ip 2))) else (ae.j1 k x0 x1 (IntKind.u64.wrap (Int.tdiv kn 2)) (IntKind.u64.wrap (Int.tdiv ip 2))))))
def ae.j1 : Nat → Int → Int → Int → Int → Option (Bool)
  | 0, _, _, _, _ => none
  | k + 1, x0, x1, x7, x8 => if x1 < 0 then (ae.j2 k x0 x1 x7 (IntKind.u64.wrap (wrap64 (-(wrap64 (x1 + 1)))))) else (ae.j2 k x0 x1 x7 x8)
def ae.j2 : Nat → Int → Int → Int → Int → Option (Bool)
  | 0, _, _, _, _ => none
  | k + 1, x0, x1, x7, x8 => if x7 ≥ x8 then (if x7 = x8 then ((wire_Zig.f x0).bind fun fA => ((wire_Zig.f x1).bind fun hT => (if (IntKind.u64.wrap ((mx fA hT) - (mn fA hT))) ≤ 1 then (if (((Int.tmod fA 2) == 1) == (decide (x0 < 0))) = true then ((ac.f).bind fun iQ => (some iQ)) else (none)) else (none)))) else ((wire_Zig.f x0).bind fun ko => (if (((Int.tmod ko 2) == 1) == (decide (x0 < 0))) = true then ((ac.f).bind fun lK => (some lK)) else (none)))) else ((wire_Zig.f x0).bind fun eb => ((wire_Zig.f x1).bind fun fX => (if eb < fX then (if x7 = x8 then (if (IntKind.u64.wrap ((mx eb fX) - (mn eb fX))) ≤ 1 then (if (((Int.tmod eb 2) == 1) == (decide (x0 < 0))) = true then ((ac.f).bind fun iR => (some iR)) else (none)) else (none)) else (if (((Int.tmod eb 2) == 1) == (decide (x0 < 0))) = true then ((ac.f).bind fun kp => (some kp)) else (none))) else (none))))
end
def ae.f (k : Nat) (a0 : Int) (a1 : Int) (a2 : Int) : Option (Bool) := (wire_Zig.f a0).bind fun jo => ((wire_Zag.f jo).bind fun iq => (if iq = a0 then ((wire_Zag.f a2).bind fun jp => ((wire_Zig.f jp).bind fun iB => (ae.j0 k a0 a1 (iB != a2)))) else (ae.j0 k a0 a1 true)))
theorem ae.calls (k : Nat) (a0 : Int) (a1 : Int) (a2 : Int) (r : Bool) (w : World) (h : ae.f k a0 a1 a2 = some r) :
 Calls Try.prog 5 #[.int .i64 a0, .int .i64 a1, .int .u64 a2] w fun e w' => e = .returned (.bool r) ∧ Below w.heap.size w w' := by
 have HB := Aside0.mk (Below.refl w.heap.size w)
 have H : ((wire_Zig.f a0).bind fun jo => ((wire_Zag.f jo).bind fun iq => (if iq = a0 then ((wire_Zag.f a2).bind fun jp => ((wire_Zig.f jp).bind fun iB => (ae.j0 k a0 a1 (iB != a2)))) else (ae.j0 k a0 a1 true)))) = some r := h
 clear h
 have HC4 := Aside0.mk H
 clear H
 go_enter Try.func5, Try.ntmps5
 go_upto_region 1 with (fail)
 go_cut [20] (fun v20 wc => ∃ (kq : Nat) (lj : Bool), v20 = .bool lj ∧ Aside0 (ae.j0 kq a0 a1 lj = some r) ∧ Aside0 (kq ≤ k) ∧ Aside0 (Below w.heap.size w wc))
 case first =>
  have H := HC4.out
  clear HC4
  replace H := Option.bind_eq_some_iff.mp H
  obtain ⟨jo, A50, H⟩ := H
  replace H : ((wire_Zag.f jo).bind fun iq => (if iq = a0 then ((wire_Zag.f a2).bind fun jp => ((wire_Zig.f jp).bind fun iB => (ae.j0 k a0 a1 (iB != a2)))) else (ae.j0 k a0 a1 true))) = some r := H
  have A5 := Aside0.mk A50
  clear A50
  replace H := Option.bind_eq_some_iff.mp H
  obtain ⟨iq, A60, H⟩ := H
  replace H : (if iq = a0 then ((wire_Zag.f a2).bind fun jp => ((wire_Zig.f jp).bind fun iB => (ae.j0 k a0 a1 (iB != a2)))) else (ae.j0 k a0 a1 true)) = some r := H
  have A6 := Aside0.mk A60
  clear A60
  by_cases c7 : iq = a0
  case neg =>
   rw [if_neg c7] at H
   have fs : (iq == a0) = false := beq_eq_false_iff_ne.mpr c7
   have c7b1 : (iq != a0) = true := bne_iff_ne.mpr c7
   (first | rw [fs] | (simp only [i64_w, i32_w]; rw [fs]) | skip)
   have H' := Aside0.mk H
   clear H
   go_wp2_with (first | ((with_reducible refine gate_callee (f := 18) rfl ?_); refine goesL_ (some 10) rfl rfl Try.func18 p16z rfl #[.int .i64 a0] rfl p2z ?_; (with_reducible refine (wire_Zig.calls a0 jo _ A5.out).mono ?_); rintro e w' ⟨rfl, ⟨nd, rfl⟩⟩; refine ⟨_, rfl, ?_⟩) | ((with_reducible refine gate_callee (f := 20) rfl ?_); refine goesL_ (some 11) rfl rfl Try.func20 p16z rfl #[.int .u64 jo] rfl p2z ?_; (with_reducible refine (wire_Zag.calls jo iq _ A6.out).mono ?_); rintro e w' ⟨rfl, ⟨nd, rfl⟩⟩; refine ⟨_, rfl, ?_⟩))
   go_meet
   case rel => exact ⟨_, (true), p21z, H', ⟨p160z⟩, ⟨p0z⟩⟩
  rw [if_pos c7] at H
  have fs : (iq == a0) = true := beq_iff_eq.mpr c7
  have c7b1 : (iq != a0) = false := bne_eq_false_iff_eq.mpr c7
  clear c7
  (first | rw [fs] | (simp only [i64_w, i32_w]; rw [fs]) | skip)
  replace H := Option.bind_eq_some_iff.mp H
  obtain ⟨jp, A80, H⟩ := H
  replace H : ((wire_Zig.f jp).bind fun iB => (ae.j0 k a0 a1 (iB != a2))) = some r := H
  have A8 := Aside0.mk A80
  clear A80
  replace H := Option.bind_eq_some_iff.mp H
  obtain ⟨iB, A90, H⟩ := H
  replace H : (ae.j0 k a0 a1 (iB != a2)) = some r := H
  have A9 := Aside0.mk A90
  clear A90
  have H' := Aside0.mk H
  clear H
  go_wp2_with (first | ((with_reducible refine gate_callee (f := 18) rfl ?_); refine goesL_ (some 10) rfl rfl Try.func18 p16z rfl #[.int .i64 a0] rfl p2z ?_; (with_reducible refine (wire_Zig.calls a0 jo _ A5.out).mono ?_); rintro e w' ⟨rfl, ⟨nd, rfl⟩⟩; refine ⟨_, rfl, ?_⟩) | ((with_reducible refine gate_callee (f := 20) rfl ?_); refine goesL_ (some 11) rfl rfl Try.func20 p16z rfl #[.int .u64 jo] rfl p2z ?_; (with_reducible refine (wire_Zag.calls jo iq _ A6.out).mono ?_); rintro e w' ⟨rfl, ⟨nd, rfl⟩⟩; refine ⟨_, rfl, ?_⟩) | (go_at_call 20; (with_reducible refine (wire_Zag.calls a2 jp _ A8.out).mono ?_); rintro e w' ⟨rfl, ⟨nd, rfl⟩⟩) | (go_at_call 18; (with_reducible refine (wire_Zig.calls jp iB _ A9.out).mono ?_); rintro e w' ⟨rfl, ⟨nd, rfl⟩⟩))
  go_meet
  case rel => exact ⟨_, ((iB != a2)), p21z, H', ⟨p160z⟩, ⟨p0z⟩⟩
 case rest =>
  clear HC4
  obtain ⟨kq, lj, rfl, HA, HJ3, HB⟩ := hcut
  cases kq with
  | zero => exact absurd HA.out (by simp [ae.j0])
  | succ kj3 =>
   have H := HA.out
   clear HA
   simp only [ae.j0] at H
   by_cases c10 : lj = true
   case pos =>
    subst c10
    have H1 : (none) = some r := p99z
    clear H
    have H := H1
    clear H1
    exact absurd H (by simp)
   replace c10 := Bool.eq_false_iff.mpr c10
   subst c10
   have H1 : ((wire_Zig.f a0).bind fun kn => ((wire_Zig.f a1).bind fun ip => (if a0 < 0 then (ae.j1 kj3 a0 a1 (IntKind.u64.wrap (wrap64 (-(wrap64 (a0 + 1))))) (IntKind.u64.wrap (Int.tdiv ip 2))) else (ae.j1 kj3 a0 a1 (IntKind.u64.wrap (Int.tdiv kn 2)) (IntKind.u64.wrap (Int.tdiv ip 2)))))) = some r := p42z
   clear H
   have H := H1
   clear H1
   replace H := Option.bind_eq_some_iff.mp H
   obtain ⟨kn, A110, H⟩ := H
   replace H : ((wire_Zig.f a1).bind fun ip => (if a0 < 0 then (ae.j1 kj3 a0 a1 (IntKind.u64.wrap (wrap64 (-(wrap64 (a0 + 1))))) (IntKind.u64.wrap (Int.tdiv ip 2))) else (ae.j1 kj3 a0 a1 (IntKind.u64.wrap (Int.tdiv kn 2)) (IntKind.u64.wrap (Int.tdiv ip 2))))) = some r := H
   have A11 := Aside0.mk A110
   clear A110
   replace H := Option.bind_eq_some_iff.mp H
   obtain ⟨ip, A120, H⟩ := H
   replace H : (if a0 < 0 then (ae.j1 kj3 a0 a1 (IntKind.u64.wrap (wrap64 (-(wrap64 (a0 + 1))))) (IntKind.u64.wrap (Int.tdiv ip 2))) else (ae.j1 kj3 a0 a1 (IntKind.u64.wrap (Int.tdiv kn 2)) (IntKind.u64.wrap (Int.tdiv ip 2)))) = some r := H
   have A12 := Aside0.mk A120
   clear A120
   have HC13 := Aside0.mk H
   clear H
   go_upto_if 28 with (first | ((with_reducible refine gate_callee (f := 18) rfl ?_); refine goesL_ (some 22) rfl rfl Try.func18 p16z rfl #[.int .i64 a0] rfl p2z ?_; (with_reducible refine (wire_Zig.calls a0 kn _ A11.out).mono ?_); rintro e w' ⟨rfl, ⟨nd, rfl⟩⟩; refine ⟨_, rfl, ?_⟩) | ((with_reducible refine gate_callee (f := 18) rfl ?_); refine goesL_ (some 25) rfl rfl Try.func18 p16z rfl #[.int .i64 a1] rfl p2z ?_; (with_reducible refine (wire_Zig.calls a1 ip _ A12.out).mono ?_); rintro e w' ⟨rfl, ⟨nd, rfl⟩⟩; refine ⟨_, rfl, ?_⟩))
   (try simp only [Act.put, List.setIfInBounds_toArray, List.set_cons_zero, List.set_cons_succ])
   go_cut [7] (fun v7 wc => ∃ (kq : Nat) (eT : Int), v7 = .int .u64 eT ∧ Aside0 (ae.j1 kq a0 a1 eT (IntKind.u64.wrap (Int.tdiv ip 2)) = some r) ∧ Aside0 (kq ≤ kj3) ∧ Aside0 (Below w.heap.size w wc))
   case first =>
    have H := HC13.out
    clear HC13
    by_cases c14 : a0 < 0
    case neg =>
     rw [if_neg c14] at H
     have kr : decide (a0 < 0) = false := decide_eq_false c14
     clear c14
     (first | rw [kr] | (simp only [i64_w, i32_w]; rw [kr]) | skip)
     have H' := Aside0.mk H
     clear H
     go_wp2
     go_meet
     case rel => exact ⟨_, (IntKind.u64.wrap (Int.tdiv kn 2)), p21z, H', ⟨p200z⟩, ⟨p0z⟩⟩
    rw [if_pos c14] at H
    have kr : decide (a0 < 0) = true := decide_eq_true c14
    clear c14
    (first | rw [kr] | (simp only [i64_w, i32_w]; rw [kr]) | skip)
    have H' := Aside0.mk H
    clear H
    go_wp2
    go_meet
    case rel => exact ⟨_, (IntKind.u64.wrap (wrap64 (-(wrap64 (a0 + 1))))), p21z, H', ⟨p200z⟩, ⟨p0z⟩⟩
   case rest =>
    clear HC13
    try clear c10
    obtain ⟨kq, eT, rfl, HA, HJ12, HB⟩ := hcut
    cases kq with
    | zero => exact absurd HA.out (by simp [ae.j1])
    | succ kj12 =>
     have H := HA.out
     clear HA
     simp only [ae.j1] at H
     have HC15 := Aside0.mk H
     clear H
     go_upto_if 34 with (fail)
     go_cut [8] (fun v8 wc => ∃ (kq : Nat) (f9 : Int), v8 = .int .u64 f9 ∧ Aside0 (ae.j2 kq a0 a1 eT f9 = some r) ∧ Aside0 (kq ≤ kj12) ∧ Aside0 (Below w.heap.size w wc))
     case first =>
      have H := HC15.out
      clear HC15
      by_cases c16 : a1 < 0
      case neg =>
       rw [if_neg c16] at H
       have jJ : decide (a1 < 0) = false := decide_eq_false c16
       clear c16
       (first | rw [jJ] | (simp only [i64_w, i32_w]; rw [jJ]) | skip)
       have H' := Aside0.mk H
       clear H
       go_wp2
       go_meet
       case rel => exact ⟨_, ((IntKind.u64.wrap (Int.tdiv ip 2))), p21z, H', ⟨by have := HJ3.out; have := HJ12.out; first | omega | exact Nat.le_refl _⟩, ⟨p0z⟩⟩
      rw [if_pos c16] at H
      have jJ : decide (a1 < 0) = true := decide_eq_true c16
      clear c16
      (first | rw [jJ] | (simp only [i64_w, i32_w]; rw [jJ]) | skip)
      have H' := Aside0.mk H
      clear H
      go_wp2
      go_meet
      case rel => exact ⟨_, (IntKind.u64.wrap (wrap64 (-(wrap64 (a1 + 1))))), p21z, H', ⟨by have := HJ3.out; have := HJ12.out; first | omega | exact Nat.le_refl _⟩, ⟨p0z⟩⟩
     case rest =>
      clear HC15
      obtain ⟨kq, f9, rfl, HA, HJ14, HB⟩ := hcut
      cases kq with
      | zero => exact absurd HA.out (by simp [ae.j2])
      | succ kj14 =>
       have H := HA.out
       clear HA
       simp only [ae.j2] at H
       by_cases c17 : eT ≥ f9
       case pos =>
        rw [if_pos c17] at H
        have ml : decide (f9 ≤ eT) = true := decide_eq_true c17
        clear c17
        by_cases c18 : eT = f9
        case neg =>
         rw [if_neg c18] at H
         have mm : (eT == f9) = false := beq_eq_false_iff_ne.mpr c18
         have c18b1 : (eT != f9) = true := bne_iff_ne.mpr c18
         replace H := Option.bind_eq_some_iff.mp H
         obtain ⟨ko, A270, H⟩ := H
         replace H : (if (((Int.tmod ko 2) == 1) == (decide (a0 < 0))) = true then ((ac.f).bind fun lK => (some lK)) else (none)) = some r := H
         have A27 := Aside0.mk A270
         clear A270
         by_cases c28 : (((Int.tmod ko 2) == 1) == (decide (a0 < 0))) = true
         case neg =>
          rw [if_neg c28] at H
          exact absurd H (by simp)
         rw [if_pos c28] at H
         have c28b0 : (((Int.tmod ko 2) == 1) == (decide (a0 < 0))) = true := c28
         (try (have c28b1 : decide (((Int.tmod ko 2) == 1) = (decide (a0 < 0))) = true := by simpa using c28))
         (try (have c28b2 : (((Int.tmod ko 2) == 1) == (decide (a0 < 0))) = true := by simpa using c28))
         clear c28
         replace H := Option.bind_eq_some_iff.mp H
         obtain ⟨lK, A290, H⟩ := H
         replace H : (some lK) = some r := H
         have A29 := Aside0.mk A290
         clear A290
         obtain rfl := Option.some.inj H
         go_wp2_with (first | (go_at_call 18; (with_reducible refine (wire_Zig.calls a0 ko _ A27.out).mono ?_); rintro e w' ⟨rfl, ⟨nd, rfl⟩⟩) | (go_at_call 22; (with_reducible refine (ac.calls  lK _ A29.out).mono ?_); rintro e w30 ⟨rfl, hb⟩; have n0_ := Aside0.mk (below_step p0z hb); clear HB; have HB := n0_; clear n0_; (try clear hb)))
         go_ret
         exact ⟨p6z, p0z⟩
        rw [if_pos c18] at H
        have mm : (eT == f9) = true := beq_iff_eq.mpr c18
        have c18b1 : (eT != f9) = false := bne_eq_false_iff_eq.mpr c18
        clear c18
        replace H := Option.bind_eq_some_iff.mp H
        obtain ⟨fA, A190, H⟩ := H
        replace H : ((wire_Zig.f a1).bind fun hT => (if (IntKind.u64.wrap ((mx fA hT) - (mn fA hT))) ≤ 1 then (if (((Int.tmod fA 2) == 1) == (decide (a0 < 0))) = true then ((ac.f).bind fun iQ => (some iQ)) else (none)) else (none))) = some r := H
        have A19 := Aside0.mk A190
        clear A190
        replace H := Option.bind_eq_some_iff.mp H
        obtain ⟨hT, A200, H⟩ := H
        replace H : (if (IntKind.u64.wrap ((mx fA hT) - (mn fA hT))) ≤ 1 then (if (((Int.tmod fA 2) == 1) == (decide (a0 < 0))) = true then ((ac.f).bind fun iQ => (some iQ)) else (none)) else (none)) = some r := H
        have A20 := Aside0.mk A200
        clear A200
        obtain ⟨ji21, hji21⟩ : ∃ j_ : Int, (mx fA hT) = j_ := ⟨_, rfl⟩
        replace H : (if (IntKind.u64.wrap ((ji21) - (mn fA hT))) ≤ 1 then (if (((Int.tmod fA 2) == 1) == (decide (a0 < 0))) = true then ((ac.f).bind fun iQ => (some iQ)) else (none)) else (none)) = some r := by first | (rw [hji21] at H; exact H) | (simp only [hji21] at H ⊢; exact H)
        (try rw [hji21] at A19)
        (try rw [hji21] at A20)
        have hji21_ : (if fA < hT then hT else fA) = ji21 := hji21
        obtain ⟨ji22, hji22⟩ : ∃ j_ : Int, (mn fA hT) = j_ := ⟨_, rfl⟩
        replace H : (if (IntKind.u64.wrap ((ji21) - (ji22))) ≤ 1 then (if (((Int.tmod fA 2) == 1) == (decide (a0 < 0))) = true then ((ac.f).bind fun iQ => (some iQ)) else (none)) else (none)) = some r := by first | (rw [hji22] at H; exact H) | (simp only [hji22] at H ⊢; exact H)
        (try rw [hji22] at A19)
        (try rw [hji22] at A20)
        have hji22_ : (if hT < fA then hT else fA) = ji22 := hji22
        by_cases c23 : (IntKind.u64.wrap ((ji21) - (ji22))) ≤ 1
        case neg =>
         rw [if_neg c23] at H
         exact absurd H (by simp)
        rw [if_pos c23] at H
        have l8 : decide ((IntKind.u64.wrap ((ji21) - (ji22))) ≤ 1) = true := decide_eq_true c23
        clear c23
        by_cases c24 : (((Int.tmod fA 2) == 1) == (decide (a0 < 0))) = true
        case neg =>
         rw [if_neg c24] at H
         exact absurd H (by simp)
        rw [if_pos c24] at H
        have c24b0 : (((Int.tmod fA 2) == 1) == (decide (a0 < 0))) = true := c24
        (try (have c24b1 : decide (((Int.tmod fA 2) == 1) = (decide (a0 < 0))) = true := by simpa using c24))
        (try (have c24b2 : (((Int.tmod fA 2) == 1) == (decide (a0 < 0))) = true := by simpa using c24))
        clear c24
        replace H := Option.bind_eq_some_iff.mp H
        obtain ⟨iQ, A250, H⟩ := H
        replace H : (some iQ) = some r := H
        have A25 := Aside0.mk A250
        clear A250
        obtain rfl := Option.some.inj H
        go_wp2_with (first | (go_at_call 18; (with_reducible refine (wire_Zig.calls a0 fA _ A19.out).mono ?_); rintro e w' ⟨rfl, ⟨nd, rfl⟩⟩) | (go_at_call 18; (with_reducible refine (wire_Zig.calls a1 hT _ A20.out).mono ?_); rintro e w' ⟨rfl, ⟨nd, rfl⟩⟩) | (go_at_call 22; (with_reducible refine (ac.calls  iQ _ A25.out).mono ?_); rintro e w26 ⟨rfl, hb⟩; have n0_ := Aside0.mk (below_step p0z hb); clear HB; have HB := n0_; clear n0_; (try clear hb)))
        go_ret
        exact ⟨by first | rfl | (simp [errW_none, errW_some] <;> rfl) | (simp only [← hji21, ← hji22]; first | rfl | (simp [errW_none, errW_some] <;> rfl)) | (simp [*, errW_none, errW_some] <;> rfl), p0z⟩
       rw [if_neg c17] at H
       have ml : decide (f9 ≤ eT) = false := decide_eq_false c17
       clear c17
       replace H := Option.bind_eq_some_iff.mp H
       obtain ⟨eb, A310, H⟩ := H
       replace H : ((wire_Zig.f a1).bind fun fX => (if eb < fX then (if eT = f9 then (if (IntKind.u64.wrap ((mx eb fX) - (mn eb fX))) ≤ 1 then (if (((Int.tmod eb 2) == 1) == (decide (a0 < 0))) = true then ((ac.f).bind fun iR => (some iR)) else (none)) else (none)) else (if (((Int.tmod eb 2) == 1) == (decide (a0 < 0))) = true then ((ac.f).bind fun kp => (some kp)) else (none))) else (none))) = some r := H
       have A31 := Aside0.mk A310
       clear A310
       replace H := Option.bind_eq_some_iff.mp H
       obtain ⟨fX, A320, H⟩ := H
       replace H : (if eb < fX then (if eT = f9 then (if (IntKind.u64.wrap ((mx eb fX) - (mn eb fX))) ≤ 1 then (if (((Int.tmod eb 2) == 1) == (decide (a0 < 0))) = true then ((ac.f).bind fun iR => (some iR)) else (none)) else (none)) else (if (((Int.tmod eb 2) == 1) == (decide (a0 < 0))) = true then ((ac.f).bind fun kp => (some kp)) else (none))) else (none)) = some r := H
       have A32 := Aside0.mk A320
       clear A320
       by_cases c33 : eb < fX
       case neg =>
        rw [if_neg c33] at H
        exact absurd H (by simp)

       rw [if_pos c33] at H
       have mc : decide (eb < fX) = true := decide_eq_true c33
       clear c33
       by_cases c34 : eT = f9
       case neg =>
        rw [if_neg c34] at H
        have lg : (eT == f9) = false := beq_eq_false_iff_ne.mpr c34
        have md : (eT != f9) = true := bne_iff_ne.mpr c34
        by_cases c41 : (((Int.tmod eb 2) == 1) == (decide (a0 < 0))) = true
        case neg =>
         rw [if_neg c41] at H
         exact absurd H (by simp)
        rw [if_pos c41] at H
        have c41b0 : (((Int.tmod eb 2) == 1) == (decide (a0 < 0))) = true := c41
        (try (have c41b1 : decide (((Int.tmod eb 2) == 1) = (decide (a0 < 0))) = true := by simpa using c41))
        (try (have c41b2 : (((Int.tmod eb 2) == 1) == (decide (a0 < 0))) = true := by simpa using c41))
        clear c41
        replace H := Option.bind_eq_some_iff.mp H
        obtain ⟨kp, A420, H⟩ := H
        replace H : (some kp) = some r := H
        have A42 := Aside0.mk A420
        clear A420
        obtain rfl := Option.some.inj H
        go_wp2_with (first | (go_at_call 18; (with_reducible refine (wire_Zig.calls a0 eb _ A31.out).mono ?_); rintro e w' ⟨rfl, ⟨nd, rfl⟩⟩) | (go_at_call 18; (with_reducible refine (wire_Zig.calls a1 fX _ A32.out).mono ?_); rintro e w' ⟨rfl, ⟨nd, rfl⟩⟩) | (go_at_call 22; (with_reducible refine (ac.calls  kp _ A42.out).mono ?_); rintro e w43 ⟨rfl, hb⟩; have n0_ := Aside0.mk (below_step p0z hb); clear HB; have HB := n0_; clear n0_; (try clear hb)))
        go_ret
        exact ⟨p6z, p0z⟩
       rw [if_pos c34] at H
       have lg : (eT == f9) = true := beq_iff_eq.mpr c34
       have md : (eT != f9) = false := bne_eq_false_iff_eq.mpr c34
       clear c34
       obtain ⟨ji35, hji35⟩ : ∃ j_ : Int, (mx eb fX) = j_ := ⟨_, rfl⟩
       replace H : (if (IntKind.u64.wrap ((ji35) - (mn eb fX))) ≤ 1 then (if (((Int.tmod eb 2) == 1) == (decide (a0 < 0))) = true then ((ac.f).bind fun iR => (some iR)) else (none)) else (none)) = some r := by first | (rw [hji35] at H; exact H) | (simp only [hji35] at H ⊢; exact H)
       (try rw [hji35] at A31)
       (try rw [hji35] at A32)
       have hji35_ : (if eb < fX then fX else eb) = ji35 := hji35
       obtain ⟨ji36, hji36⟩ : ∃ j_ : Int, (mn eb fX) = j_ := ⟨_, rfl⟩
       replace H : (if (IntKind.u64.wrap ((ji35) - (ji36))) ≤ 1 then (if (((Int.tmod eb 2) == 1) == (decide (a0 < 0))) = true then ((ac.f).bind fun iR => (some iR)) else (none)) else (none)) = some r := by first | (rw [hji36] at H; exact H) | (simp only [hji36] at H ⊢; exact H)
       (try rw [hji36] at A31)
       (try rw [hji36] at A32)
       have hji36_ : (if fX < eb then fX else eb) = ji36 := hji36
       by_cases c37 : (IntKind.u64.wrap ((ji35) - (ji36))) ≤ 1
       case neg =>
        rw [if_neg c37] at H
        exact absurd H (by simp)
       rw [if_pos c37] at H
       have c37b0 : decide ((IntKind.u64.wrap ((ji35) - (ji36))) ≤ 1) = true := decide_eq_true c37
       clear c37
       by_cases c38 : (((Int.tmod eb 2) == 1) == (decide (a0 < 0))) = true
       case neg =>
        rw [if_neg c38] at H
        exact absurd H (by simp)
       rw [if_pos c38] at H
       have iK : (((Int.tmod eb 2) == 1) == (decide (a0 < 0))) = true := c38
       (try (have lc : decide (((Int.tmod eb 2) == 1) = (decide (a0 < 0))) = true := by simpa using c38))
       (try (have c38b2 : (((Int.tmod eb 2) == 1) == (decide (a0 < 0))) = true := by simpa using c38))
       clear c38
       replace H := Option.bind_eq_some_iff.mp H
       obtain ⟨iR, A390, H⟩ := H
       replace H : (some iR) = some r := H
       have A39 := Aside0.mk A390
       clear A390
       obtain rfl := Option.some.inj H
       go_wp2_with (first | (go_at_call 18; (with_reducible refine (wire_Zig.calls a0 eb _ A31.out).mono ?_); rintro e w' ⟨rfl, ⟨nd, rfl⟩⟩) | (go_at_call 18; (with_reducible refine (wire_Zig.calls a1 fX _ A32.out).mono ?_); rintro e w' ⟨rfl, ⟨nd, rfl⟩⟩) | (go_at_call 22; (with_reducible refine (ac.calls  iR _ A39.out).mono ?_); rintro e w40 ⟨rfl, hb⟩; have n0_ := Aside0.mk (below_step p0z hb); clear HB; have HB := n0_; clear n0_; (try clear hb)))
       go_ret
       exact ⟨by first | rfl | (simp [errW_none, errW_some] <;> rfl) | (simp only [← hji35, ← hji36]; first | rfl | (simp [errW_none, errW_some] <;> rfl)) | (simp [*, errW_none, errW_some] <;> rfl), p0z⟩
/-- THE ONE PURE STATEMENT of ae: yours. -/
def ae.Pure : Prop := ∀ (a0 : Int) (a1 : Int) (a2 : Int), (Lit.int .i64 a0).wf = true → (Lit.int .i64 a1).wf = true → (Lit.int .u64 a2).wf = true → ∃ k, ae.f k a0 a1 a2 = some true
end Go.Proofs.Ytbclejgljegfmaa.PAll
