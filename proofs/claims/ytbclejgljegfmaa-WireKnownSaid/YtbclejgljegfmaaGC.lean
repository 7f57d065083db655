-- Written by this repo's program wip/tools/pr.py (over the kit's print) out of the translation. Not trusted: Lean checks it.
import Derived.Test.YtbclejgljegfmaaAp
import Derived.Test.YtbclejgljegfmaaPAllx0
import Derived.Test.YtbclejgljegfmaaHandLen
import Derived.Test.YtbclejgljegfmaaHandVar
set_option maxHeartbeats 8000000
set_option maxRecDepth 100000
namespace Go.Proofs.Ytbclejgljegfmaa.PAll
open Go.Proofs.Ytbclejgljegfmaa.Hand
open Go.RowKit Go.Proofs.YtbclejgljegfmaaW.PrintWords Go.Proofs.YtbclejgljegfmaaW.PrintLast Go.Proofs.YtbclejgljegfmaaW.PrintMore
attribute [local go_sem] max2_int min2_int max_two min_two max_three min_three max_four min_four   -- for this text's walks alone
set_option linter.unusedVariables false
set_option linter.unusedSimpArgs false

/-! ### wire_Size: function 16 -/
def wire_Size.f (a0 : Int) : Option (Int) := (bits_Len64.f a0).bind fun k5 => (some (mx 1 (wrap64 (Int.tdiv (wrap64 ((wrap64 (k5 + 7)) - 1)) 7))))
theorem wire_Size.calls (a0 : Int) (r : Int) (w : World) (h : wire_Size.f a0 = some r) :
    Calls Try.prog 16 #[.int .u64 a0] w fun e w' => e = .returned (.int .i64 r) ∧ Below w.heap.size w w' := by
  have HB := Aside0.mk (Below.refl w.heap.size w)
  have H : ((bits_Len64.f a0).bind fun k5 => (some (mx 1 (wrap64 (Int.tdiv (wrap64 ((wrap64 (k5 + 7)) - 1)) 7))))) = some r := h
  clear h
  replace H := Option.bind_eq_some_iff.mp H
  obtain ⟨k5, A20, H⟩ := H
  replace H : (some (mx 1 (wrap64 (Int.tdiv (wrap64 ((wrap64 (k5 + 7)) - 1)) 7)))) = some r := H
  have A2 := Aside0.mk A20
  clear A20
  obtain ⟨ji3, hji3⟩ : ∃ j_ : Int, (mx 1 (wrap64 (Int.tdiv (wrap64 ((wrap64 (k5 + 7)) - 1)) 7))) = j_ := ⟨_, rfl⟩
  replace H : (some ji3) = some r := by first | (rw [hji3] at H; exact H) | (simp only [hji3] at H ⊢; exact H)
  (try rw [hji3] at A2)
  (try (have hji3l : 1 ≤ ji3 := by (rw [← hji3]; unfold mx; (repeat' split) <;> omega)))
  (try (have hji3m : 0 ≤ ji3 := by omega))
  have hji3_ : (if 1 < (wrap64 (Int.tdiv (wrap64 ((wrap64 (k5 + 7)) - 1)) 7)) then (wrap64 (Int.tdiv (wrap64 ((wrap64 (k5 + 7)) - 1)) 7)) else 1) = ji3 := hji3
  obtain rfl := Option.some.inj H
  go_enter Try.func16, Try.ntmps16
  go_wp2_with (first | ((with_reducible refine gate_callee (f := 41) rfl ?_); refine goesL_ (some 4) rfl rfl Try.func41 p16z rfl #[.int .u64 a0] rfl p2z ?_; (with_reducible refine (bits_Len64.calls a0 k5 _ A2.out).mono ?_); rintro e w' ⟨rfl, ⟨nd, rfl⟩⟩; refine ⟨_, rfl, ?_⟩))
  go_ret
  exact ⟨by first | rfl | (simp [errW_none, errW_some] <;> rfl) | (simp only [← hji3]; first | rfl | (simp [errW_none, errW_some] <;> rfl)) | (simp [*, errW_none, errW_some] <;> rfl), p0z⟩

/-! ### bt: function 52 -/
def bt.l0 : Nat → List Int → Int → Int → Int → Option (List Int)
  | 0, _, _, _, _ => none
  | k + 1, x0, x1, x7, x8 => if x8 < x7 then (if x0.length < 140737488355328 then (bt.l0 k (x0 ++ [(x1) % 256]) (x1 / 256) x7 (wrap64 (x8 + 1))) else (none)) else (some x0)
def bt.f (k : Nat) (l0 : List Int) (a1 : Int) (a2 : Int) : Option (List Int) := bt.l0 k l0 a1 a2 0
theorem bt.calls (k : Nat) (P0_ : Nat → Prop) (u9000_ : Value) (l0 : List Int) (a1 : Int) (a2 : Int) (r : List Int) (w0 w : World) (hB : Below w0.heap.size w0 w) (ho0 : Kd.R (Kd.int .u8) 5 w w0.heap.size P0_ u9000_ l0) (h : bt.f k l0 a1 a2 = some r) :
 Calls Try.prog 52 #[u9000_, .int .u64 a1, .int .i64 a2] w fun e w' => ∃ v0_ : Value, e = .returned (v0_) ∧ Kd.R (Kd.int .u8) 5 w' w0.heap.size (fun k_ => (P0_ k_ ∨ w.heap.size ≤ k_)) v0_ r ∧ Below w0.heap.size w0 w' ∧ Kept w w' (fun k_ => P0_ k_) := by
 have HO0 := Aside0.mk (show Kd.R (Kd.int .u8) 5 w w0.heap.size (fun k_ => (P0_ k_ ∨ w.heap.size ≤ k_)) u9000_ l0 from Kd.R_mono ho0 (fun k_ hk => (.inl hk)))
 have HK := Aside0.mk (Kept.refl w (fun k_ => P0_ k_))
 have HW0 := Aside0.mk hB.size
 have HB := Aside0.mk hB
 clear hB
 have H : (bt.l0 k l0 a1 a2 0) = some r := h
 clear h
 have H' := Aside0.mk H
 clear H
 go_enter Try.func52, Try.ntmps52
 go_wp2
 go_loopg [0, 1, 8] k (fun kq v0 v1 v8 w' => ∃ (cH : List Int) (fO : Int) (dZ : Int), v1 = .int .u64 fO ∧ v8 = .int .i64 dZ ∧ Aside0 (bt.l0 kq cH fO a2 dZ = some r) ∧ Aside0 (kq ≤ k) ∧ Aside0 (Kd.R (Kd.int .u8) 5 w' w0.heap.size (fun k_ => (P0_ k_ ∨ w.heap.size ≤ k_)) v0 cH) ∧ Aside0 (Kept w w' (fun k_ => P0_ k_)) ∧ Aside0 (Below w0.heap.size w0 w'))
 case atStart => exact ⟨(l0), (a1), (0), p21z, p21z, H', ⟨Nat.le_refl _⟩, ⟨q0z HO0.out⟩, ⟨p156z⟩, ⟨p0z⟩⟩
 case round =>
  clear H'
  obtain ⟨cH, fO, dZ, rfl, rfl, HA, HK1, du, HK, HB⟩ := hrel
  cases gk with
  | zero => exact absurd HA.out (by simp [bt.l0])
  | succ k1 =>
   have H := HA.out
   clear HA
   simp only [bt.l0] at H
   by_cases c4 : dZ < a2
   case neg =>
    rw [if_neg c4] at H
    have gx : decide (dZ < a2) = false := decide_eq_false c4
    clear c4
    obtain rfl := Option.some.inj H
    go_wp2
    go_ret
    exact ⟨_, p6z, q0z du.out, p0z, p156z⟩

   rw [if_pos c4] at H
   have gx : decide (dZ < a2) = true := decide_eq_true c4
   clear c4
   by_cases c5 : cH.length < 140737488355328
   case neg =>
    rw [if_neg c5] at H
    exact absurd H (by simp)
   rw [if_pos c5] at H
   have LMc5 := Aside0.mk c5
   clear c5
   obtain ⟨y125, hy125⟩ : ∃ y_ : List Int, y_ = (cH ++ [(fO) % 256]) := ⟨_, rfl⟩
   replace H : (bt.l0 k1 y125 (fO / 256) a2 (wrap64 (dZ + 1))) = some r := by first | (rw [hy125]; with_reducible exact H) | (have H2_ := (Option.bind_some _ _).symm.trans H; rw [hy125]; with_reducible exact H2_) | (have H2_ := (Option.bind_some _ _).symm.trans H; with_reducible exact H2_) | with_reducible exact H | (rw [hy125]; exact H) | exact H
   have Ny125 := Aside0.mk hy125
   clear hy125
   have H' := Aside0.mk H
   clear H
   go_wp2_with (first | ((with_reducible refine gate_builtin (b := .append) (xs := #[.tmp 10, .tmp 13]) rfl ?_); at_builtin; refine Kd.R_append (Kd.int .u8) (w0 := w0) w0.heap.size rfl (.tmp 10) (.tmp 13) 22 5 (.int .u8 0) 1 rfl Try.underlying22 info5 rfl (by decide) (by omega) u0 cH ((fO) % 256) [.int .u8 ((fO) % 256)] (fun k_ => (P0_ k_ ∨ w.heap.size ≤ k_)) (fun _ => False) rfl rfl ?aP (fun _ hk => hk.elim) ?aF ?aO ?aB ?aS ?aL ?_; (case aP => exact rfl); (case aB => exact p0z); (case aF => exact (fun k_ hk => (.inr (Nat.le_trans (by first | exact HK.out.1 | exact (show Kept w _ (fun k_ => P0_ k_) from p156z).1) hk)))); (case aO => exact (q0z du.out)); (case aS => exact (below_size p0z)); (case aL => have := LMc5.out; omega); intro v126 w6 ho hb hg hat; rw [← Ny125.out] at ho; have z_ := asi3 (hb) (Kept.of_grown (S := (fun k_ => P0_ k_)) hg p156z (fun k_ e_ => (du.out.1 k_ e_))) (ho); clear HB HK du; obtain ⟨HB, HK, HO127⟩ := z_; clear ho hb hg hat))
   go_roundg k1
   case measure => have := HK1.out; omega
   case rel => exact ⟨(y125), (fO / 256), (wrap64 (dZ + 1)), p21z, p21z, H', ⟨p217z⟩, ⟨q0z HO127.out⟩, ⟨p156z⟩, ⟨p0z⟩⟩
/-! ### wire_Make: function 32 -/
def wire_Make.j0 : Nat → Int → Int → Int → List Int → Bool → Option (Int × Int × Int × List Int × List Int × Int)
  | 0, _, _, _, _, _ => none
  | k + 1, x0, x1, x2, x3, x17 => if x17 = true then (some (0, 0, 0, ([] : List Int), ([] : List Int), 9)) else ((wire_Var.f ([] : List Int) (Go.bits .or .u64 (IntKind.u64.wrap ((IntKind.u64.wrap (x0)) * 8)) (IntKind.u64.wrap (Go.bits .and .i64 x1 7)))).bind fun ea => (if x1 = 0 then ((wire_Var.f ea x2).bind fun ji => (some (x0, x1, x2, ([] : List Int), ji, 0))) else (if x1 = 1 then ((bt.f k ea x2 8).bind fun jj => (some (x0, x1, x2, ([] : List Int), jj, 0))) else (if x1 = 2 then (if (x3.length : Int) > 1048576 then (some (0, 0, 0, ([] : List Int), ([] : List Int), 5)) else ((aG.f x3).bind fun fV => ((wire_Var.f ea (IntKind.u64.wrap ((x3.length : Int)))).bind fun gK => (if gK.length + x3.length < 140737488355328 then (some (x0, x1, 0, fV, (gK ++ x3), 0)) else (none))))) else (if x1 = 5 then (if x2 > 4294967295 then (some (0, 0, 0, ([] : List Int), ([] : List Int), 9)) else ((bt.f k ea x2 4).bind fun jk => (some (x0, x1, x2, ([] : List Int), jk, 0)))) else (some (0, 0, 0, ([] : List Int), ([] : List Int), 10)))))))
def wire_Make.f (k : Nat) (a0 : Int) (a1 : Int) (a2 : Int) (l3 : List Int) : Option (Int × Int × Int × List Int × List Int × Int) := if a0 < 1 then (wire_Make.j0 k a0 a1 a2 l3 true) else (wire_Make.j0 k a0 a1 a2 l3 (decide (a0 > 536870911)))
theorem wire_Make.calls (k : Nat) (a0 : Int) (a1 : Int) (a2 : Int) (A3 : Option Addr) (c3 : Nat) (l3 : List Int) (r1 : Int) (r2 : Int) (r3 : Int) (r4 : List Int) (r5 : List Int) (r6 : Int) (w : World) (hr3 : Kd.C (Kd.int .u8) w A3 l3.length l3) (hc3 : l3.length ≤ c3) (h : wire_Make.f k a0 a1 a2 l3 = some (r1, r2, r3, r4, r5, r6)) :
 Calls Try.prog 32 #[.int .i64 a0, .int .i64 a1, .int .u64 a2, .slice A3 l3.length c3] w fun e w' => ∃ v3_ v4_ : Value, e = .returned (.tuple #[.agg #[.int .i64 r1, .int .i64 r2, .int .u64 r3, v3_, v4_], .int .i64 r6]) ∧ Kd.R (Kd.int .u8) 5 w' w.heap.size (fun k_ => some k_ ≠ (v4_ : Value).ownBlock) v3_ r4 ∧ Kd.R (Kd.int .u8) 5 w' w.heap.size (fun k_ => some k_ ≠ (v3_ : Value).ownBlock) v4_ r5 ∧ Below w.heap.size w w' := by
 have hu33 := Try.underlying33
 have HR3 := Aside0.mk hr3
 have HC3 := Aside0.mk hc3
 clear hr3 hc3
 have HB := Aside0.mk (Below.refl w.heap.size w)
 have H : (if a0 < 1 then (wire_Make.j0 k a0 a1 a2 l3 true) else (wire_Make.j0 k a0 a1 a2 l3 (decide (a0 > 536870911)))) = some (r1, r2, r3, r4, r5, r6) := h
 clear h
 have HC5 := Aside0.mk H
 clear H
 go_enter Try.func32, Try.ntmps32
 go_upto_region 1 with (first | ((with_reducible refine gate_dst (N := 8) rfl ?_); refine box_event ?hg (N := 8) ?hd (cs := #[.int .i64 0, .int .i64 0, .int .u64 0, .slice none 0 0, .slice none 0 0]) (t := 33) ?hr ?_; (case hd => rfl); (case hg => rfl); (case hr => exact p22z); intro bd hg w6 hbox hb; have z_ := asi4 (below_step p0z hb) (hbox) ((p38z : w.heap.size ≤ bd)) ((p38z : w.heap.size ≤ bd)); clear HB; obtain ⟨HB, aI, GW128, GE128⟩ := z_; clear hb hbox hg))
 (try simp only [Act.put, List.setIfInBounds_toArray, List.set_cons_zero, List.set_cons_succ])
 go_cut [17] (fun v17 wc => ∃ (kq : Nat) (im : Bool), v17 = .bool im ∧ Aside0 (wire_Make.j0 kq a0 a1 a2 l3 im = some (r1, r2, r3, r4, r5, r6)) ∧ Aside0 (kq ≤ k) ∧ Aside0 (wc.heap[bd]? = some (.cells #[.int .i64 0, .int .i64 0, .int .u64 0, (.slice none 0 0), (.slice none 0 0)] 33 (0, 0))) ∧ Aside0 (Below w.heap.size w wc))
 case first =>
  have H := HC5.out
  clear HC5
  by_cases c7 : a0 < 1
  case pos =>
   rw [if_pos c7] at H
   have fs : decide (a0 < 1) = true := decide_eq_true c7
   clear c7
   (first | rw [fs] | (simp only [i64_w, i32_w]; rw [fs]) | skip)
   have H' := Aside0.mk H
   clear H
   go_wp2
   go_meet
   case rel => exact ⟨_, (true), p21z, H', ⟨p160z⟩, ⟨p26z⟩, ⟨p18z⟩⟩
  rw [if_neg c7] at H
  have fs : decide (a0 < 1) = false := decide_eq_false c7
  clear c7
  (first | rw [fs] | (simp only [i64_w, i32_w]; rw [fs]) | skip)
  have H' := Aside0.mk H
  clear H
  go_wp2
  go_meet
  case rel => exact ⟨_, (decide (a0 > 536870911)), p21z, H', ⟨p160z⟩, ⟨p26z⟩, ⟨p18z⟩⟩
 case rest =>
  clear HC5
  try clear c3
  obtain ⟨kq, im, rfl, HA, HJ4, aI, HB⟩ := hcut
  cases kq with
  | zero => exact absurd HA.out (by simp [wire_Make.j0])
  | succ kj4 =>
   have H := HA.out
   clear HA
   simp only [wire_Make.j0] at H
   by_cases c8 : im = true
   case pos =>
    subst c8
    have H1 : (some (0, 0, 0, ([] : List Int), ([] : List Int), 9)) = some (r1, r2, r3, r4, r5, r6) := p99z
    clear H
    have H := H1
    clear H1
    simp only [Option.some.injEq, Prod.mk.injEq] at H
    obtain ⟨rfl, rfl, rfl, rfl, rfl, rfl⟩ := H
    have hcz9_0 : wc.cell? ⟨bd, 0, none⟩ = some (.int .i64 0) := (blk_cell aI.out 0).trans rfl
    have hcz9_1 : wc.cell? ⟨bd, 1, none⟩ = some (.int .i64 0) := (blk_cell aI.out 1).trans rfl
    have hcz9_2 : wc.cell? ⟨bd, 2, none⟩ = some (.int .u64 0) := (blk_cell aI.out 2).trans rfl
    have hcz9_3 : wc.cell? ⟨bd, 3, none⟩ = some (.slice none 0 0) := (blk_cell aI.out 3).trans rfl
    have hcz9_4 : wc.cell? ⟨bd, 4, none⟩ = some (.slice none 0 0) := (blk_cell aI.out 4).trans rfl
    have hfz9_0 := blk_frozen aI.out 0
    have hfz9_1 := blk_frozen aI.out 1
    have hfz9_2 := blk_frozen aI.out 2
    have hfz9_3 := blk_frozen aI.out 3
    have hfz9_4 := blk_frozen aI.out 4
    go_wp2
    refine bodyPost_ret (results_ct rfl _ _ bd 33 #[.int .i64 0, .int .i64 0, .int .u64 0, .slice none 0 0, .slice none 0 0] (0, 0) _ rfl p24z Try.underlying33 rfl p16z) rfl ?_
    exact ⟨_, _, p6z, p9z, p9z, p18z⟩
   replace c8 := Bool.eq_false_iff.mpr c8
   subst c8
   have H1 : ((wire_Var.f ([] : List Int) (Go.bits .or .u64 (IntKind.u64.wrap ((IntKind.u64.wrap (a0)) * 8)) (IntKind.u64.wrap (Go.bits .and .i64 a1 7)))).bind fun ea => (if a1 = 0 then ((wire_Var.f ea a2).bind fun ji => (some (a0, a1, a2, ([] : List Int), ji, 0))) else (if a1 = 1 then ((bt.f kj4 ea a2 8).bind fun jj => (some (a0, a1, a2, ([] : List Int), jj, 0))) else (if a1 = 2 then (if (l3.length : Int) > 1048576 then (some (0, 0, 0, ([] : List Int), ([] : List Int), 5)) else ((aG.f l3).bind fun fV => ((wire_Var.f ea (IntKind.u64.wrap ((l3.length : Int)))).bind fun gK => (if gK.length + l3.length < 140737488355328 then (some (a0, a1, 0, fV, (gK ++ l3), 0)) else (none))))) else (if a1 = 5 then (if a2 > 4294967295 then (some (0, 0, 0, ([] : List Int), ([] : List Int), 9)) else ((bt.f kj4 ea a2 4).bind fun jk => (some (a0, a1, a2, ([] : List Int), jk, 0)))) else (some (0, 0, 0, ([] : List Int), ([] : List Int), 10))))))) = some (r1, r2, r3, r4, r5, r6) := p42z
   clear H
   have H := H1
   clear H1
   replace H := Option.bind_eq_some_iff.mp H
   obtain ⟨ea, A100, H⟩ := H
   replace H : (if a1 = 0 then ((wire_Var.f ea a2).bind fun ji => (some (a0, a1, a2, ([] : List Int), ji, 0))) else (if a1 = 1 then ((bt.f kj4 ea a2 8).bind fun jj => (some (a0, a1, a2, ([] : List Int), jj, 0))) else (if a1 = 2 then (if (l3.length : Int) > 1048576 then (some (0, 0, 0, ([] : List Int), ([] : List Int), 5)) else ((aG.f l3).bind fun fV => ((wire_Var.f ea (IntKind.u64.wrap ((l3.length : Int)))).bind fun gK => (if gK.length + l3.length < 140737488355328 then (some (a0, a1, 0, fV, (gK ++ l3), 0)) else (none))))) else (if a1 = 5 then (if a2 > 4294967295 then (some (0, 0, 0, ([] : List Int), ([] : List Int), 9)) else ((bt.f kj4 ea a2 4).bind fun jk => (some (a0, a1, a2, ([] : List Int), jk, 0)))) else (some (0, 0, 0, ([] : List Int), ([] : List Int), 10)))))) = some (r1, r2, r3, r4, r5, r6) := H
   have A10 := Aside0.mk A100
   clear A100
   by_cases c11 : a1 = 0
   case pos =>
    rw [if_pos c11] at H
    have iJ : (a1 == 0) = true := beq_iff_eq.mpr c11
    have je : (a1 != 0) = false := bne_eq_false_iff_eq.mpr c11
    clear c11
    replace H := Option.bind_eq_some_iff.mp H
    obtain ⟨ji, A120, H⟩ := H
    replace H : (some (a0, a1, a2, ([] : List Int), ji, 0)) = some (r1, r2, r3, r4, r5, r6) := H
    have A12 := Aside0.mk A120
    clear A120
    simp only [Option.some.injEq, Prod.mk.injEq] at H
    obtain ⟨rfl, rfl, rfl, rfl, rfl, rfl⟩ := H
    go_wp2_with (first | ((with_reducible refine gate_dst (N := 10) rfl ?_); refine box_event ?hg (N := 10) ?hd (cs := #[.int .i64 0, .int .i64 0, .int .u64 0, .slice none 0 0, .slice none 0 0]) (t := 33) ?hr ?_; (case hd => rfl); (case hg => rfl); (case hr => exact p22z); intro b7 hg w13 hbox hb; have z_ := asi7 (blk_below (g := bd) (o := .cells #[.int .i64 0, .int .i64 0, .int .u64 0, .slice none 0 0, .slice none 0 0] 33 (0, 0)) p26z hb) (below_step p18z hb) (hbox) ((p171z : w.heap.size ≤ b7)) ((p171z : w.heap.size ≤ b7)) ((p95z : bd ≠ b7)) ((p96z : b7 ≠ bd)); clear aI HB; obtain ⟨aI, HB, ap, GW129, jl, NB128_129, NB129_128⟩ := z_; clear hb hbox hg; have hnb14 := NB129_128.out; have hnc14 := NB128_129.out; have hcz15_0 : w13.cell? ⟨b7, 0, none⟩ = some (.int .i64 0) := (blk_cell ap.out 0).trans rfl; have hcz15_1 : w13.cell? ⟨b7, 1, none⟩ = some (.int .i64 0) := (blk_cell ap.out 1).trans rfl; have hcz15_2 : w13.cell? ⟨b7, 2, none⟩ = some (.int .u64 0) := (blk_cell ap.out 2).trans rfl; have hcz15_3 : w13.cell? ⟨b7, 3, none⟩ = some (.slice none 0 0) := (blk_cell ap.out 3).trans rfl; have hcz15_4 : w13.cell? ⟨b7, 4, none⟩ = some (.slice none 0 0) := (blk_cell ap.out 4).trans rfl; have hfz15_0 := blk_frozen ap.out 0; have hfz15_1 := blk_frozen ap.out 1; have hfz15_2 := blk_frozen ap.out 2; have hfz15_3 := blk_frozen ap.out 3; have hfz15_4 := blk_frozen ap.out 4) | ((with_reducible refine gate_callee (f := 13) rfl ?_); refine goesL_ (some 30) rfl rfl Try.func13 p16z rfl #[.slice none 0 0, .int .u64 (Go.bits .or .u64 (IntKind.u64.wrap ((IntKind.u64.wrap (a0)) * 8)) (IntKind.u64.wrap (Go.bits .and .i64 a1 7)))] rfl p2z ?_; (refine (wire_Var.calls _ _ ([] : List Int) (Go.bits .or .u64 (IntKind.u64.wrap ((IntKind.u64.wrap (a0)) * 8)) (IntKind.u64.wrap (Go.bits .and .i64 a1 7))) ea _ ?side1 ?side2 A10.out).mono ?_); (case side1 => exact Kd.C_nil _ _); (case side2 => exact Nat.le_refl _); rintro e w16 ⟨lH, rfl, ho0, hb⟩; refine ⟨_, rfl, ?_⟩; have z_ := asi4 (Kd.R_lower ho0 (below_size p7z)) (blk_below (g := bd) (o := .cells #[.int .i64 0, .int .i64 0, .int .u64 0, .slice none 0 0, .slice none 0 0] 33 (0, 0)) p12z hb) (blk_below (g := b7) (o := .cells #[.int .i64 a0, .int .i64 a1, .int .u64 a2, .slice none 0 0, .slice none 0 0] 33 (0, 0)) p3z hb) (below_step p7z hb); clear aI ap HB; obtain ⟨dF, aI, ap, HB⟩ := z_; (try clear hb ho0); obtain ⟨cO, co17, eo17⟩ := Kd.R_slice dF.out; subst eo17) | ((with_reducible refine gate_callee (f := 13) rfl ?_); refine goesL_ (some 37) rfl rfl Try.func13 p16z rfl #[.slice cO ea.length co17, .int .u64 a2] rfl p2z ?_; (with_reducible refine (wire_Var.calls _ _ ea a2 ji _ ?side1 ?side2 A12.out).mono ?_); (case side1 => repeat (first | exact (Kd.R_reads' dF.out).2.2 | (with_reducible refine Kd.C_alloc ?_ _) | (with_reducible refine Kd.C_drewN ?_ _) | (with_reducible refine Kd.C_drew ?_))); (case side2 => exact (Kd.R_reads' dF.out).2.1); rintro e w18 ⟨v134, rfl, ho0, hb⟩; refine ⟨_, rfl, ?_⟩; have z_ := asi5 (Kd.R_elder' p163z (Kd.R_base ho0) hb) (Kd.R_lower (Kd.R_new' ho0 (Kd.R_lt p163z)) (below_size p7z)) (blk_below (g := bd) (o := .cells #[.int .i64 0, .int .i64 0, .int .u64 0, .slice none 0 0, .slice none 0 0] 33 (0, 0)) p26z hb) (blk_below (g := b7) (o := .cells #[.int .i64 a0, .int .i64 a1, .int .u64 a2, .slice none 0 0, .slice none 0 0] 33 (0, 0)) p158z hb) (below_step p7z hb); clear dF aI ap HB; obtain ⟨dF, HO135, aI, ap, HB⟩ := z_; (try clear hb ho0); obtain ⟨cT, co19, eo19⟩ := Kd.R_slice HO135.out; subst eo19; have hcz20_0 : w18.cell? ⟨b7, 0, none⟩ = some (.int .i64 a0) := (blk_cell ap.out 0).trans rfl; have hcz20_1 : w18.cell? ⟨b7, 1, none⟩ = some (.int .i64 a1) := (blk_cell ap.out 1).trans rfl; have hcz20_2 : w18.cell? ⟨b7, 2, none⟩ = some (.int .u64 a2) := (blk_cell ap.out 2).trans rfl; have hcz20_3 : w18.cell? ⟨b7, 3, none⟩ = some (.slice none 0 0) := (blk_cell ap.out 3).trans rfl; have hcz20_4 : w18.cell? ⟨b7, 4, none⟩ = some (.slice none 0 0) := (blk_cell ap.out 4).trans rfl; have hfz20_0 := blk_frozen ap.out 0; have hfz20_1 := blk_frozen ap.out 1; have hfz20_2 := blk_frozen ap.out 2; have hfz20_3 := blk_frozen ap.out 3; have hfz20_4 := blk_frozen ap.out 4; have hcz21_0 : w18.cell? ⟨bd, 0, none⟩ = some (.int .i64 0) := (blk_cell aI.out 0).trans rfl; have hcz21_1 : w18.cell? ⟨bd, 1, none⟩ = some (.int .i64 0) := (blk_cell aI.out 1).trans rfl; have hcz21_2 : w18.cell? ⟨bd, 2, none⟩ = some (.int .u64 0) := (blk_cell aI.out 2).trans rfl; have hcz21_3 : w18.cell? ⟨bd, 3, none⟩ = some (.slice none 0 0) := (blk_cell aI.out 3).trans rfl; have hcz21_4 : w18.cell? ⟨bd, 4, none⟩ = some (.slice none 0 0) := (blk_cell aI.out 4).trans rfl; have hfz21_0 := blk_frozen aI.out 0; have hfz21_1 := blk_frozen aI.out 1; have hfz21_2 := blk_frozen aI.out 2; have hfz21_3 := blk_frozen aI.out 3; have hfz21_4 := blk_frozen aI.out 4))
    refine bodyPost_ret (results_ct rfl _ _ bd 33 #[.int .i64 a0, .int .i64 a1, .int .u64 a2, .slice none 0 0, .slice cT ji.length co19] (0, 0) _ rfl p30z Try.underlying33 rfl p16z) rfl ?_
    exact ⟨_, _, p6z, p9z, by (with_reducible repeat (first | apply Kd.R_alloc | apply Kd.R_drewN | apply Kd.R_drew)); exact Kd.R_mono (Kd.R_far (p := ⟨bd, 4, none⟩) (Kd.R_far (p := ⟨bd, 3, none⟩) (Kd.R_far (p := ⟨bd, 2, none⟩) (Kd.R_far (p := ⟨bd, 1, none⟩) (Kd.R_far (p := ⟨bd, 0, none⟩) (Kd.R_far (p := ⟨b7, 4, none⟩) (Kd.R_types (Kd.R_types HO135.out ap.out (by decide)) aI.out (by decide)) (fun _ hk => hk.1.2) (.slice cT ji.length co19)) (fun _ hk => hk.2) (.int .i64 a0)) (fun _ hk => hk.2) (.int .i64 a1)) (fun _ hk => hk.2) (.int .u64 a2)) (fun _ hk => hk.2) (.slice none 0 0)) (fun _ hk => hk.2) (.slice cT ji.length co19)) (fun _ hk => (by simp [Value.ownBlock])), p7z⟩
   rw [if_neg c11] at H
   have iJ : (a1 == 0) = false := beq_eq_false_iff_ne.mpr c11
   have je : (a1 != 0) = true := bne_iff_ne.mpr c11
   by_cases c22 : a1 = 1
   case pos =>
    rw [if_pos c22] at H
    have c22b0 : (a1 == 1) = true := beq_iff_eq.mpr c22
    have c22b1 : (a1 != 1) = false := bne_eq_false_iff_eq.mpr c22
    clear c22
    replace H := Option.bind_eq_some_iff.mp H
    obtain ⟨jj, A230, H⟩ := H
    replace H : (some (a0, a1, a2, ([] : List Int), jj, 0)) = some (r1, r2, r3, r4, r5, r6) := H
    have A23 := Aside0.mk A230
    clear A230
    simp only [Option.some.injEq, Prod.mk.injEq] at H
    obtain ⟨rfl, rfl, rfl, rfl, rfl, rfl⟩ := H
    go_wp2_with (first | ((with_reducible refine gate_dst (N := 10) rfl ?_); refine box_event ?hg (N := 10) ?hd (cs := #[.int .i64 0, .int .i64 0, .int .u64 0, .slice none 0 0, .slice none 0 0]) (t := 33) ?hr ?_; (case hd => rfl); (case hg => rfl); (case hr => exact p22z); intro b7 hg w24 hbox hb; have z_ := asi7 (blk_below (g := bd) (o := .cells #[.int .i64 0, .int .i64 0, .int .u64 0, .slice none 0 0, .slice none 0 0] 33 (0, 0)) p26z hb) (below_step p18z hb) (hbox) ((p171z : w.heap.size ≤ b7)) ((p171z : w.heap.size ≤ b7)) ((p95z : bd ≠ b7)) ((p96z : b7 ≠ bd)); clear aI HB; obtain ⟨aI, HB, ap, GW129, jl, NB128_129, NB129_128⟩ := z_; clear hb hbox hg; have hnb25 := NB129_128.out; have hnc25 := NB128_129.out; have hcz26_0 : w24.cell? ⟨b7, 0, none⟩ = some (.int .i64 0) := (blk_cell ap.out 0).trans rfl; have hcz26_1 : w24.cell? ⟨b7, 1, none⟩ = some (.int .i64 0) := (blk_cell ap.out 1).trans rfl; have hcz26_2 : w24.cell? ⟨b7, 2, none⟩ = some (.int .u64 0) := (blk_cell ap.out 2).trans rfl; have hcz26_3 : w24.cell? ⟨b7, 3, none⟩ = some (.slice none 0 0) := (blk_cell ap.out 3).trans rfl; have hcz26_4 : w24.cell? ⟨b7, 4, none⟩ = some (.slice none 0 0) := (blk_cell ap.out 4).trans rfl; have hfz26_0 := blk_frozen ap.out 0; have hfz26_1 := blk_frozen ap.out 1; have hfz26_2 := blk_frozen ap.out 2; have hfz26_3 := blk_frozen ap.out 3; have hfz26_4 := blk_frozen ap.out 4) | ((with_reducible refine gate_callee (f := 13) rfl ?_); refine goesL_ (some 30) rfl rfl Try.func13 p16z rfl #[.slice none 0 0, .int .u64 (Go.bits .or .u64 (IntKind.u64.wrap ((IntKind.u64.wrap (a0)) * 8)) (IntKind.u64.wrap (Go.bits .and .i64 a1 7)))] rfl p2z ?_; (refine (wire_Var.calls _ _ ([] : List Int) (Go.bits .or .u64 (IntKind.u64.wrap ((IntKind.u64.wrap (a0)) * 8)) (IntKind.u64.wrap (Go.bits .and .i64 a1 7))) ea _ ?side1 ?side2 A10.out).mono ?_); (case side1 => exact Kd.C_nil _ _); (case side2 => exact Nat.le_refl _); rintro e w27 ⟨lH, rfl, ho0, hb⟩; refine ⟨_, rfl, ?_⟩; have z_ := asi4 (Kd.R_lower ho0 (below_size p7z)) (blk_below (g := bd) (o := .cells #[.int .i64 0, .int .i64 0, .int .u64 0, .slice none 0 0, .slice none 0 0] 33 (0, 0)) p12z hb) (blk_below (g := b7) (o := .cells #[.int .i64 a0, .int .i64 a1, .int .u64 a2, .slice none 0 0, .slice none 0 0] 33 (0, 0)) p3z hb) (below_step p7z hb); clear aI ap HB; obtain ⟨dF, aI, ap, HB⟩ := z_; (try clear hb ho0); obtain ⟨d8, co28, eo28⟩ := Kd.R_slice dF.out; subst eo28) | ((with_reducible refine gate_callee (f := 52) rfl ?_); refine goesL_ (some 43) rfl rfl Try.func52 p16z rfl #[.slice d8 ea.length co28, .int .u64 a2, .int .i64 8] rfl p2z ?_; (with_reducible refine (bt.calls kj4 (fun k_ => some k_ = (.slice d8 ea.length co28 : Value).ownBlock) (.slice d8 ea.length co28) ea a2 8 jj w _ ?side1 ?side2 A23.out).mono ?_); (case side1 => exact p7z); (case side2 => exact Kd.R_tight rfl dF.out); rintro e w29 ⟨v137, rfl, ho0, hb, hkp⟩; refine ⟨_, rfl, ?_⟩; have z_ := asi4 (blk_kept p26z hkp (fun hs_ => (fun e_ => (Kd.R_ne dF.out aI.out (by decide)) e_) hs_)) (blk_kept p158z hkp (fun hs_ => (fun e_ => (Kd.R_ne dF.out ap.out (by decide)) e_) hs_)) (Kd.R_mono (ok' := fun k_ => True) ho0 (fun k_ hk_ => trivial)) (hb); clear aI ap HB dF; obtain ⟨aI, ap, HO138, HB⟩ := z_; (try clear hb hkp ho0); obtain ⟨mb, co30, eo30⟩ := Kd.R_slice HO138.out; subst eo30; have hcz31_0 : w29.cell? ⟨b7, 0, none⟩ = some (.int .i64 a0) := (blk_cell ap.out 0).trans rfl; have hcz31_1 : w29.cell? ⟨b7, 1, none⟩ = some (.int .i64 a1) := (blk_cell ap.out 1).trans rfl; have hcz31_2 : w29.cell? ⟨b7, 2, none⟩ = some (.int .u64 a2) := (blk_cell ap.out 2).trans rfl; have hcz31_3 : w29.cell? ⟨b7, 3, none⟩ = some (.slice none 0 0) := (blk_cell ap.out 3).trans rfl; have hcz31_4 : w29.cell? ⟨b7, 4, none⟩ = some (.slice none 0 0) := (blk_cell ap.out 4).trans rfl; have hfz31_0 := blk_frozen ap.out 0; have hfz31_1 := blk_frozen ap.out 1; have hfz31_2 := blk_frozen ap.out 2; have hfz31_3 := blk_frozen ap.out 3; have hfz31_4 := blk_frozen ap.out 4; have hcz32_0 : w29.cell? ⟨bd, 0, none⟩ = some (.int .i64 0) := (blk_cell aI.out 0).trans rfl; have hcz32_1 : w29.cell? ⟨bd, 1, none⟩ = some (.int .i64 0) := (blk_cell aI.out 1).trans rfl; have hcz32_2 : w29.cell? ⟨bd, 2, none⟩ = some (.int .u64 0) := (blk_cell aI.out 2).trans rfl; have hcz32_3 : w29.cell? ⟨bd, 3, none⟩ = some (.slice none 0 0) := (blk_cell aI.out 3).trans rfl; have hcz32_4 : w29.cell? ⟨bd, 4, none⟩ = some (.slice none 0 0) := (blk_cell aI.out 4).trans rfl; have hfz32_0 := blk_frozen aI.out 0; have hfz32_1 := blk_frozen aI.out 1; have hfz32_2 := blk_frozen aI.out 2; have hfz32_3 := blk_frozen aI.out 3; have hfz32_4 := blk_frozen aI.out 4))
    refine bodyPost_ret (results_ct rfl _ _ bd 33 #[.int .i64 a0, .int .i64 a1, .int .u64 a2, .slice none 0 0, .slice mb jj.length co30] (0, 0) _ rfl p30z Try.underlying33 rfl p16z) rfl ?_
    exact ⟨_, _, p6z, p9z, by (with_reducible repeat (first | apply Kd.R_alloc | apply Kd.R_drewN | apply Kd.R_drew)); exact Kd.R_mono (Kd.R_far (p := ⟨bd, 4, none⟩) (Kd.R_far (p := ⟨bd, 3, none⟩) (Kd.R_far (p := ⟨bd, 2, none⟩) (Kd.R_far (p := ⟨bd, 1, none⟩) (Kd.R_far (p := ⟨bd, 0, none⟩) (Kd.R_far (p := ⟨b7, 4, none⟩) (Kd.R_types (Kd.R_types HO138.out ap.out (by decide)) aI.out (by decide)) (fun _ hk => hk.1.2) (.slice mb jj.length co30)) (fun _ hk => hk.2) (.int .i64 a0)) (fun _ hk => hk.2) (.int .i64 a1)) (fun _ hk => hk.2) (.int .u64 a2)) (fun _ hk => hk.2) (.slice none 0 0)) (fun _ hk => hk.2) (.slice mb jj.length co30)) (fun _ hk => (by simp [Value.ownBlock])), p7z⟩
   rw [if_neg c22] at H
   have c22b0 : (a1 == 1) = false := beq_eq_false_iff_ne.mpr c22
   have c22b1 : (a1 != 1) = true := bne_iff_ne.mpr c22
   by_cases c33 : a1 = 2
   case neg =>
    rw [if_neg c33] at H
    have mc : (a1 == 2) = false := beq_eq_false_iff_ne.mpr c33
    have c33b1 : (a1 != 2) = true := bne_iff_ne.mpr c33
    by_cases c56 : a1 = 5
    case neg =>
     rw [if_neg c56] at H
     have c56b0 : (a1 == 5) = false := beq_eq_false_iff_ne.mpr c56
     have c56b1 : (a1 != 5) = true := bne_iff_ne.mpr c56
     simp only [Option.some.injEq, Prod.mk.injEq] at H
     obtain ⟨rfl, rfl, rfl, rfl, rfl, rfl⟩ := H
     go_wp2_with (first | ((with_reducible refine gate_dst (N := 10) rfl ?_); refine box_event ?hg (N := 10) ?hd (cs := #[.int .i64 0, .int .i64 0, .int .u64 0, .slice none 0 0, .slice none 0 0]) (t := 33) ?hr ?_; (case hd => rfl); (case hg => rfl); (case hr => exact p22z); intro b7 hg w73 hbox hb; have z_ := asi7 (blk_below (g := bd) (o := .cells #[.int .i64 0, .int .i64 0, .int .u64 0, .slice none 0 0, .slice none 0 0] 33 (0, 0)) p26z hb) (below_step p18z hb) (hbox) ((p171z : w.heap.size ≤ b7)) ((p171z : w.heap.size ≤ b7)) ((p95z : bd ≠ b7)) ((p96z : b7 ≠ bd)); clear aI HB; obtain ⟨aI, HB, ap, GW129, jl, NB128_129, NB129_128⟩ := z_; clear hb hbox hg; have hnb74 := NB129_128.out; have hnc74 := NB128_129.out; have hcz75_0 : w73.cell? ⟨b7, 0, none⟩ = some (.int .i64 0) := (blk_cell ap.out 0).trans rfl; have hcz75_1 : w73.cell? ⟨b7, 1, none⟩ = some (.int .i64 0) := (blk_cell ap.out 1).trans rfl; have hcz75_2 : w73.cell? ⟨b7, 2, none⟩ = some (.int .u64 0) := (blk_cell ap.out 2).trans rfl; have hcz75_3 : w73.cell? ⟨b7, 3, none⟩ = some (.slice none 0 0) := (blk_cell ap.out 3).trans rfl; have hcz75_4 : w73.cell? ⟨b7, 4, none⟩ = some (.slice none 0 0) := (blk_cell ap.out 4).trans rfl; have hfz75_0 := blk_frozen ap.out 0; have hfz75_1 := blk_frozen ap.out 1; have hfz75_2 := blk_frozen ap.out 2; have hfz75_3 := blk_frozen ap.out 3; have hfz75_4 := blk_frozen ap.out 4) | ((with_reducible refine gate_callee (f := 13) rfl ?_); refine goesL_ (some 30) rfl rfl Try.func13 p16z rfl #[.slice none 0 0, .int .u64 (Go.bits .or .u64 (IntKind.u64.wrap ((IntKind.u64.wrap (a0)) * 8)) (IntKind.u64.wrap (Go.bits .and .i64 a1 7)))] rfl p2z ?_; (refine (wire_Var.calls _ _ ([] : List Int) (Go.bits .or .u64 (IntKind.u64.wrap ((IntKind.u64.wrap (a0)) * 8)) (IntKind.u64.wrap (Go.bits .and .i64 a1 7))) ea _ ?side1 ?side2 A10.out).mono ?_); (case side1 => exact Kd.C_nil _ _); (case side2 => exact Nat.le_refl _); rintro e w76 ⟨lH, rfl, ho0, hb⟩; refine ⟨_, rfl, ?_⟩; have z_ := asi4 (Kd.R_lower ho0 (below_size p7z)) (blk_below (g := bd) (o := .cells #[.int .i64 0, .int .i64 0, .int .u64 0, .slice none 0 0, .slice none 0 0] 33 (0, 0)) p12z hb) (blk_below (g := b7) (o := .cells #[.int .i64 a0, .int .i64 a1, .int .u64 a2, .slice none 0 0, .slice none 0 0] 33 (0, 0)) p3z hb) (below_step p7z hb); clear aI ap HB; obtain ⟨dF, aI, ap, HB⟩ := z_; (try clear hb ho0); have hcz77_0 : w76.cell? ⟨bd, 0, none⟩ = some (.int .i64 0) := (blk_cell aI.out 0).trans rfl; have hcz77_1 : w76.cell? ⟨bd, 1, none⟩ = some (.int .i64 0) := (blk_cell aI.out 1).trans rfl; have hcz77_2 : w76.cell? ⟨bd, 2, none⟩ = some (.int .u64 0) := (blk_cell aI.out 2).trans rfl; have hcz77_3 : w76.cell? ⟨bd, 3, none⟩ = some (.slice none 0 0) := (blk_cell aI.out 3).trans rfl; have hcz77_4 : w76.cell? ⟨bd, 4, none⟩ = some (.slice none 0 0) := (blk_cell aI.out 4).trans rfl; have hfz77_0 := blk_frozen aI.out 0; have hfz77_1 := blk_frozen aI.out 1; have hfz77_2 := blk_frozen aI.out 2; have hfz77_3 := blk_frozen aI.out 3; have hfz77_4 := blk_frozen aI.out 4))
     refine bodyPost_ret (results_ct rfl _ _ bd 33 #[.int .i64 0, .int .i64 0, .int .u64 0, .slice none 0 0, .slice none 0 0] (0, 0) _ rfl p24z Try.underlying33 rfl p16z) rfl ?_
     exact ⟨_, _, p6z, p9z, p9z, p7z⟩

    rw [if_pos c56] at H
    have c56b0 : (a1 == 5) = true := beq_iff_eq.mpr c56
    have c56b1 : (a1 != 5) = false := bne_eq_false_iff_eq.mpr c56
    clear c56
    by_cases c57 : a2 > 4294967295
    case pos =>
     rw [if_pos c57] at H
     have c57b0 : decide (4294967295 < a2) = true := decide_eq_true c57
     clear c57
     simp only [Option.some.injEq, Prod.mk.injEq] at H
     obtain ⟨rfl, rfl, rfl, rfl, rfl, rfl⟩ := H
     go_wp2_with (first | ((with_reducible refine gate_dst (N := 10) rfl ?_); refine box_event ?hg (N := 10) ?hd (cs := #[.int .i64 0, .int .i64 0, .int .u64 0, .slice none 0 0, .slice none 0 0]) (t := 33) ?hr ?_; (case hd => rfl); (case hg => rfl); (case hr => exact p22z); intro b7 hg w58 hbox hb; have z_ := asi7 (blk_below (g := bd) (o := .cells #[.int .i64 0, .int .i64 0, .int .u64 0, .slice none 0 0, .slice none 0 0] 33 (0, 0)) p26z hb) (below_step p18z hb) (hbox) ((p171z : w.heap.size ≤ b7)) ((p171z : w.heap.size ≤ b7)) ((p95z : bd ≠ b7)) ((p96z : b7 ≠ bd)); clear aI HB; obtain ⟨aI, HB, ap, GW129, jl, NB128_129, NB129_128⟩ := z_; clear hb hbox hg; have hnb59 := NB129_128.out; have hnc59 := NB128_129.out; have hcz60_0 : w58.cell? ⟨b7, 0, none⟩ = some (.int .i64 0) := (blk_cell ap.out 0).trans rfl; have hcz60_1 : w58.cell? ⟨b7, 1, none⟩ = some (.int .i64 0) := (blk_cell ap.out 1).trans rfl; have hcz60_2 : w58.cell? ⟨b7, 2, none⟩ = some (.int .u64 0) := (blk_cell ap.out 2).trans rfl; have hcz60_3 : w58.cell? ⟨b7, 3, none⟩ = some (.slice none 0 0) := (blk_cell ap.out 3).trans rfl; have hcz60_4 : w58.cell? ⟨b7, 4, none⟩ = some (.slice none 0 0) := (blk_cell ap.out 4).trans rfl; have hfz60_0 := blk_frozen ap.out 0; have hfz60_1 := blk_frozen ap.out 1; have hfz60_2 := blk_frozen ap.out 2; have hfz60_3 := blk_frozen ap.out 3; have hfz60_4 := blk_frozen ap.out 4) | ((with_reducible refine gate_callee (f := 13) rfl ?_); refine goesL_ (some 30) rfl rfl Try.func13 p16z rfl #[.slice none 0 0, .int .u64 (Go.bits .or .u64 (IntKind.u64.wrap ((IntKind.u64.wrap (a0)) * 8)) (IntKind.u64.wrap (Go.bits .and .i64 a1 7)))] rfl p2z ?_; (refine (wire_Var.calls _ _ ([] : List Int) (Go.bits .or .u64 (IntKind.u64.wrap ((IntKind.u64.wrap (a0)) * 8)) (IntKind.u64.wrap (Go.bits .and .i64 a1 7))) ea _ ?side1 ?side2 A10.out).mono ?_); (case side1 => exact Kd.C_nil _ _); (case side2 => exact Nat.le_refl _); rintro e w61 ⟨lH, rfl, ho0, hb⟩; refine ⟨_, rfl, ?_⟩; have z_ := asi4 (Kd.R_lower ho0 (below_size p7z)) (blk_below (g := bd) (o := .cells #[.int .i64 0, .int .i64 0, .int .u64 0, .slice none 0 0, .slice none 0 0] 33 (0, 0)) p12z hb) (blk_below (g := b7) (o := .cells #[.int .i64 a0, .int .i64 a1, .int .u64 a2, .slice none 0 0, .slice none 0 0] 33 (0, 0)) p3z hb) (below_step p7z hb); clear aI ap HB; obtain ⟨dF, aI, ap, HB⟩ := z_; (try clear hb ho0); have hcz62_0 : w61.cell? ⟨bd, 0, none⟩ = some (.int .i64 0) := (blk_cell aI.out 0).trans rfl; have hcz62_1 : w61.cell? ⟨bd, 1, none⟩ = some (.int .i64 0) := (blk_cell aI.out 1).trans rfl; have hcz62_2 : w61.cell? ⟨bd, 2, none⟩ = some (.int .u64 0) := (blk_cell aI.out 2).trans rfl; have hcz62_3 : w61.cell? ⟨bd, 3, none⟩ = some (.slice none 0 0) := (blk_cell aI.out 3).trans rfl; have hcz62_4 : w61.cell? ⟨bd, 4, none⟩ = some (.slice none 0 0) := (blk_cell aI.out 4).trans rfl; have hfz62_0 := blk_frozen aI.out 0; have hfz62_1 := blk_frozen aI.out 1; have hfz62_2 := blk_frozen aI.out 2; have hfz62_3 := blk_frozen aI.out 3; have hfz62_4 := blk_frozen aI.out 4))
     refine bodyPost_ret (results_ct rfl _ _ bd 33 #[.int .i64 0, .int .i64 0, .int .u64 0, .slice none 0 0, .slice none 0 0] (0, 0) _ rfl p24z Try.underlying33 rfl p16z) rfl ?_
     exact ⟨_, _, p6z, p9z, p9z, p7z⟩
    rw [if_neg c57] at H
    have c57b0 : decide (4294967295 < a2) = false := decide_eq_false c57
    clear c57
    replace H := Option.bind_eq_some_iff.mp H
    obtain ⟨jk, A630, H⟩ := H
    replace H : (some (a0, a1, a2, ([] : List Int), jk, 0)) = some (r1, r2, r3, r4, r5, r6) := H
    have A63 := Aside0.mk A630
    clear A630
    simp only [Option.some.injEq, Prod.mk.injEq] at H
    obtain ⟨rfl, rfl, rfl, rfl, rfl, rfl⟩ := H
    go_wp2_with (first | ((with_reducible refine gate_dst (N := 10) rfl ?_); refine box_event ?hg (N := 10) ?hd (cs := #[.int .i64 0, .int .i64 0, .int .u64 0, .slice none 0 0, .slice none 0 0]) (t := 33) ?hr ?_; (case hd => rfl); (case hg => rfl); (case hr => exact p22z); intro b7 hg w64 hbox hb; have z_ := asi7 (blk_below (g := bd) (o := .cells #[.int .i64 0, .int .i64 0, .int .u64 0, .slice none 0 0, .slice none 0 0] 33 (0, 0)) p26z hb) (below_step p18z hb) (hbox) ((p171z : w.heap.size ≤ b7)) ((p171z : w.heap.size ≤ b7)) ((p95z : bd ≠ b7)) ((p96z : b7 ≠ bd)); clear aI HB; obtain ⟨aI, HB, ap, GW129, jl, NB128_129, NB129_128⟩ := z_; clear hb hbox hg; have hnb65 := NB129_128.out; have hnc65 := NB128_129.out; have hcz66_0 : w64.cell? ⟨b7, 0, none⟩ = some (.int .i64 0) := (blk_cell ap.out 0).trans rfl; have hcz66_1 : w64.cell? ⟨b7, 1, none⟩ = some (.int .i64 0) := (blk_cell ap.out 1).trans rfl; have hcz66_2 : w64.cell? ⟨b7, 2, none⟩ = some (.int .u64 0) := (blk_cell ap.out 2).trans rfl; have hcz66_3 : w64.cell? ⟨b7, 3, none⟩ = some (.slice none 0 0) := (blk_cell ap.out 3).trans rfl; have hcz66_4 : w64.cell? ⟨b7, 4, none⟩ = some (.slice none 0 0) := (blk_cell ap.out 4).trans rfl; have hfz66_0 := blk_frozen ap.out 0; have hfz66_1 := blk_frozen ap.out 1; have hfz66_2 := blk_frozen ap.out 2; have hfz66_3 := blk_frozen ap.out 3; have hfz66_4 := blk_frozen ap.out 4) | ((with_reducible refine gate_callee (f := 13) rfl ?_); refine goesL_ (some 30) rfl rfl Try.func13 p16z rfl #[.slice none 0 0, .int .u64 (Go.bits .or .u64 (IntKind.u64.wrap ((IntKind.u64.wrap (a0)) * 8)) (IntKind.u64.wrap (Go.bits .and .i64 a1 7)))] rfl p2z ?_; (refine (wire_Var.calls _ _ ([] : List Int) (Go.bits .or .u64 (IntKind.u64.wrap ((IntKind.u64.wrap (a0)) * 8)) (IntKind.u64.wrap (Go.bits .and .i64 a1 7))) ea _ ?side1 ?side2 A10.out).mono ?_); (case side1 => exact Kd.C_nil _ _); (case side2 => exact Nat.le_refl _); rintro e w67 ⟨lH, rfl, ho0, hb⟩; refine ⟨_, rfl, ?_⟩; have z_ := asi4 (Kd.R_lower ho0 (below_size p7z)) (blk_below (g := bd) (o := .cells #[.int .i64 0, .int .i64 0, .int .u64 0, .slice none 0 0, .slice none 0 0] 33 (0, 0)) p12z hb) (blk_below (g := b7) (o := .cells #[.int .i64 a0, .int .i64 a1, .int .u64 a2, .slice none 0 0, .slice none 0 0] 33 (0, 0)) p3z hb) (below_step p7z hb); clear aI ap HB; obtain ⟨dF, aI, ap, HB⟩ := z_; (try clear hb ho0); obtain ⟨Ao68, co68, eo68⟩ := Kd.R_slice dF.out; subst eo68) | ((with_reducible refine gate_callee (f := 52) rfl ?_); refine goesL_ (some 70) rfl rfl Try.func52 p16z rfl #[.slice Ao68 ea.length co68, .int .u64 a2, .int .i64 4] rfl p2z ?_; (with_reducible refine (bt.calls kj4 (fun k_ => some k_ = (.slice Ao68 ea.length co68 : Value).ownBlock) (.slice Ao68 ea.length co68) ea a2 4 jk w _ ?side1 ?side2 A63.out).mono ?_); (case side1 => exact p7z); (case side2 => exact Kd.R_tight rfl dF.out); rintro e w69 ⟨v149, rfl, ho0, hb, hkp⟩; refine ⟨_, rfl, ?_⟩; have z_ := asi4 (blk_kept p26z hkp (fun hs_ => (fun e_ => (Kd.R_ne dF.out aI.out (by decide)) e_) hs_)) (blk_kept p158z hkp (fun hs_ => (fun e_ => (Kd.R_ne dF.out ap.out (by decide)) e_) hs_)) (Kd.R_mono (ok' := fun k_ => True) ho0 (fun k_ hk_ => trivial)) (hb); clear aI ap HB dF; obtain ⟨aI, ap, HO150, HB⟩ := z_; (try clear hb hkp ho0); obtain ⟨Ao70, co70, eo70⟩ := Kd.R_slice HO150.out; subst eo70; have hcz71_0 : w69.cell? ⟨b7, 0, none⟩ = some (.int .i64 a0) := (blk_cell ap.out 0).trans rfl; have hcz71_1 : w69.cell? ⟨b7, 1, none⟩ = some (.int .i64 a1) := (blk_cell ap.out 1).trans rfl; have hcz71_2 : w69.cell? ⟨b7, 2, none⟩ = some (.int .u64 a2) := (blk_cell ap.out 2).trans rfl; have hcz71_3 : w69.cell? ⟨b7, 3, none⟩ = some (.slice none 0 0) := (blk_cell ap.out 3).trans rfl; have hcz71_4 : w69.cell? ⟨b7, 4, none⟩ = some (.slice none 0 0) := (blk_cell ap.out 4).trans rfl; have hfz71_0 := blk_frozen ap.out 0; have hfz71_1 := blk_frozen ap.out 1; have hfz71_2 := blk_frozen ap.out 2; have hfz71_3 := blk_frozen ap.out 3; have hfz71_4 := blk_frozen ap.out 4; have hcz72_0 : w69.cell? ⟨bd, 0, none⟩ = some (.int .i64 0) := (blk_cell aI.out 0).trans rfl; have hcz72_1 : w69.cell? ⟨bd, 1, none⟩ = some (.int .i64 0) := (blk_cell aI.out 1).trans rfl; have hcz72_2 : w69.cell? ⟨bd, 2, none⟩ = some (.int .u64 0) := (blk_cell aI.out 2).trans rfl; have hcz72_3 : w69.cell? ⟨bd, 3, none⟩ = some (.slice none 0 0) := (blk_cell aI.out 3).trans rfl; have hcz72_4 : w69.cell? ⟨bd, 4, none⟩ = some (.slice none 0 0) := (blk_cell aI.out 4).trans rfl; have hfz72_0 := blk_frozen aI.out 0; have hfz72_1 := blk_frozen aI.out 1; have hfz72_2 := blk_frozen aI.out 2; have hfz72_3 := blk_frozen aI.out 3; have hfz72_4 := blk_frozen aI.out 4))
    refine bodyPost_ret (results_ct rfl _ _ bd 33 #[.int .i64 a0, .int .i64 a1, .int .u64 a2, .slice none 0 0, .slice Ao70 jk.length co70] (0, 0) _ rfl p30z Try.underlying33 rfl p16z) rfl ?_
    exact ⟨_, _, p6z, p9z, by (with_reducible repeat (first | apply Kd.R_alloc | apply Kd.R_drewN | apply Kd.R_drew)); exact Kd.R_mono (Kd.R_far (p := ⟨bd, 4, none⟩) (Kd.R_far (p := ⟨bd, 3, none⟩) (Kd.R_far (p := ⟨bd, 2, none⟩) (Kd.R_far (p := ⟨bd, 1, none⟩) (Kd.R_far (p := ⟨bd, 0, none⟩) (Kd.R_far (p := ⟨b7, 4, none⟩) (Kd.R_types (Kd.R_types HO150.out ap.out (by decide)) aI.out (by decide)) (fun _ hk => hk.1.2) (.slice Ao70 jk.length co70)) (fun _ hk => hk.2) (.int .i64 a0)) (fun _ hk => hk.2) (.int .i64 a1)) (fun _ hk => hk.2) (.int .u64 a2)) (fun _ hk => hk.2) (.slice none 0 0)) (fun _ hk => hk.2) (.slice Ao70 jk.length co70)) (fun _ hk => (by simp [Value.ownBlock])), p7z⟩
   rw [if_pos c33] at H
   have mc : (a1 == 2) = true := beq_iff_eq.mpr c33
   have c33b1 : (a1 != 2) = false := bne_eq_false_iff_eq.mpr c33
   clear c33
   by_cases c34 : (l3.length : Int) > 1048576
   case pos =>
    rw [if_pos c34] at H
    have lg : decide (1048576 < (l3.length : Int)) = true := decide_eq_true c34
    have md : decide (1048576 < l3.length) = true := decide_eq_true (by omega)
    clear c34
    simp only [Option.some.injEq, Prod.mk.injEq] at H
    obtain ⟨rfl, rfl, rfl, rfl, rfl, rfl⟩ := H
    go_wp2_with (first | ((with_reducible refine gate_dst (N := 10) rfl ?_); refine box_event ?hg (N := 10) ?hd (cs := #[.int .i64 0, .int .i64 0, .int .u64 0, .slice none 0 0, .slice none 0 0]) (t := 33) ?hr ?_; (case hd => rfl); (case hg => rfl); (case hr => exact p22z); intro b7 hg w35 hbox hb; have z_ := asi7 (blk_below (g := bd) (o := .cells #[.int .i64 0, .int .i64 0, .int .u64 0, .slice none 0 0, .slice none 0 0] 33 (0, 0)) p26z hb) (below_step p18z hb) (hbox) ((p171z : w.heap.size ≤ b7)) ((p171z : w.heap.size ≤ b7)) ((p95z : bd ≠ b7)) ((p96z : b7 ≠ bd)); clear aI HB; obtain ⟨aI, HB, ap, GW129, jl, NB128_129, NB129_128⟩ := z_; clear hb hbox hg; have hnb36 := NB129_128.out; have hnc36 := NB128_129.out; have hcz37_0 : w35.cell? ⟨b7, 0, none⟩ = some (.int .i64 0) := (blk_cell ap.out 0).trans rfl; have hcz37_1 : w35.cell? ⟨b7, 1, none⟩ = some (.int .i64 0) := (blk_cell ap.out 1).trans rfl; have hcz37_2 : w35.cell? ⟨b7, 2, none⟩ = some (.int .u64 0) := (blk_cell ap.out 2).trans rfl; have hcz37_3 : w35.cell? ⟨b7, 3, none⟩ = some (.slice none 0 0) := (blk_cell ap.out 3).trans rfl; have hcz37_4 : w35.cell? ⟨b7, 4, none⟩ = some (.slice none 0 0) := (blk_cell ap.out 4).trans rfl; have hfz37_0 := blk_frozen ap.out 0; have hfz37_1 := blk_frozen ap.out 1; have hfz37_2 := blk_frozen ap.out 2; have hfz37_3 := blk_frozen ap.out 3; have hfz37_4 := blk_frozen ap.out 4) | ((with_reducible refine gate_callee (f := 13) rfl ?_); refine goesL_ (some 30) rfl rfl Try.func13 p16z rfl #[.slice none 0 0, .int .u64 (Go.bits .or .u64 (IntKind.u64.wrap ((IntKind.u64.wrap (a0)) * 8)) (IntKind.u64.wrap (Go.bits .and .i64 a1 7)))] rfl p2z ?_; (refine (wire_Var.calls _ _ ([] : List Int) (Go.bits .or .u64 (IntKind.u64.wrap ((IntKind.u64.wrap (a0)) * 8)) (IntKind.u64.wrap (Go.bits .and .i64 a1 7))) ea _ ?side1 ?side2 A10.out).mono ?_); (case side1 => exact Kd.C_nil _ _); (case side2 => exact Nat.le_refl _); rintro e w38 ⟨lH, rfl, ho0, hb⟩; refine ⟨_, rfl, ?_⟩; have z_ := asi4 (Kd.R_lower ho0 (below_size p7z)) (blk_below (g := bd) (o := .cells #[.int .i64 0, .int .i64 0, .int .u64 0, .slice none 0 0, .slice none 0 0] 33 (0, 0)) p12z hb) (blk_below (g := b7) (o := .cells #[.int .i64 a0, .int .i64 a1, .int .u64 a2, .slice none 0 0, .slice none 0 0] 33 (0, 0)) p3z hb) (below_step p7z hb); clear aI ap HB; obtain ⟨dF, aI, ap, HB⟩ := z_; (try clear hb ho0); have hcz39_0 : w38.cell? ⟨bd, 0, none⟩ = some (.int .i64 0) := (blk_cell aI.out 0).trans rfl; have hcz39_1 : w38.cell? ⟨bd, 1, none⟩ = some (.int .i64 0) := (blk_cell aI.out 1).trans rfl; have hcz39_2 : w38.cell? ⟨bd, 2, none⟩ = some (.int .u64 0) := (blk_cell aI.out 2).trans rfl; have hcz39_3 : w38.cell? ⟨bd, 3, none⟩ = some (.slice none 0 0) := (blk_cell aI.out 3).trans rfl; have hcz39_4 : w38.cell? ⟨bd, 4, none⟩ = some (.slice none 0 0) := (blk_cell aI.out 4).trans rfl; have hfz39_0 := blk_frozen aI.out 0; have hfz39_1 := blk_frozen aI.out 1; have hfz39_2 := blk_frozen aI.out 2; have hfz39_3 := blk_frozen aI.out 3; have hfz39_4 := blk_frozen aI.out 4))
    refine bodyPost_ret (results_ct rfl _ _ bd 33 #[.int .i64 0, .int .i64 0, .int .u64 0, .slice none 0 0, .slice none 0 0] (0, 0) _ rfl p24z Try.underlying33 rfl p16z) rfl ?_
    exact ⟨_, _, p6z, p9z, p9z, p7z⟩
   rw [if_neg c34] at H
   have lg : decide (1048576 < (l3.length : Int)) = false := decide_eq_false c34
   have md : decide (1048576 < l3.length) = false := decide_eq_false (by omega)
   clear c34
   replace H := Option.bind_eq_some_iff.mp H
   obtain ⟨fV, A400, H⟩ := H
   replace H : ((wire_Var.f ea (IntKind.u64.wrap ((l3.length : Int)))).bind fun gK => (if gK.length + l3.length < 140737488355328 then (some (a0, a1, 0, fV, (gK ++ l3), 0)) else (none))) = some (r1, r2, r3, r4, r5, r6) := H
   have A40 := Aside0.mk A400
   clear A400
   replace H := Option.bind_eq_some_iff.mp H
   obtain ⟨gK, A410, H⟩ := H
   replace H : (if gK.length + l3.length < 140737488355328 then (some (a0, a1, 0, fV, (gK ++ l3), 0)) else (none)) = some (r1, r2, r3, r4, r5, r6) := H
   have A41 := Aside0.mk A410
   clear A410
   by_cases c42 : gK.length + l3.length < 140737488355328
   case neg =>
    rw [if_neg c42] at H
    exact absurd H (by simp)
   rw [if_pos c42] at H
   have LMc42 := Aside0.mk c42
   clear c42
   obtain ⟨y145, hy145⟩ : ∃ y_ : List Int, y_ = (gK ++ l3) := ⟨_, rfl⟩
   replace H : (some (a0, a1, 0, fV, y145, 0)) = some (r1, r2, r3, r4, r5, r6) := by first | (rw [hy145]; with_reducible exact H) | (have H2_ := (Option.bind_some _ _).symm.trans H; rw [hy145]; with_reducible exact H2_) | (have H2_ := (Option.bind_some _ _).symm.trans H; with_reducible exact H2_) | with_reducible exact H | (rw [hy145]; exact H) | exact H
   have Ny145 := Aside0.mk hy145
   clear hy145
   simp only [Option.some.injEq, Prod.mk.injEq] at H
   obtain ⟨rfl, rfl, rfl, rfl, rfl, rfl⟩ := H
   go_wp2_with (first | ((with_reducible refine gate_dst (N := 10) rfl ?_); refine box_event ?hg (N := 10) ?hd (cs := #[.int .i64 0, .int .i64 0, .int .u64 0, .slice none 0 0, .slice none 0 0]) (t := 33) ?hr ?_; (case hd => rfl); (case hg => rfl); (case hr => exact p22z); intro b7 hg w43 hbox hb; have z_ := asi7 (blk_below (g := bd) (o := .cells #[.int .i64 0, .int .i64 0, .int .u64 0, .slice none 0 0, .slice none 0 0] 33 (0, 0)) p26z hb) (below_step p18z hb) (hbox) ((p171z : w.heap.size ≤ b7)) ((p171z : w.heap.size ≤ b7)) ((p95z : bd ≠ b7)) ((p96z : b7 ≠ bd)); clear aI HB; obtain ⟨aI, HB, ap, GW129, jl, NB128_129, NB129_128⟩ := z_; clear hb hbox hg; have hnb44 := NB129_128.out; have hnc44 := NB128_129.out; have hcz45_0 : w43.cell? ⟨b7, 0, none⟩ = some (.int .i64 0) := (blk_cell ap.out 0).trans rfl; have hcz45_1 : w43.cell? ⟨b7, 1, none⟩ = some (.int .i64 0) := (blk_cell ap.out 1).trans rfl; have hcz45_2 : w43.cell? ⟨b7, 2, none⟩ = some (.int .u64 0) := (blk_cell ap.out 2).trans rfl; have hcz45_3 : w43.cell? ⟨b7, 3, none⟩ = some (.slice none 0 0) := (blk_cell ap.out 3).trans rfl; have hcz45_4 : w43.cell? ⟨b7, 4, none⟩ = some (.slice none 0 0) := (blk_cell ap.out 4).trans rfl; have hfz45_0 := blk_frozen ap.out 0; have hfz45_1 := blk_frozen ap.out 1; have hfz45_2 := blk_frozen ap.out 2; have hfz45_3 := blk_frozen ap.out 3; have hfz45_4 := blk_frozen ap.out 4) | ((with_reducible refine gate_callee (f := 13) rfl ?_); refine goesL_ (some 30) rfl rfl Try.func13 p16z rfl #[.slice none 0 0, .int .u64 (Go.bits .or .u64 (IntKind.u64.wrap ((IntKind.u64.wrap (a0)) * 8)) (IntKind.u64.wrap (Go.bits .and .i64 a1 7)))] rfl p2z ?_; (refine (wire_Var.calls _ _ ([] : List Int) (Go.bits .or .u64 (IntKind.u64.wrap ((IntKind.u64.wrap (a0)) * 8)) (IntKind.u64.wrap (Go.bits .and .i64 a1 7))) ea _ ?side1 ?side2 A10.out).mono ?_); (case side1 => exact Kd.C_nil _ _); (case side2 => exact Nat.le_refl _); rintro e w46 ⟨lH, rfl, ho0, hb⟩; refine ⟨_, rfl, ?_⟩; have z_ := asi4 (Kd.R_lower ho0 (below_size p7z)) (blk_below (g := bd) (o := .cells #[.int .i64 0, .int .i64 0, .int .u64 0, .slice none 0 0, .slice none 0 0] 33 (0, 0)) p12z hb) (blk_below (g := b7) (o := .cells #[.int .i64 a0, .int .i64 a1, .int .u64 a2, .slice none 0 0, .slice none 0 0] 33 (0, 0)) p3z hb) (below_step p7z hb); clear aI ap HB; obtain ⟨dF, aI, ap, HB⟩ := z_; (try clear hb hk ho0)) | ((with_reducible refine gate_callee (f := 49) rfl ?_); refine goesL_ (some 52) rfl rfl Try.func49 p16z rfl #[.slice A3 l3.length c3] rfl p2z ?_; (with_reducible refine (aG.calls _ _ l3 fV _ ?side1 ?side2 A40.out).mono ?_); (case side1 => exact p152z); (case side2 => exact HC3.out); rintro e w47 ⟨v140, rfl, ho0, hb⟩; refine ⟨_, rfl, ?_⟩; have z_ := asi5 (Kd.R_elder' p163z (Kd.R_base ho0) hb) (Kd.R_lower (Kd.R_new' ho0 (Kd.R_lt p163z)) (below_size p7z)) (blk_below (g := bd) (o := .cells #[.int .i64 0, .int .i64 0, .int .u64 0, .slice none 0 0, .slice none 0 0] 33 (0, 0)) p26z hb) (blk_below (g := b7) (o := .cells #[.int .i64 a0, .int .i64 a1, .int .u64 a2, .slice none 0 0, .slice none 0 0] 33 (0, 0)) p158z hb) (below_step p7z hb); clear dF aI ap HB; obtain ⟨dF, io, aI, ap, HB⟩ := z_; (try clear hb hk ho0); have hcz48_0 : w47.cell? ⟨b7, 0, none⟩ = some (.int .i64 a0) := (blk_cell ap.out 0).trans rfl; have hcz48_1 : w47.cell? ⟨b7, 1, none⟩ = some (.int .i64 a1) := (blk_cell ap.out 1).trans rfl; have hcz48_2 : w47.cell? ⟨b7, 2, none⟩ = some (.int .u64 a2) := (blk_cell ap.out 2).trans rfl; have hcz48_3 : w47.cell? ⟨b7, 3, none⟩ = some (.slice none 0 0) := (blk_cell ap.out 3).trans rfl; have hcz48_4 : w47.cell? ⟨b7, 4, none⟩ = some (.slice none 0 0) := (blk_cell ap.out 4).trans rfl; have hfz48_0 := blk_frozen ap.out 0; have hfz48_1 := blk_frozen ap.out 1; have hfz48_2 := blk_frozen ap.out 2; have hfz48_3 := blk_frozen ap.out 3; have hfz48_4 := blk_frozen ap.out 4; obtain ⟨iM, co49, eo49⟩ := Kd.R_slice io.out; subst eo49; obtain ⟨Ao50, co50, eo50⟩ := Kd.R_slice dF.out; subst eo50) | ((with_reducible refine gate_callee (f := 13) rfl ?_); refine goesL_ (some 59) rfl rfl Try.func13 p16z rfl #[.slice Ao50 ea.length co50, .int .u64 (IntKind.u64.wrap ((l3.length : Int)))] rfl p2z ?_; (with_reducible refine (wire_Var.calls _ _ ea (IntKind.u64.wrap ((l3.length : Int))) gK _ ?side1 ?side2 A41.out).mono ?_); (case side1 => refine (Kd.R_reads' (e := 5) (base := w.heap.size) (ok := fun k_ => (True ∧ some k_ ≠ (.slice iM fV.length co49 : Value).ownBlock)) (n := ea.length) (c := co50) ?_).2.2; exact p124z); (case side2 => exact (Kd.R_reads' dF.out).2.1); rintro e w51 ⟨v143, rfl, ho0, hb⟩; refine ⟨_, rfl, ?_⟩; have z_ := asi6 (Kd.R_elder' p124z (Kd.R_base ho0) hb) (Kd.R_elder' p179z (Kd.R_base ho0) hb) (Kd.R_lower (Kd.R_new' (Kd.R_new' ho0 (Kd.R_lt p124z)) (Kd.R_lt p179z)) (below_size p7z)) (blk_below (g := bd) (o := .cells #[.int .i64 0, .int .i64 0, .int .u64 0, .slice none 0 0, .slice none 0 0] 33 (0, 0)) (by (with_reducible repeat (first | refine blk_drewN ?_ _ | refine blk_drew ?_ | refine blk_alloc ?_ _)); refine blk_far ?_ NB128_129.out _; (with_reducible repeat (first | refine blk_drewN ?_ _ | refine blk_drew ?_ | refine blk_alloc ?_ _)); refine blk_far ?_ NB128_129.out _; (with_reducible repeat (first | refine blk_drewN ?_ _ | refine blk_drew ?_ | refine blk_alloc ?_ _)); exact aI.out) hb) (blk_below (g := b7) (o := .cells #[.int .i64 a0, .int .i64 a1, .int .u64 0, .slice iM fV.length co49, .slice none 0 0] 33 (0, 0)) (by (with_reducible repeat (first | refine blk_drewN ?_ _ | refine blk_drew ?_ | refine blk_alloc ?_ _)); refine blk_put (cs := #[.int .i64 a0, .int .i64 a1, .int .u64 0, .slice none 0 0, .slice none 0 0]) ?_ 3 _ rfl; (with_reducible repeat (first | refine blk_drewN ?_ _ | refine blk_drew ?_ | refine blk_alloc ?_ _)); refine blk_put (cs := #[.int .i64 a0, .int .i64 a1, .int .u64 a2, .slice none 0 0, .slice none 0 0]) ?_ 2 _ rfl; (with_reducible repeat (first | refine blk_drewN ?_ _ | refine blk_drew ?_ | refine blk_alloc ?_ _)); exact ap.out) hb) (below_step p7z hb); clear dF io aI ap HB; obtain ⟨dF, io, lh, aI, ap, HB⟩ := z_; (try clear hb hk ho0)) | ((with_reducible refine gate_builtin (b := .append) (xs := #[.tmp 59, .tmp 60]) rfl ?_); at_builtin; refine Kd.R_append_rows (Kd.int .u8) (w0 := w) w.heap.size rfl (.tmp 59) (.tmp 60) 22 5 (.int .u8 0) 1 rfl Try.underlying22 info5 rfl (by decide) (by omega) v143 gK l3 _ _ _ (fun k_ => some k_ ≠ (.slice Ao50 ea.length co50 : Value).ownBlock ∧ some k_ ≠ (.slice iM fV.length co49 : Value).ownBlock) (fun _ => False) rfl rfl ?aO ?aR (fun _ _ h => h) (fun _ h => h.elim) ?aF ?aB ?aS ?aL ?_; (case aR => exact p152z); (case aB => exact p7z); (case aF => exact (fun k_ hk => ⟨Kd.fresh' (Kd.R_lt p163z) k_ hk, Kd.fresh' (Kd.R_lt (q0z io.out)) k_ hk⟩)); (case aO => exact (by (with_reducible repeat (first | apply Kd.R_alloc | apply Kd.R_drewN | apply Kd.R_drew)); exact Kd.R_mono lh.out (fun _ hk => ⟨hk.1.2, hk.2⟩))); (case aS => exact (below_size p7z)); (case aL => have := LMc42.out; omega); intro v146 w52 ho hb hg hat; rw [← Ny145.out] at ho; have z_ := asi6 (blk_grown (g := bd) (o := .cells #[.int .i64 0, .int .i64 0, .int .u64 0, .slice none 0 0, .slice none 0 0] 33 (0, 0)) p26z hg (Kd.R_ne lh.out aI.out (by decide))) (blk_grown (g := b7) (o := .cells #[.int .i64 a0, .int .i64 a1, .int .u64 0, .slice iM fV.length co49, .slice none 0 0] 33 (0, 0)) p158z hg (Kd.R_ne lh.out ap.out (by decide))) (Kd.R_after (ok := (fun k_ => some k_ ≠ (.slice iM fV.length co49 : Value).ownBlock)) (by (with_reducible repeat (first | apply Kd.R_alloc | apply Kd.R_drewN | apply Kd.R_drew)); exact Kd.R_mono dF.out (fun _ hk => ⟨hk.1.2, hk.2⟩)) hg hat) (Kd.R_after (ok := (fun k_ => some k_ ≠ (.slice Ao50 ea.length co50 : Value).ownBlock)) (by (with_reducible repeat (first | apply Kd.R_alloc | apply Kd.R_drewN | apply Kd.R_drew)); exact Kd.R_mono io.out (fun _ hk => ⟨hk.1.2, hk.2⟩)) hg hat) (hb) (ho); clear aI ap dF io HB lh; obtain ⟨aI, ap, dF, io, HB, HO147⟩ := z_; clear ho hb hg hat; obtain ⟨me, co53, eo53⟩ := Kd.R_slice HO147.out; subst eo53; have hcz54_0 : w52.cell? ⟨b7, 0, none⟩ = some (.int .i64 a0) := (blk_cell ap.out 0).trans rfl; have hcz54_1 : w52.cell? ⟨b7, 1, none⟩ = some (.int .i64 a1) := (blk_cell ap.out 1).trans rfl; have hcz54_2 : w52.cell? ⟨b7, 2, none⟩ = some (.int .u64 0) := (blk_cell ap.out 2).trans rfl; have hcz54_3 : w52.cell? ⟨b7, 3, none⟩ = some (.slice iM fV.length co49) := (blk_cell ap.out 3).trans rfl; have hcz54_4 : w52.cell? ⟨b7, 4, none⟩ = some (.slice none 0 0) := (blk_cell ap.out 4).trans rfl; have hfz54_0 := blk_frozen ap.out 0; have hfz54_1 := blk_frozen ap.out 1; have hfz54_2 := blk_frozen ap.out 2; have hfz54_3 := blk_frozen ap.out 3; have hfz54_4 := blk_frozen ap.out 4; have hcz55_0 : w52.cell? ⟨bd, 0, none⟩ = some (.int .i64 0) := (blk_cell aI.out 0).trans rfl; have hcz55_1 : w52.cell? ⟨bd, 1, none⟩ = some (.int .i64 0) := (blk_cell aI.out 1).trans rfl; have hcz55_2 : w52.cell? ⟨bd, 2, none⟩ = some (.int .u64 0) := (blk_cell aI.out 2).trans rfl; have hcz55_3 : w52.cell? ⟨bd, 3, none⟩ = some (.slice none 0 0) := (blk_cell aI.out 3).trans rfl; have hcz55_4 : w52.cell? ⟨bd, 4, none⟩ = some (.slice none 0 0) := (blk_cell aI.out 4).trans rfl; have hfz55_0 := blk_frozen aI.out 0; have hfz55_1 := blk_frozen aI.out 1; have hfz55_2 := blk_frozen aI.out 2; have hfz55_3 := blk_frozen aI.out 3; have hfz55_4 := blk_frozen aI.out 4))
   refine bodyPost_ret (results_ct rfl _ _ bd 33 #[.int .i64 a0, .int .i64 a1, .int .u64 0, .slice iM fV.length co49, .slice me y145.length co53] (0, 0) _ rfl (by (with_reducible repeat (first | refine blk_drewN ?_ _ | refine blk_drew ?_ | refine blk_alloc ?_ _)); refine blk_put (cs := #[.int .i64 a0, .int .i64 a1, .int .u64 0, .slice iM fV.length co49, .slice none 0 0]) ?_ 4 _ rfl; (with_reducible repeat (first | refine blk_drewN ?_ _ | refine blk_drew ?_ | refine blk_alloc ?_ _)); refine blk_put (cs := #[.int .i64 a0, .int .i64 a1, .int .u64 0, .slice none 0 0, .slice none 0 0]) ?_ 3 _ rfl; (with_reducible repeat (first | refine blk_drewN ?_ _ | refine blk_drew ?_ | refine blk_alloc ?_ _)); refine blk_put (cs := #[.int .i64 a0, .int .i64 a1, .int .u64 0, .slice none 0 0, .slice none 0 0]) ?_ 2 _ rfl; (with_reducible repeat (first | refine blk_drewN ?_ _ | refine blk_drew ?_ | refine blk_alloc ?_ _)); refine blk_put (cs := #[.int .i64 a0, .int .i64 0, .int .u64 0, .slice none 0 0, .slice none 0 0]) ?_ 1 _ rfl; (with_reducible repeat (first | refine blk_drewN ?_ _ | refine blk_drew ?_ | refine blk_alloc ?_ _)); refine blk_put (cs := #[.int .i64 0, .int .i64 0, .int .u64 0, .slice none 0 0, .slice none 0 0]) ?_ 0 _ rfl; (with_reducible repeat (first | refine blk_drewN ?_ _ | refine blk_drew ?_ | refine blk_alloc ?_ _)); refine blk_far ?_ NB128_129.out _; (with_reducible repeat (first | refine blk_drewN ?_ _ | refine blk_drew ?_ | refine blk_alloc ?_ _)); exact aI.out) Try.underlying33 rfl p16z) rfl ?_
   exact ⟨_, _, p6z, by (with_reducible repeat (first | apply Kd.R_alloc | apply Kd.R_drewN | apply Kd.R_drew)); exact Kd.R_mono (Kd.R_far (p := ⟨bd, 4, none⟩) (Kd.R_far (p := ⟨bd, 3, none⟩) (Kd.R_far (p := ⟨bd, 2, none⟩) (Kd.R_far (p := ⟨bd, 1, none⟩) (Kd.R_far (p := ⟨bd, 0, none⟩) (Kd.R_far (p := ⟨b7, 4, none⟩) (Kd.R_types (Kd.R_types io.out ap.out (by decide)) aI.out (by decide)) (fun _ hk => hk.1.2) (.slice me y145.length co53)) (fun _ hk => hk.2) (.int .i64 a0)) (fun _ hk => hk.2) (.int .i64 a1)) (fun _ hk => hk.2) (.int .u64 0)) (fun _ hk => hk.2) (.slice iM fV.length co49)) (fun _ hk => hk.2) (.slice me y145.length co53)) (fun _ hk => hk.1.1.2), by (with_reducible repeat (first | apply Kd.R_alloc | apply Kd.R_drewN | apply Kd.R_drew)); exact Kd.R_mono (Kd.R_far (p := ⟨bd, 4, none⟩) (Kd.R_far (p := ⟨bd, 3, none⟩) (Kd.R_far (p := ⟨bd, 2, none⟩) (Kd.R_far (p := ⟨bd, 1, none⟩) (Kd.R_far (p := ⟨bd, 0, none⟩) (Kd.R_far (p := ⟨b7, 4, none⟩) (Kd.R_types (Kd.R_types HO147.out ap.out (by decide)) aI.out (by decide)) (fun _ hk => hk.1.2) (.slice me y145.length co53)) (fun _ hk => hk.2) (.int .i64 a0)) (fun _ hk => hk.2) (.int .i64 a1)) (fun _ hk => hk.2) (.int .u64 0)) (fun _ hk => hk.2) (.slice iM fV.length co49)) (fun _ hk => hk.2) (.slice me y145.length co53)) (fun _ hk => hk.1.1.2), p7z⟩
end Go.Proofs.Ytbclejgljegfmaa.PAll
