/-
  slices.Concat at bytes: the print's walk, but for slices.Grow's call.
-/
import Derived.Test.YtbclejgljegfmaaAp
import Derived.Test.YtbclejgljegfmaaProg
import Derived.Below
import Derived.Deep.Draws
import Derived.Deep.AppendLies
import Derived.Maps.AppendAt
import Derived.OwnWalk
import Derived.Laws.BytesArg
import Derived.Laws.MakeOwn
import Derived.Laws.OwnMore
import Derived.Deep.OwnRows
import Derived.Tactics
import Derived.Lib.ConvBytes
import Derived.Laws.Slices
import Derived.WalkKit
import Derived.KernelRfl
import Derived.RowKit3
import Derived.Deep.LoopGhost
import Derived.Deep.QuietTactic
import Derived.BigQuiet
import Derived.WideLaws
import Derived.Deep.DeepCutAuto
import Derived.Deep.CutBlock
import Derived.Deep.RegionHeld3
import Derived.Laws.Rows
import Derived.Lib.AppendStr
import Derived.ArgAppend
import Derived.Laws.IdiomCopy
import Derived.OrdersHeld
import Derived.Laws.BitsLemmas
import Derived.RowKit
import Derived.Test.YtbclejgljegfmaaWWords
import Derived.Test.YtbclejgljegfmaaWKit
import Derived.Test.YtbclejgljegfmaaHandGrow
set_option maxHeartbeats 8000000
set_option maxRecDepth 100000
namespace Go.Proofs.Ytbclejgljegfmaa.Cat
open Go.Proofs.Ytbclejgljegfmaa.Hand
open Go.RowKit Go.Proofs.YtbclejgljegfmaaW.PrintWords Go.Proofs.YtbclejgljegfmaaW.PrintLast Go.Proofs.YtbclejgljegfmaaW.PrintMore
attribute [local go_sem] max2_int min2_int max_two min_two max_three min_three max_four min_four   -- for this text's walks alone
set_option linter.unusedVariables false
set_option linter.unusedSimpArgs false

def errW : Option Int → Value
  | none => .nilIface
  | some c => .iface 0 (.int .i64 c)
theorem errW_none : errW none = .nilIface := rfl
theorem errW_some (c : Int) : errW (some c) = .iface 0 (.int .i64 c) := rfl

theorem info5 : (Try.prog.info? 5).map (fun i => (i.zero, i.size, i.bytes)) = some (some (.int .u8 0), 1, 1) := p16z
-- the values' own types
def rd_L1 (xs : List (List Int)) (i : Int) : (List Int) := xs.getD i.toNat ([] : List Int)
theorem at_L1 {w : World} {A : Option Addr} {n : Nat} {xs : List (List Int)} (h : Kd.C (Kd.slice 5 (Kd.int .u8)) w A n xs) (i : Int) (h0 : 0 ≤ i) (h1 : i < n) : ∃ ad A0 c0, A = some ad ∧ w.cell? (ad.add i.toNat) = some (.slice A0 (rd_L1 xs i).length c0) ∧ (rd_L1 xs i).length ≤ c0 ∧ (Kd.int .u8).C w A0 (rd_L1 xs i).length (rd_L1 xs i) := by
  obtain ⟨ad, c, e, _, hK, hc0⟩ := Kd.C_get h ([] : List Int) i h0 h1
  have hc : ∀ j u, c[j]? = some u → w.cell? (ad.add (i.toNat * 1 + j)) = some u := hc0
  obtain ⟨A0, c0, rfl, l0, g0⟩ := hK
  exact ⟨ad, A0, c0, e, by have hq := hc 0 _ rfl; rwa [Nat.mul_one, Nat.add_zero] at hq, l0, g0⟩

/-! ### am: function 55 -/
mutual
def am.l0 : Nat → List (List Int) → Int → List (List Int) → Int → Int → Option (List Int)
  | 0, _, _, _, _, _ => none
  | k + 1, x0, x3, x9, x10, x11 => if x11 < x10 then (if 0 ≤ x11 then (if x11 < (x9.length : Int) then (if (wrap64 (x3 + ((rd_L1 x9 x11).length : Int))) < 0 then (none) else (am.l0 k x0 (wrap64 (x3 + ((rd_L1 x9 x11).length : Int))) x9 x10 (wrap64 (x11 + 1)))) else (none)) else (none)) else ((dd.f ([] : List Int) x3).bind fun mA => (am.l1 k mA x0 (x0.length : Int) 0))
def am.l1 : Nat → List Int → List (List Int) → Int → Int → Option (List Int)
  | 0, _, _, _, _ => none
  | k + 1, x6, x25, x26, x27 => if x27 < x26 then (if 0 ≤ x27 then (if x27 < (x25.length : Int) then (if x6.length + (rd_L1 x25 x27).length < 140737488355328 then (am.l1 k (x6 ++ (rd_L1 x25 x27)) x25 x26 (wrap64 (x27 + 1))) else (none)) else (none)) else (none)) else (some x6)
end
def am.f (k : Nat) (l0 : List (List Int)) : Option (List Int) := am.l0 k l0 0 l0 (l0.length : Int) 0
theorem am.calls (k : Nat) (A0 : Option Addr) (c0 : Nat) (l0 : List (List Int)) (r : List Int) (w : World) (hr0 : Kd.C (Kd.slice 5 (Kd.int .u8)) w A0 l0.length l0) (hc0 : l0.length ≤ c0) (h : am.f k l0 = some r) :
 Calls Try.prog 55 #[.slice A0 l0.length c0] w fun e w' => ∃ v0_ : Value, e = .returned (v0_) ∧ Kd.R (Kd.int .u8) 5 w' w.heap.size (fun _ => True) v0_ r ∧ Below w.heap.size w w' := by
 have HR0 := Aside0.mk hr0
 have HC0 := Aside0.mk hc0
 clear hr0 hc0
 have HB := Aside0.mk (Below.refl w.heap.size w)
 have H : (am.l0 k l0 0 l0 (l0.length : Int) 0) = some r := h
 clear h
 have H' := Aside0.mk H
 clear H
 go_enter Try.func55, Try.ntmps55
 go_wp2
 go_loopg [3, 11] k (fun kq v3 v11 w' => ∃ (ey : Int) (fq : Int), v3 = .int .i64 ey ∧ v11 = .int .i64 fq ∧ Aside0 (am.l0 kq l0 ey l0 (l0.length : Int) fq = some r) ∧ Aside0 (kq ≤ k) ∧ Aside0 (Below w.heap.size w w'))
 case atStart => exact ⟨(0), (0), p21z, p21z, H', ⟨Nat.le_refl _⟩, ⟨p0z⟩⟩
 case round =>
  clear H'
  obtain ⟨ey, fq, rfl, rfl, HA, HK1, HB⟩ := hrel
  cases gk with
  | zero => exact absurd HA.out (by simp [am.l0])
  | succ k1 =>
   have H := HA.out
   clear HA
   simp only [am.l0] at H
   by_cases c2 : fq < (l0.length : Int)
   case pos =>
    rw [if_pos c2] at H
    have ig : decide (fq < (l0.length : Int)) = true := decide_eq_true c2
    clear c2
    by_cases c3 : 0 ≤ fq
    case neg =>
     rw [if_neg c3] at H
     exact absurd H (by simp)
    rw [if_pos c3] at H
    have eh : decide (0 ≤ fq) = true := decide_eq_true c3
    clear c3
    by_cases c4 : fq < (l0.length : Int)
    case neg =>
     rw [if_neg c4] at H
     exact absurd H (by simp)
    rw [if_pos c4] at H
    have gx : decide (fq < (l0.length : Int)) = true := decide_eq_true c4
    clear c4
    by_cases c5 : (wrap64 (ey + ((rd_L1 l0 fq).length : Int))) < 0
    case pos =>
     rw [if_pos c5] at H
     exact absurd H (by simp)
    rw [if_neg c5] at H
    have gI : decide ((wrap64 (ey + ((rd_L1 l0 fq).length : Int))) < 0) = false := decide_eq_false c5
    clear c5
    have H' := Aside0.mk H
    clear H
    have p101 : 0 ≤ (fq : Int) := of_decide_eq_true p10z
    have q101 : fq < (l0.length : Int) := of_decide_eq_true p10z
    obtain ⟨ad101, A101_0, c101_0, e101, hx101_0, hl101_0, hi101_0⟩ := at_L1 HR0.out fq p101 q101
    cases e101
    replace hx101_0 := (HB.out.cell (World.block_lt_of_cell? w _ hx101_0)).trans hx101_0
    have HR101_0 := Aside0.mk hi101_0
    have HC101_0 := Aside0.mk hl101_0
    clear hi101_0 hl101_0
    replace p101 := eq_true p101
    replace q101 := eq_true q101
    go_wp2
    go_roundg k1
    case measure => have := HK1.out; omega
    case rel => exact ⟨(wrap64 (ey + ((rd_L1 l0 fq).length : Int))), (wrap64 (fq + 1)), p21z, p21z, H', ⟨p217z⟩, ⟨p0z⟩⟩
   rw [if_neg c2] at H
   have ig : decide (fq < (l0.length : Int)) = false := decide_eq_false c2
   clear c2
   replace H := Option.bind_eq_some_iff.mp H
   obtain ⟨mA, A60, H⟩ := H
   replace H : (am.l1 k1 mA l0 (l0.length : Int) 0) = some r := H
   have A6 := Aside0.mk A60
   clear A60
   have H' := Aside0.mk H
   clear H
   go_wp2_with (first | ((with_reducible refine gate_callee (f := 58) rfl ?_); refine goesL_ (some 24) rfl rfl Try.func58 p16z rfl #[.slice none 0 0, .int .i64 ey] rfl p2z ?_; (refine (kT ey mA _ A6.out).mono ?_); rintro e w7 ⟨v103, rfl, ho0, hb⟩; refine ⟨_, rfl, ?_⟩; have z_ := asi2 (Kd.R_lower ho0 (below_size p0z)) (below_step p0z hb); clear HB; obtain ⟨HO104, HB⟩ := z_; (try clear hb ho0)))
   go_loopg [6, 27] k1 (fun kq v6 v27 w' => ∃ (lL : List Int) (fb : Int), v27 = .int .i64 fb ∧ Aside0 (am.l1 kq lL l0 (l0.length : Int) fb = some r) ∧ Aside0 (kq ≤ k1) ∧ Aside0 (Kd.R (Kd.int .u8) 5 w' w.heap.size (fun _ => True) v6 lL) ∧ Aside0 (Below w.heap.size w w'))
   case atStart => exact ⟨(mA), (0), p21z, H', ⟨Nat.le_refl _⟩, ⟨q0z HO104.out⟩, ⟨p0z⟩⟩
   case round =>
    clear H'
    try clear ig
    obtain ⟨lL, fb, rfl, HA, HK2, HO_6, HB⟩ := hrel
    cases gk with
    | zero => exact absurd HA.out (by simp [am.l1])
    | succ k2 =>
     have H := HA.out
     clear HA
     simp only [am.l1] at H
     by_cases c8 : fb < (l0.length : Int)
     case neg =>
      rw [if_neg c8] at H
      have ij : decide (fb < (l0.length : Int)) = false := decide_eq_false c8
      clear c8
      obtain rfl := Option.some.inj H
      go_wp2
      go_ret
      exact ⟨_, p6z, q0z HO_6.out, p0z⟩

     rw [if_pos c8] at H
     have ij : decide (fb < (l0.length : Int)) = true := decide_eq_true c8
     clear c8
     by_cases c9 : 0 ≤ fb
     case neg =>
      rw [if_neg c9] at H
      exact absurd H (by simp)
     rw [if_pos c9] at H
     have mi : decide (0 ≤ fb) = true := decide_eq_true c9
     clear c9
     by_cases c10 : fb < (l0.length : Int)
     case neg =>
      rw [if_neg c10] at H
      exact absurd H (by simp)
     rw [if_pos c10] at H
     have mj : decide (fb < (l0.length : Int)) = true := decide_eq_true c10
     clear c10
     by_cases c11 : lL.length + (rd_L1 l0 fb).length < 140737488355328
     case neg =>
      rw [if_neg c11] at H
      exact absurd H (by simp)
     rw [if_pos c11] at H
     have LMc11 := Aside0.mk c11
     clear c11
     obtain ⟨y106, hy106⟩ : ∃ y_ : List Int, y_ = (lL ++ (rd_L1 l0 fb)) := ⟨_, rfl⟩
     replace H : (am.l1 k2 y106 l0 (l0.length : Int) (wrap64 (fb + 1))) = some r := by first | (rw [hy106]; with_reducible exact H) | (have H2_ := (Option.bind_some _ _).symm.trans H; rw [hy106]; with_reducible exact H2_) | (have H2_ := (Option.bind_some _ _).symm.trans H; with_reducible exact H2_) | with_reducible exact H | (rw [hy106]; exact H) | exact H
     have Ny106 := Aside0.mk hy106
     clear hy106
     have H' := Aside0.mk H
     clear H
     have p105 : 0 ≤ (fb : Int) := of_decide_eq_true p10z
     have q105 : fb < (l0.length : Int) := of_decide_eq_true p10z
     obtain ⟨ad105, A105_0, c105_0, e105, hx105_0, hl105_0, hi105_0⟩ := at_L1 HR0.out fb p105 q105
     cases e105
     replace hx105_0 := (HB.out.cell (World.block_lt_of_cell? w _ hx105_0)).trans hx105_0
     have HR105_0 := Aside0.mk hi105_0
     have HC105_0 := Aside0.mk hl105_0
     clear hi105_0 hl105_0
     replace p105 := eq_true p105
     replace q105 := eq_true q105
     go_wp2_with (first | ((with_reducible refine gate_builtin (b := .append) (xs := #[.tmp 31, .tmp 32]) rfl ?_); at_builtin; refine Kd.R_append_rows (Kd.int .u8) (w0 := w) w.heap.size rfl (.tmp 31) (.tmp 32) 22 5 (.int .u8 0) 1 rfl Try.underlying22 info5 rfl (by decide) (by omega) u6 lL (rd_L1 l0 fb) _ _ _ (fun _ => True) (fun _ => False) rfl rfl ?aO ?aR (fun _ _ h => h) (fun _ h => h.elim) ?aF ?aB ?aS ?aL ?_; (case aR => repeat (first | exact (Kd.C_below HR105_0.out HB.out) | (with_reducible refine Kd.C_alloc ?_ _) | (with_reducible refine Kd.C_drewN ?_ _) | (with_reducible refine Kd.C_drew ?_))); (case aB => exact p0z); (case aF => exact (fun _ _ => trivial)); (case aO => exact (q0z HO_6.out)); (case aS => exact (below_size p0z)); (case aL => have := LMc11.out; omega); intro v107 w12 ho hb hg hat; rw [← Ny106.out] at ho; have z_ := asi2 (hb) (ho); clear HB HO_6; obtain ⟨HB, HO108⟩ := z_; clear ho hb hg hat))
     go_roundg k2
     case measure => have := HK1.out; have := HK2.out; omega
     case rel => exact ⟨(y106), (wrap64 (fb + 1)), p21z, H', ⟨by have := HK1.out; have := HK2.out; omega⟩, ⟨q0z HO108.out⟩, ⟨p0z⟩⟩
end Go.Proofs.Ytbclejgljegfmaa.Cat
