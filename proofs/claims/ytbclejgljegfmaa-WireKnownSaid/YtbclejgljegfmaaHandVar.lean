/-
  wire.Var, slices.Clone: the walks.
-/
import Derived.Test.YtbclejgljegfmaaAp
import Derived.Test.YtbclejgljegfmaaHandSpec
import Derived.Test.YtbclejgljegfmaaProg
import Derived.Test.YtbclejgljegfmaaWKit
import Derived.Test.YtbclejgljegfmaaWWords
import Derived.WalkKit
import Derived.WalkSpells
import Derived.Outline
import Derived.Lib.Hide
import Derived.OwnWalk
import Derived.ArgAppend
import Derived.Maps.AppendAt
set_option maxRecDepth 100000
set_option maxHeartbeats 1000000
namespace Go.Proofs.Ytbclejgljegfmaa.Hand
open Go.RowKit Go.Proofs.YtbclejgljegfmaaW.PrintWords

theorem hinfo5 : (Try.prog.info? 5).map (fun i => (i.zero, i.size, i.bytes)) = some (some (.int .u8 0), 1, 1) := p16z
theorem hid {p : Prop} (h : p) : Hid p := h
theorem gP (k : IntKind) (l : List Int) : (nums k l).length = l.length := by simp [nums]
theorem nums_one (k : IntKind) (l : List Int) : ∀ u ∈ nums k l, u.oneCell' = true := by
  intro u hu
  obtain ⟨x, _, rfl⟩ := List.mem_map.1 hu
  rfl
theorem nums_append (k : IntKind) (a b : List Int) : nums k (a ++ b) = nums k a ++ nums k b := by simp [nums]
theorem jc {w : World} {A : Option Addr} {l : List Int} {k : IntKind} (h : (Kd.int k).C w A l.length l) : ∀ b, A = some b → ∀ j u, (nums k l)[j]? = some u → w.cell? (b.add j) = some u := by
  rintro b rfl j u hu
  have hj : j < l.length := by
    have := (List.getElem?_eq_some_iff.1 hu).1
    simpa [nums] using this
  have := Kd.foot_int h (j : Int) (by omega) (by omega)
  rw [Int.toNat_natCast] at this
  rw [this, ← hu]
  simp [nums, rd, List.getElem?_map, List.getD_eq_getElem?_getD, List.getElem?_eq_getElem hj]
theorem or128 (n : Int) : bits .or .u8 (n % 256) 128 = n % 128 + 128 := by
  have h : ∀ m : Fin 256, bits .or .u8 (m.1 : Int) 128 = (m.1 : Int) % 128 + 128 := p162z
  have := h ⟨(n % 256).toNat, by omega⟩
  simp only [Int.toNat_of_nonneg (Int.emod_nonneg n (by decide : (256 : Int) ≠ 0))] at this
  rw [this]
  omega
def isU64 (n : Int) : Bool := decide (0 ≤ n) && decide (n < 2 * 128 ^ 9)
def wire_Var.f (l0 : List Int) (a1 : Int) : Option (List Int) := if l0.length ≤ 1099511627776 ∧ isU64 a1 = true then some (l0 ++ vr 9 a1) else none
def aG.f (l0 : List Int) : Option (List Int) := if l0.length ≤ 140737488300000 then some l0 else none

theorem vr_step (k : Nat) (n : Int) (h : ¬ n < 128) (hk : k < 9) : vr (9 - k) n = (n % 128 + 128) :: vr (9 - (k + 1)) (n / 128) := by
  rw [show 9 - k = (9 - (k + 1)) + 1 by omega, vr, if_neg h]
theorem vr_last (k : Nat) (n : Int) (h : n < 128) (h0 : 0 ≤ n) : vr k n = [n] := by
  cases k with
  | zero => rw [vr, Int.emod_eq_of_lt h0 (by omega)]
  | succ k => rw [vr, if_pos h]
theorem vr_bound {k : Nat} {n : Int} (h : n < 2 * 128 ^ (9 - k)) (hn : ¬ n < 128) (hk : k ≤ 9) : k < 9 ∧ n / 128 < 2 * 128 ^ (9 - (k + 1)) := by
 have hk9 : k < 9 := by
  rcases Nat.lt_or_ge k 9 with h9 | h9
  ·exact h9
  ·obtain rfl : k = 9 := by omega
   simp at h
   omega
 refine ⟨hk9, ?_⟩
 rw [show 9 - k = (9 - (k + 1)) + 1 by omega, Int.pow_succ] at h
 omega
theorem var_fin {n m : Int} {k : Nat} {done : List Int} (h : vr 9 n = done ++ vr (9 - k) m) (hm : m < 128) (h0 : 0 ≤ m) : vr 9 n = done ++ [m] := by rw [h, vr_last _ m hm h0]
theorem var_own1 {n m : Int} {l0 : List Int} {w w1 : World} {o : Obj} {v : Value} (h : vr 9 n = [] ++ [m]) (ho : w1.ownsRow (w.alloc o).heap.size 5 1 v (l0.length + 1) (nums .u8 l0 ++ [.int .u8 m])) : w1.ownsRow w.heap.size 5 1 v (l0 ++ vr 9 n).length (nums .u8 (l0 ++ vr 9 n)) := by
  rw [h]
  exact own_weaken (by simpa [nums] using ho) (by simp)
theorem var_own2 {n m : Int} {l0 done : List Int} {k b : Nat} {w1 : World} {v : Value} (h : vr 9 n = done ++ [m]) (hd : done.length = k) (ho : w1.ownsRow b 5 1 v (l0.length + k + 1) (nums .u8 (l0 ++ done) ++ [.int .u8 m])) : w1.ownsRow b 5 1 v (l0 ++ vr 9 n).length (nums .u8 (l0 ++ vr 9 n)) := by
  rw [h]
  simpa [nums, hd, Nat.add_assoc] using ho
theorem ib {w : World} {A : Option Addr} {xs : List Value} {o : Obj} (h : ∀ b, A = some b → ∀ j u, xs[j]? = some u → w.cell? (b.add j) = some u) : ∀ b, A = some b → ∀ j u, xs[j]? = some u → (w.alloc o).cell? (b.add j) = some u :=
  fun b e j u hj => pw_cell_below (below_alloc (Below.refl _ _) _) (h b e j u hj)
theorem own_empty (w : World) : (w.alloc (.cells #[] 5)).ownsRow w.heap.size 5 1 (.slice (some ⟨w.heap.size, 0, none⟩) 0 0) 0 [] :=
  ⟨rfl, .inr ⟨w.heap.size, 0, #[], rfl, Nat.le_refl _, heap_alloc_new w _, Nat.le_refl _, by simp [maxLen], rfl, rfl⟩⟩
theorem below_new {w w1 : World} {o : Obj} (h : (w.alloc o).grownBy w1 none) : Below w.heap.size w w1 :=
  ((Below.refl _ w).alloc (Nat.le_refl _) o).grown h (by simp) (fun _ e => by cases e)
theorem var_walk (A : Option Addr) (c : Nat) (l0 : List Int) (n : Int) (w : World) (hr : (Kd.int .u8).C w A l0.length l0) (hl : l0.length ≤ 1099511627776) (h0 : 0 ≤ n) (h1 : Hid (n < 2 * 128 ^ 9)) (hc : l0.length ≤ c) :
 Calls Try.prog 13 #[.slice A l0.length c, .int .u64 n] w fun e w' => ∃ v : Value, e = .returned v ∧ w'.ownsRow w.heap.size 5 1 v (l0 ++ vr 9 n).length (nums .u8 (l0 ++ vr 9 n)) ∧ Below w.heap.size w w' := by
 have hcells := hid (jc hr)
 have hnone : Hid (A = none → l0.length = 0) := hid fun e => by
  subst e
  rcases Nat.eq_zero_or_pos l0.length with h | h
  ·exact h
  ·obtain ⟨_, e, _⟩ := hr.2.2 h
   cases e
 obtain ⟨i0, hi, hz0, hz1, hz2⟩ := info_parts hinfo5
 go_enter Try.func13, Try.ntmps13
 go_wp2
 go_loopw [1, 5] (fun x v wr => ∃ (k : Nat) (m : Int) (done : List Int), x = .int .u64 m ∧ 0 ≤ m ∧ k ≤ 9 ∧ Hid (m < 2 * 128 ^ (9 - k)) ∧ Hid (vr 9 n = done ++ vr (9 - k) m) ∧ Hid (done.length = k) ∧
  ((k = 0 ∧ v = .slice A l0.length l0.length ∧ wr = w) ∨ (0 < k ∧ wr.ownsRow w.heap.size 5 1 v (l0.length + k) (nums .u8 (l0 ++ done)) ∧ Below w.heap.size w wr)))
  (fun x _ _ => (intOf x).toNat)
 case atStart => exact ⟨0, n, [], rfl, h0, by omega, h1, hid rfl, hid rfl, .inl ⟨rfl, rfl, rfl⟩⟩
 case round =>
  obtain ⟨k, m, done, rfl, hm0, hk, hmb, hvr, hdl, hst⟩ := hrel
  by_cases hm : m < 128
  case pos =>
   have hd : ¬ 0 < m / 128 := by omega
   rcases hst with ⟨rfl, rfl, rfl⟩ | ⟨hk0, hrow, hB⟩
   ·go_wp2_with (at_builtin; refine wpList_append_grows _ rfl _ _ 22 rfl 5 i0 (.int .u8 0) 1 1 Try.underlying22 hi hz0 hz1 hz2 rfl (by decide) A l0.length l0.length (nums .u8 l0) rfl (fun e => ⟨hnone.out e, hnone.out e⟩) (by rw [gP]; omega) (ib hcells.out) ⟨wr.heap.size, 0, none⟩ 1 1 [.int .u8 (m)] rfl rfl (cell_one_new _ _ _) (by simp [Value.oneCell']) (by omega) p245z (by omega) ?_; intro v' w1 hown hgrow)
    go_ret
    have hv := var_fin hvr.out hm hm0
    obtain rfl := List.eq_nil_of_length_eq_zero hdl.out
    exact ⟨v', rfl, by simpa using var_own1 hv hown, below_new hgrow⟩
   ·have hsz := hB.size
    go_wp2_with (at_builtin; refine wpList_append_own _ rfl _ _ 22 rfl w.heap.size 5 i0 (.int .u8 0) 1 1 Try.underlying22 hi hz0 hz1 hz2 rfl (by decide) _ _ _ rfl (hrow.alloc _) ⟨wr.heap.size, 0, none⟩ 1 1 [.int .u8 (m)] rfl rfl (cell_one_new _ _ _) (by simp [Value.oneCell']) p245z (by omega) p243z ?_; intro v' w1 hown hgrow _)
    go_ret
    have hv := var_fin hvr.out hm hm0
    exact ⟨v', rfl, by simpa using var_own2 hv hdl.out hown, (hB.alloc hsz _).grown hgrow p243z (own_base hrow)⟩
  have hd : 0 < m / 128 := by omega
  obtain ⟨hk9, hmb'⟩ := vr_bound hmb.out hm hk
  have HMB := hid hmb'
  clear hmb'
  have HVR := hid (show vr 9 n = (done ++ [m % 128 + 128]) ++ vr (9 - (k + 1)) (m / 128) by rw [hvr.out, vr_step k m hm hk9]; simp)
  have hor := or128 m
  have hmm : 0 ≤ m % 128 + 128 := by omega
  rcases hst with ⟨rfl, rfl, rfl⟩ | ⟨hk0, hrow, hB⟩
  ·go_wp2_with (at_builtin; refine wpList_append_grows _ rfl _ _ 22 rfl 5 i0 (.int .u8 0) 1 1 Try.underlying22 hi hz0 hz1 hz2 rfl (by decide) A l0.length l0.length (nums .u8 l0) rfl (fun e => ⟨hnone.out e, hnone.out e⟩) (by rw [gP]; omega) (ib hcells.out) ⟨wr.heap.size, 0, none⟩ 1 1 [.int .u8 (m % 128 + 128)] rfl rfl (cell_one_new _ _ _) (by simp [Value.oneCell']) (by omega) p245z (by omega) ?_; intro v' w1 hown hgrow)
   go_roundw
   case rel =>
    obtain rfl := List.eq_nil_of_length_eq_zero hdl.out
    exact ⟨1, m / 128, [m % 128 + 128], rfl, by omega, by omega, HMB, hid (by simpa using HVR.out), hid rfl, .inr ⟨by omega, own_weaken (by simpa [nums] using hown) (by simp), below_new hgrow⟩⟩
   case measure => simp [intOf]; omega
  ·have hsz := hB.size
   go_wp2_with (at_builtin; refine wpList_append_own _ rfl _ _ 22 rfl w.heap.size 5 i0 (.int .u8 0) 1 1 Try.underlying22 hi hz0 hz1 hz2 rfl (by decide) _ _ _ rfl (hrow.alloc _) ⟨wr.heap.size, 0, none⟩ 1 1 [.int .u8 (m % 128 + 128)] rfl rfl (cell_one_new _ _ _) (by simp [Value.oneCell']) p245z (by omega) p243z ?_; intro v' w1 hown hgrow _)
   go_roundw
   case rel => exact ⟨k + 1, m / 128, done ++ [m % 128 + 128], rfl, by omega, by omega, HMB, HVR, hid (by simp [hdl.out]), .inr ⟨by omega, by simpa [nums, Nat.add_assoc] using hown, (hB.alloc hsz _).grown hgrow p243z (own_base hrow)⟩⟩
   case measure => simp [intOf]; omega

theorem wire_Var.calls (A0 : Option Addr) (c0 : Nat) (l0 : List Int) (a1 : Int) (r : List Int) (w : World) (hr0 : Kd.C (Kd.int .u8) w A0 l0.length l0) (hc0 : l0.length ≤ c0) (h : wire_Var.f l0 a1 = some r) :
 Calls Try.prog 13 #[.slice A0 l0.length c0, .int .u64 a1] w fun e w' => ∃ v0_ : Value, e = .returned v0_ ∧ Kd.R (Kd.int .u8) 5 w' w.heap.size (fun _ => True) v0_ r ∧ Below w.heap.size w w' := by
 unfold wire_Var.f at h
 split at h
 ·rename_i hh
  obtain ⟨h1, h2⟩ := hh
  obtain rfl := Option.some.inj h
  simp only [isU64, Bool.and_eq_true, decide_eq_true_eq] at h2
  refine (var_walk A0 c0 l0 a1 w hr0 h1 h2.1 h2.2 hc0).mono ?_
  rintro e w' ⟨v, rfl, ho, hB⟩
  exact ⟨v, rfl, Kd.R_of_own (enc := Value.int .u8) (h1 := fun _ => rfl) ho (fun _ _ => trivial), hB⟩
 ·cases h

theorem aG.calls (A0 : Option Addr) (c0 : Nat) (l0 : List Int) (r : List Int) (w : World) (hr0 : Kd.C (Kd.int .u8) w A0 l0.length l0) (hc0 : l0.length ≤ c0) (h : aG.f l0 = some r) :
 Calls Try.prog 49 #[.slice A0 l0.length c0] w fun e w' => ∃ v0_ : Value, e = .returned v0_ ∧ Kd.R (Kd.int .u8) 5 w' w.heap.size (fun _ => True) v0_ r ∧ Below w.heap.size w w' := by
 unfold aG.f at h
 split at h
 ·rename_i hl
  obtain rfl := Option.some.inj h
  obtain ⟨i0, hi, hz0, hz1, hz2⟩ := info_parts hinfo5
  have hcells := hid (jc hr0)
  cases A0 with
  | none =>
   have hl0 : l0 = [] := by
    rcases l0 with _ | ⟨x, l0⟩
    ·rfl
    ·obtain ⟨_, e, _⟩ := hr0.2.2 (by simp)
     cases e
   subst hl0
   have heq : ∀ (w : World) (c : Nat), (binOp .eql 22 (.slice none 0 c) (.slice none 0 0)).run Try.prog w = .ok (.bool true) w := fun w c => Lib.run_eql_slice_nil (P := Try.prog) w 22 5 none 0 c 0 0 Try.underlying22
   go_enter Try.func49, Try.ntmps49
   go_wp2
   go_ret
   exact ⟨_, rfl, Kd.R_nil _ _ _ _ _, Below.refl _ _⟩
  | some ad =>
   have heq : ∀ (w : World) (n c : Nat), (binOp .eql 22 (.slice (some ad) n c) (.slice none 0 0)).run Try.prog w = .ok (.bool false) w := fun w n c => Lib.run_eql_slice_nil (P := Try.prog) w 22 5 (some ad) n c 0 0 Try.underlying22
   go_enter Try.func49, Try.ntmps49
   go_wp2_with (at_builtin; refine wpList_append_own _ rfl _ _ 22 rfl w.heap.size 5 i0 (.int .u8 0) 1 1 Try.underlying22 hi hz0 hz1 hz2 rfl (by decide) (.slice (some ⟨w.heap.size, 0, none⟩) 0 0) 0 [] rfl (own_empty w) ad l0.length c0 (nums .u8 l0) rfl (by rw [gP]; omega) (ib hcells.out _ rfl) (nums_one _ _) p245z (by omega) (by simp) ?_; intro v' w1 hown hgrow _)
   go_ret
   exact ⟨v', rfl, Kd.R_of_own (enc := Value.int .u8) (h1 := fun _ => rfl) (by rw [Nat.zero_add, List.nil_append] at hown; exact hown) (fun _ _ => trivial), ((Below.refl _ w).alloc (Nat.le_refl _) _).grown hgrow (by simp) (fun k hk => by simp [Value.ownBlock] at hk; omega)⟩
 ·cases h
end Go.Proofs.Ytbclejgljegfmaa.Hand
