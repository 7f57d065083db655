-- Written by this repo's program wip/tools/pr.py (over the kit's print) out of the translation. Not trusted: Lean checks it.
import Derived.Test.YtbclejgljegfmaaAp
import Derived.Test.YtbclejgljegfmaaHandKw
import Derived.Test.YtbclejgljegfmaaHandBz
import Derived.Test.YtbclejgljegfmaaHandWorks
set_option maxHeartbeats 8000000
set_option maxRecDepth 100000
namespace Go.Proofs.Ytbclejgljegfmaa.PAll
open Go.Proofs.Ytbclejgljegfmaa.Hand
open Go.RowKit Go.Proofs.YtbclejgljegfmaaW.PrintWords Go.Proofs.YtbclejgljegfmaaW.PrintLast Go.Proofs.YtbclejgljegfmaaW.PrintMore
attribute [local go_sem] max2_int min2_int max_two min_two max_three min_three max_four min_four   -- for this text's walks alone
set_option linter.unusedVariables false
set_option linter.unusedSimpArgs false

/-! ### a6: function 11 -/
mutual
def a6.l0 : Nat → List Int → List Int → List Int → Int → Option (Bool)
  | 0, _, _, _, _ => none
  | k + 1, x1, x2, x3, x4 => if x4 < (x1.length : Int) then (a6.l1 k x1 x2 x3 x4 0) else (a6.l4 k 0)
def a6.l1 : Nat → List Int → List Int → List Int → Int → Int → Option (Bool)
  | 0, _, _, _, _, _ => none
  | k + 1, x1, x2, x3, x4, x5 => if x5 < (x2.length : Int) then (if 0 ≤ x4 then (if x4 < (x1.length : Int) then (if 0 ≤ x5 then ((kNumbers.f (([9] : List Int)) (rd x1 x4) (rd x2 x5)).bind fun lM => (if lM = true then (if (x2.length : Int) = 0 then (none) else (if 0 ≤ (Int.tmod x4 (x2.length : Int)) then (if (Int.tmod x4 (x2.length : Int)) < (x2.length : Int) then ((kZigs.f (rd x2 x5) (rd x2 (Int.tmod x4 (x2.length : Int))) (rd x1 x4)).bind fun iT => (if iT = true then (a6.l1 k x1 x2 x3 x4 (wrap64 (x5 + 1))) else (none))) else (none)) else (none))) else (none))) else (none)) else (none)) else (none)) else (a6.l2 k x1 x2 x3 x4 0)
def a6.l2 : Nat → List Int → List Int → List Int → Int → Int → Option (Bool)
  | 0, _, _, _, _, _ => none
  | k + 1, x1, x2, x3, x4, x6 => if x6 < (x3.length : Int) then (a6.l3 k x1 x2 x3 x4 x6 (-1)) else (a6.l0 k x1 x2 x3 (wrap64 (x4 + 1)))
def a6.l3 : Nat → List Int → List Int → List Int → Int → Int → Int → Option (Bool)
  | 0, _, _, _, _, _, _ => none
  | k + 1, x1, x2, x3, x4, x6, x7 => if x7 < 9 then (if 0 ≤ x6 then (if x6 < (x3.length : Int) then (if 0 ≤ x4 then (if x4 < (x1.length : Int) then ((kMakes.f (rd x3 x6) x7 (rd x1 x4) (([1, 2] : List Int))).bind fun lN => (if lN = true then ((kMakes.f 3 (rd x3 x6) (rd x1 x4) ([] : List Int)).bind fun jF => (if jF = true then (a6.l3 k x1 x2 x3 x4 x6 (wrap64 (x7 + 1))) else (none))) else (none))) else (none)) else (none)) else (none)) else (none)) else (a6.l2 k x1 x2 x3 x4 (wrap64 (x6 + 1)))
def a6.l4 : Nat → Int → Option (Bool)
  | 0, _ => none
  | k + 1, x8 => if x8 < 256 then ((kReads.f (([(x8) % 256, 1, 2, 3, 4, 5, 6, 7, 8] : List Int))).bind fun lO => (if lO = true then ((kReads.f (([8, (x8) % 256] : List Int))).bind fun iU => (if iU = true then ((kReads.f (([18, (x8) % 256, 1, 2] : List Int))).bind fun gO => (if gO = true then ((kReads.f (([(x8) % 256, 128, 128, 128, 16, 5] : List Int))).bind fun fC => (if fC = true then ((kReads.f (([8, 255, 255, 255, 255, 255, 255, 255, 255, 255, (x8) % 256] : List Int))).bind fun dT => (if dT = true then (a6.l4 k (wrap64 (x8 + 1))) else (none))) else (none))) else (none))) else (none))) else (none))) else (some true)
end
def a6.f (k : Nat)  : Option (Bool) := a6.l0 k (([0, 1, 127, 128, 4294967295, 4294967296, 9223372036854775807, 9223372036854775808, 18446744073709551615] : List Int)) (([(-9223372036854775808), (-9223372036854775807), (-2), (-1), 0, 1, 9223372036854775807] : List Int)) (([(-9223372036854775808), (-1), 0, 1, 15, 16, 536870911, 536870912, 9223372036854775807] : List Int)) 0
def a6.T10 : Bool × List (List Nat × List Nat) := (true, [([], []), ([], []), ([], []), ([1, 2], [1, 2]), ([3], [3]), ([], []), ([], []), ([5, 6], [5, 6]), ([7], [7]), ([0, 4, 8], [0, 4, 8]), ([9], [9]), ([10, 9], [10]), ([11], [11]), ([11], [11]), ([12, 13, 11], [11, 12, 13]), ([14, 11], [11, 14]), ([11], [11]), ([11], [11]), ([11], [11]), ([18, 11], [11, 18]), ([17, 19, 11], [11, 17, 19]), ([16, 20, 11], [11, 16, 20]), ([21, 11], [11, 21]), ([11], [11]), ([11], [11]), ([23, 24, 11], [11, 23, 24]), ([25, 11], [11, 25]), ([15, 22, 26, 11, 11], [11, 15, 22, 26]), ([27, 11], [11, 27]), ([11, 28], [11, 28])])
def a6.B10 : List Nat := [0, 0, 0, 6, 14, 0, 0, 96, 224, 511, 1023, 2047, 4095, 4095, 16383, 32767, 4095, 4095, 4095, 266239, 921599, 2035711, 4132863, 4095, 4095, 25169919, 58724351, 134217727, 268435455, 536870911]
theorem a6.tab10 : rtab .any (opsOf Try.f11 10) = a6.T10 := p16z
theorem a6.bits10 : waitsOk a6.T10.2 a6.B10 = true := p16z
def a6.T18 : Bool × List (List Nat × List Nat) := (true, [([], []), ([], []), ([0, 1], [0, 1]), ([2], [2]), ([], []), ([3, 4], [3, 4]), ([], []), ([], []), ([6, 7], [6, 7]), ([8], [8]), ([], []), ([5, 9, 10], [5, 9, 10]), ([11], [11]), ([12, 11], [12]), ([13], [13]), ([13], [13]), ([14, 15, 13], [13, 14, 15]), ([16, 13], [13, 16]), ([17, 13], [13, 17]), ([13], [13]), ([13], [13]), ([19, 20, 13], [13, 19, 20]), ([21, 13], [13, 21]), ([18, 22, 13, 13], [13, 18, 22]), ([23, 13], [13, 23]), ([13, 24], [13, 24])])
def a6.B18 : List Nat := [0, 0, 3, 7, 0, 31, 0, 0, 192, 448, 0, 2047, 4095, 8191, 16383, 16383, 65535, 131071, 262143, 16383, 16383, 1589247, 3686399, 8388607, 16777215, 33554431]
theorem a6.tab18 : rtab .any (opsOf Try.f11 18) = a6.T18 := p16z
theorem a6.bits18 : waitsOk a6.T18.2 a6.B18 = true := p16z
theorem a6.calls (k : Nat)  (r : Bool) (w : World) (h : a6.f k  = some r) :
 Calls Try.prog 11 #[] w fun e w' => e = .returned (.bool r) ∧ Below w.heap.size w w' := by
 have hu52 := Try.underlying52
 have hu33 := Try.underlying33
 have HB := Aside0.mk (Below.refl w.heap.size w)
 have H : (a6.l0 k (([0, 1, 127, 128, 4294967295, 4294967296, 9223372036854775807, 9223372036854775808, 18446744073709551615] : List Int)) (([(-9223372036854775808), (-9223372036854775807), (-2), (-1), 0, 1, 9223372036854775807] : List Int)) (([(-9223372036854775808), (-1), 0, 1, 15, 16, 536870911, 536870912, 9223372036854775807] : List Int)) 0) = some r := h
 clear h
 obtain ⟨y167, hy167⟩ : ∃ y_ : List Int, y_ = (([0, 1, 127, 128, 4294967295, 4294967296, 9223372036854775807, 9223372036854775808, 18446744073709551615] : List Int)) := ⟨_, rfl⟩
 replace H : (a6.l0 k y167 (([(-9223372036854775808), (-9223372036854775807), (-2), (-1), 0, 1, 9223372036854775807] : List Int)) (([(-9223372036854775808), (-1), 0, 1, 15, 16, 536870911, 536870912, 9223372036854775807] : List Int)) 0) = some r := by first | (rw [hy167]; with_reducible exact H) | (have H2_ := (Option.bind_some _ _).symm.trans H; rw [hy167]; with_reducible exact H2_) | (have H2_ := (Option.bind_some _ _).symm.trans H; with_reducible exact H2_) | with_reducible exact H | (rw [hy167]; exact H) | exact H
 have Ny167 := Aside0.mk hy167
 clear hy167
 obtain ⟨y170, hy170⟩ : ∃ y_ : List Int, y_ = (([(-9223372036854775808), (-9223372036854775807), (-2), (-1), 0, 1, 9223372036854775807] : List Int)) := ⟨_, rfl⟩
 replace H : (a6.l0 k y167 y170 (([(-9223372036854775808), (-1), 0, 1, 15, 16, 536870911, 536870912, 9223372036854775807] : List Int)) 0) = some r := by first | (rw [hy170]; with_reducible exact H) | (have H2_ := (Option.bind_some _ _).symm.trans H; rw [hy170]; with_reducible exact H2_) | (have H2_ := (Option.bind_some _ _).symm.trans H; with_reducible exact H2_) | with_reducible exact H | (rw [hy170]; exact H) | exact H
 have Ny170 := Aside0.mk hy170
 clear hy170
 obtain ⟨y173, hy173⟩ : ∃ y_ : List Int, y_ = (([(-9223372036854775808), (-1), 0, 1, 15, 16, 536870911, 536870912, 9223372036854775807] : List Int)) := ⟨_, rfl⟩
 replace H : (a6.l0 k y167 y170 y173 0) = some r := by first | (rw [hy173]; with_reducible exact H) | (have H2_ := (Option.bind_some _ _).symm.trans H; rw [hy173]; with_reducible exact H2_) | (have H2_ := (Option.bind_some _ _).symm.trans H; with_reducible exact H2_) | with_reducible exact H | (rw [hy173]; exact H) | exact H
 have Ny173 := Aside0.mk hy173
 clear hy173
 have H' := Aside0.mk H
 clear H
 go_enter Try.func11, Try.ntmps11
 go_wp2_with (first | ((with_reducible refine gate_dst (N := 21) rfl ?_); (try (refine gate_guard (by rfl) ?_; dsimp only)); refine Kd.R_lit (Kd.int .u64) _ 23 ?hg (N := 21) ?hd (xs := ([0, 1, 127, 128, 4294967295, 4294967296, 9223372036854775807, 9223372036854775808, 18446744073709551615] : List Int)) (inner := [.int .u64 0, .int .u64 1, .int .u64 127, .int .u64 128, .int .u64 4294967295, .int .u64 4294967296, .int .u64 9223372036854775807, .int .u64 9223372036854775808, .int .u64 18446744073709551615]) (ok := fun _ => True) (okp := fun _ => True) ?hr ?hp (fun _ hk => hk) trivial (Below.refl _ _) (Nat.le_refl _) (by simp) ?_; (case hd => rfl); (case hg => rfl); (case hr => exact p22z); (case hp => exact (Reps.one (show Kd.M (Kd.int .u64) _ _ _ 0 [.int .u64 0] from rfl) (Reps.one (show Kd.M (Kd.int .u64) _ _ _ 1 [.int .u64 1] from rfl) (Reps.one (show Kd.M (Kd.int .u64) _ _ _ 127 [.int .u64 127] from rfl) (Reps.one (show Kd.M (Kd.int .u64) _ _ _ 128 [.int .u64 128] from rfl) (Reps.one (show Kd.M (Kd.int .u64) _ _ _ 4294967295 [.int .u64 4294967295] from rfl) (Reps.one (show Kd.M (Kd.int .u64) _ _ _ 4294967296 [.int .u64 4294967296] from rfl) (Reps.one (show Kd.M (Kd.int .u64) _ _ _ 9223372036854775807 [.int .u64 9223372036854775807] from rfl) (Reps.one (show Kd.M (Kd.int .u64) _ _ _ 9223372036854775808 [.int .u64 9223372036854775808] from rfl) (Reps.one (show Kd.M (Kd.int .u64) _ _ _ 18446744073709551615 [.int .u64 18446744073709551615] from rfl) (Reps.none _ _))))))))))); intro v168 w1 ho2 hb hg_ hnew_; clear hg_ hnew_; (first | rw [← Ny167.out] at ho2 | (simp only [Int.reduceToNat] at ho2; rw [← Ny167.out] at ho2)); have z_ := asi2 (Kd.R_lower ho2 (below_size p0z)) (below_step p0z hb); clear HB; obtain ⟨kF, HB⟩ := z_; clear hb ho2) | ((with_reducible refine gate_dst (N := 22) rfl ?_); (try (refine gate_guard (by rfl) ?_; dsimp only)); refine Kd.R_lit (Kd.int .i64) _ 2 ?hg (N := 22) ?hd (xs := ([(-9223372036854775808), (-9223372036854775807), (-2), (-1), 0, 1, 9223372036854775807] : List Int)) (inner := [.int .i64 (-9223372036854775808), .int .i64 (-9223372036854775807), .int .i64 (-2), .int .i64 (-1), .int .i64 0, .int .i64 1, .int .i64 9223372036854775807]) (ok := fun _ => True) (okp := fun _ => True) ?hr ?hp (fun _ hk => hk) trivial (Below.refl _ _) (Nat.le_refl _) (by simp) ?_; (case hd => rfl); (case hg => rfl); (case hr => exact p22z); (case hp => exact (Reps.one (show Kd.M (Kd.int .i64) _ _ _ (-9223372036854775808) [.int .i64 (-9223372036854775808)] from rfl) (Reps.one (show Kd.M (Kd.int .i64) _ _ _ (-9223372036854775807) [.int .i64 (-9223372036854775807)] from rfl) (Reps.one (show Kd.M (Kd.int .i64) _ _ _ (-2) [.int .i64 (-2)] from rfl) (Reps.one (show Kd.M (Kd.int .i64) _ _ _ (-1) [.int .i64 (-1)] from rfl) (Reps.one (show Kd.M (Kd.int .i64) _ _ _ 0 [.int .i64 0] from rfl) (Reps.one (show Kd.M (Kd.int .i64) _ _ _ 1 [.int .i64 1] from rfl) (Reps.one (show Kd.M (Kd.int .i64) _ _ _ 9223372036854775807 [.int .i64 9223372036854775807] from rfl) (Reps.none _ _))))))))); intro v171 w3 ho4 hb hg_ hnew_; clear hg_ hnew_; (first | rw [← Ny170.out] at ho4 | (simp only [Int.reduceToNat] at ho4; rw [← Ny170.out] at ho4)); have z_ := asi3 (Kd.R_below p214z hb) (Kd.R_lower ho4 (below_size p0z)) (below_step p0z hb); clear kF HB; obtain ⟨kF, lu, HB⟩ := z_; clear hb ho4) | ((with_reducible refine gate_dst (N := 23) rfl ?_); (try (refine gate_guard (by rfl) ?_; dsimp only)); refine Kd.R_lit (Kd.int .i64) _ 3 ?hg (N := 23) ?hd (xs := ([(-9223372036854775808), (-1), 0, 1, 15, 16, 536870911, 536870912, 9223372036854775807] : List Int)) (inner := [.int .i64 (-9223372036854775808), .int .i64 (-1), .int .i64 0, .int .i64 1, .int .i64 15, .int .i64 16, .int .i64 536870911, .int .i64 536870912, .int .i64 9223372036854775807]) (ok := fun _ => True) (okp := fun _ => True) ?hr ?hp (fun _ hk => hk) trivial (Below.refl _ _) (Nat.le_refl _) (by simp) ?_; (case hd => rfl); (case hg => rfl); (case hr => exact p22z); (case hp => exact (Reps.one (show Kd.M (Kd.int .i64) _ _ _ (-9223372036854775808) [.int .i64 (-9223372036854775808)] from rfl) (Reps.one (show Kd.M (Kd.int .i64) _ _ _ (-1) [.int .i64 (-1)] from rfl) (Reps.one (show Kd.M (Kd.int .i64) _ _ _ 0 [.int .i64 0] from rfl) (Reps.one (show Kd.M (Kd.int .i64) _ _ _ 1 [.int .i64 1] from rfl) (Reps.one (show Kd.M (Kd.int .i64) _ _ _ 15 [.int .i64 15] from rfl) (Reps.one (show Kd.M (Kd.int .i64) _ _ _ 16 [.int .i64 16] from rfl) (Reps.one (show Kd.M (Kd.int .i64) _ _ _ 536870911 [.int .i64 536870911] from rfl) (Reps.one (show Kd.M (Kd.int .i64) _ _ _ 536870912 [.int .i64 536870912] from rfl) (Reps.one (show Kd.M (Kd.int .i64) _ _ _ 9223372036854775807 [.int .i64 9223372036854775807] from rfl) (Reps.none _ _))))))))))); intro v174 w5 ho6 hb hg_ hnew_; clear hg_ hnew_; (first | rw [← Ny173.out] at ho6 | (simp only [Int.reduceToNat] at ho6; rw [← Ny173.out] at ho6)); have z_ := asi4 (Kd.R_below p214z hb) (Kd.R_below (q0z lu.out) hb) (Kd.R_lower ho6 (below_size p0z)) (below_step p0z hb); clear kF lu HB; obtain ⟨kF, lu, HO175, HB⟩ := z_; clear hb ho6))
 go_loopg [4] k (fun kq v4 w' => ∃ (aw : Int), v4 = .int .i64 aw ∧ Aside0 (a6.l0 kq y167 y170 y173 aw = some r) ∧ Aside0 (kq ≤ k) ∧ Aside0 (Kd.R (Kd.int .u64) 23 w' w.heap.size (fun _ => True) v168 y167) ∧ Aside0 (Kd.R (Kd.int .i64) 2 w' w.heap.size (fun _ => True) v171 y170) ∧ Aside0 (Kd.R (Kd.int .i64) 3 w' w.heap.size (fun _ => True) v174 y173) ∧ Aside0 (Below w.heap.size w w'))
 case atStart => exact ⟨(0), p21z, H', ⟨Nat.le_refl _⟩, ⟨p214z⟩, ⟨q0z lu.out⟩, ⟨q0z HO175.out⟩, ⟨p0z⟩⟩
 case round =>
  clear H'
  obtain ⟨aw, rfl, HA, HK1, eP, bK, cv, HB⟩ := hrel
  cases gk with
  | zero => exact absurd HA.out (by simp [a6.l0])
  | succ k1 =>
   have H := HA.out
   clear HA
   simp only [a6.l0] at H
   by_cases c7 : aw < (y167.length : Int)
   case neg =>
    rw [if_neg c7] at H
    have fs : decide (aw < (y167.length : Int)) = false := decide_eq_false c7
    clear c7
    have H' := Aside0.mk H
    clear H
    obtain ⟨Ao47, co47, eo47⟩ := Kd.R_slice eP.out
    subst eo47
    go_wp2
    go_loopg [8] k1 (fun kq v8 w' => ∃ (cz : Int), v8 = .int .i64 cz ∧ Aside0 (a6.l4 kq cz = some r) ∧ Aside0 (kq ≤ k1) ∧ Aside0 (Below w.heap.size w w'))
    case atStart => exact ⟨(0), p21z, H', ⟨Nat.le_refl _⟩, ⟨p0z⟩⟩
    case round =>
     clear H'
     try clear fs
     obtain ⟨cz, rfl, HA, HK2, HB⟩ := hrel
     cases gk with
     | zero => exact absurd HA.out (by simp [a6.l4])
     | succ k2 =>
      have H := HA.out
      clear HA
      simp only [a6.l4] at H
      by_cases c48 : cz < 256
      case neg =>
       rw [if_neg c48] at H
       have lW : decide (cz < 256) = false := decide_eq_false c48
       clear c48
       obtain rfl := Option.some.inj H
       obtain ⟨hS, t224, ie, t239, t242, gw, dX, fl, A790, A800, A820, A840, A850, A930, A950⟩ := kX
       obtain ⟨y215, hy215⟩ : ∃ y_ : List Int, y_ = (([18] : List Int)) := ⟨_, rfl⟩
       rw [← hy215] at A790
       obtain ⟨y233, hy233⟩ : ∃ y_ : List Int, y_ = (List.replicate 1048577 0) := ⟨_, rfl⟩
       rw [← hy233] at A820
       obtain ⟨y247, hy247⟩ : ∃ y_ : List Int, y_ = (List.replicate 1048576 0) := ⟨_, rfl⟩
       rw [← hy247] at A840
       obtain ⟨y261, hy261⟩ : ∃ y_ : List Int, y_ = (List.replicate 1048577 0) := ⟨_, rfl⟩
       rw [← hy261] at A850
       have Ny215 := Aside0.mk hy215
       have Ny233 := Aside0.mk hy233
       have Ny247 := Aside0.mk hy247
       have Ny261 := Aside0.mk hy261
       have A79 := Aside0.mk A790
       have A80 := Aside0.mk A800
       have A82 := Aside0.mk A820
       have A84 := Aside0.mk A840
       have A85 := Aside0.mk A850
       have A93 := Aside0.mk A930
       have A95 := Aside0.mk A950
       have A86 := Aside0.mk (show ac.f = some true from rfl)
       have A97 := Aside0.mk (show kJoins.f ([] : List (S33)) = some true from rfl)
       clear hy215 hy233 hy247 hy261 A790 A800 A820 A840 A850 A930 A950
       have c81 : 1048577 ≤ 281474976710656 := by decide
       have c81b0 := eq_true c81
       have c81b1 : decide (1048577 ≤ 281474976710656) = true := decide_eq_true c81
       have c83 : 1048576 ≤ 281474976710656 := by decide
       have c83b0 := eq_true c83
       have c83b1 : decide (1048576 ≤ 281474976710656) = true := decide_eq_true c83
       clear c81 c83
       go_wp2_with (first | ((with_reducible refine gate_dst (N := 139) rfl ?_); (try (refine gate_guard (by rfl) ?_; dsimp only)); refine Kd.R_lit (Kd.int .u8) _ 5 ?hg (N := 139) ?hd (xs := ([18] : List Int)) (inner := [.int .u8 18]) (ok := fun _ => True) (okp := fun _ => True) ?hr ?hp (fun _ hk => hk) trivial (Below.refl _ _) (Nat.le_refl _) (by simp) ?_; (case hd => rfl); (case hg => rfl); (case hr => exact p22z); (case hp => exact (Reps.one (show Kd.M (Kd.int .u8) _ _ _ 18 [.int .u8 18] from rfl) (Reps.none _ _))); intro v216 w98 ho99 hb hg_ hnew_; clear hg_ hnew_; (first | rw [← Ny215.out] at ho99 | (simp only [Int.reduceToNat] at ho99; rw [← Ny215.out] at ho99)); have z_ := asi2 (Kd.R_lower ho99 (below_size p0z)) (below_step p0z hb); clear HB; obtain ⟨lv, HB⟩ := z_; clear hb ho99; obtain ⟨mv, co100, eo100⟩ := Kd.R_slice lv.out; subst eo100) | ((with_reducible refine gate_callee (f := 13) rfl ?_); refine goesL_ (some 140) rfl rfl Try.func13 p16z rfl #[.slice mv y215.length co100, .int .u64 1048577] rfl p2z ?_; (with_reducible refine (wire_Var.calls _ _ y215 1048577 hS _ ?side1 ?side2 A79.out).mono ?_); (case side1 => repeat (first | exact (Kd.R_reads' lv.out).2.2 | (with_reducible refine Kd.C_alloc ?_ _) | (with_reducible refine Kd.C_drewN ?_ _) | (with_reducible refine Kd.C_drew ?_))); (case side2 => exact (Kd.R_reads' lv.out).2.1); rintro e w101 ⟨v219, rfl, ho0, hb⟩; refine ⟨_, rfl, ?_⟩; have n1_ := Aside0.mk (Kd.R_lower ho0 (below_size p0z)); have n2_ := Aside0.mk (below_step p0z hb); clear lv HB; have lw := n1_; have HB := n2_; clear n1_ n2_ ho0 hb; obtain ⟨Ao102, co102, eo102⟩ := Kd.R_slice lw.out; subst eo102) | ((with_reducible refine gate_callee (f := 24) rfl ?_); refine goesL_ (some 143) rfl rfl Try.func24 p16z rfl #[.slice Ao102 hS.length co102] rfl p2z ?_; (with_reducible refine (wire_Next.calls _ _ hS 0 0 0 t224 ie 0 5 _ ?side1 ?side2 A80.out).mono ?_); (case side1 => repeat (first | exact (Kd.R_reads' lw.out).2.2 | (with_reducible refine Kd.C_alloc ?_ _) | (with_reducible refine Kd.C_drewN ?_ _) | (with_reducible refine Kd.C_drew ?_))); (case side2 => exact (Kd.R_reads' lw.out).2.1); rintro e w103 ⟨v225, v228, rfl, ho0, ho1, hb⟩; refine ⟨_, rfl, ?_⟩; have n2_ := Aside0.mk (below_step p0z hb); obtain ⟨Ao106, co106, eo106⟩ := Kd.R_slice ho0; subst eo106; obtain ⟨Ao107, co107, eo107⟩ := Kd.R_slice ho1; subst eo107; clear lw HB ho0 ho1 hb; have HB := n2_; clear n2_) | ((with_reducible refine gate_dst (N := 10) rfl ?_); (try (refine gate_guard (by rfl) ?_; dsimp only)); refine box_event ?hg (N := 10) ?hd (cs := #[.int .i64 0, .int .i64 0, .int .u64 0, .slice none 0 0, .slice none 0 0]) (t := 33) ?hr ?_; (case hd => rfl); (case hg => rfl); (case hr => exact p22z); intro jS hg mC hbox hb; have n4_ := Aside0.mk (below_step p0z hb); have n5_ := Aside0.mk (hbox); have n7_ := Aside0.mk ((p38z : w.heap.size ≤ jS)); clear HB; have HB := n4_; have ia := n5_; have GE232 := n7_; clear n4_ n5_ n7_; clear hb hbox hg; have hcz105_0 : mC.cell? ⟨jS, 0, none⟩ = some (.int .i64 0) := (blk_cell ia.out 0).trans rfl; have hcz105_1 : mC.cell? ⟨jS, 1, none⟩ = some (.int .i64 0) := (blk_cell ia.out 1).trans rfl; have hcz105_2 : mC.cell? ⟨jS, 2, none⟩ = some (.int .u64 0) := (blk_cell ia.out 2).trans rfl; have hcz105_3 : mC.cell? ⟨jS, 3, none⟩ = some (.slice none 0 0) := (blk_cell ia.out 3).trans rfl; have hcz105_4 : mC.cell? ⟨jS, 4, none⟩ = some (.slice none 0 0) := (blk_cell ia.out 4).trans rfl; have hfz105_0 := blk_frozen ia.out 0; have hfz105_1 := blk_frozen ia.out 1; have hfz105_2 := blk_frozen ia.out 2; have hfz105_3 := blk_frozen ia.out 3; have hfz105_4 := blk_frozen ia.out 4) | ((with_reducible refine gate_dst (N := 148) rfl ?_); (try (refine gate_guard (by rfl) ?_; dsimp only)); refine Kd.R_make (Kd.int .u8) _ 5 rfl (N := 148) rfl 22 _ _ rfl 1048577 rfl rfl Try.underlying22 (.int .u8 0) 1 info5 rfl (by decide) (by omega) 0 (ok := fun _ => True) (okp := fun _ => True) rfl (fun _ hk => hk) trivial (by omega) (by omega) (Below.refl _ _) (Nat.le_refl _) ?_; intro v234 w108 ho109 hb hg_ hnew_; clear hg_ hnew_; (first | rw [← Ny233.out] at ho109 | (simp only [Int.reduceToNat] at ho109; rw [← Ny233.out] at ho109)); have n1_ := Aside0.mk (Kd.R_lower ho109 (below_size p238z)); have n2_ := Aside0.mk (below_step p238z hb); clear HB; have lx := n1_; have HB := n2_; clear n1_ n2_ ho109 hb; obtain ⟨Ao110, co110, eo110⟩ := Kd.R_slice lx.out; subst eo110) | ((with_reducible refine gate_callee (f := 32) rfl ?_); refine goesL_ (some 149) rfl rfl Try.func32 p16z rfl #[.int .i64 1, .int .i64 2, .int .u64 0, .slice Ao110 y233.length co110] rfl p2z ?_; (with_reducible refine (wire_Make.calls 1 1 2 0 _ _ y233 0 0 0 t239 t242 5 _ ?side1 ?side2 A82.out).mono ?_); (case side1 => repeat (first | exact (Kd.R_reads' lx.out).2.2 | (with_reducible refine Kd.C_alloc ?_ _) | (with_reducible refine Kd.C_drewN ?_ _) | (with_reducible refine Kd.C_drew ?_))); (case side2 => exact (Kd.R_reads' lx.out).2.1); rintro e w111 ⟨v240, v243, rfl, ho0, ho1, hb⟩; refine ⟨_, rfl, ?_⟩; have n2_ := Aside0.mk (below_step p0z hb); obtain ⟨Ao115, co115, eo115⟩ := Kd.R_slice ho0; subst eo115; obtain ⟨Ao116, co116, eo116⟩ := Kd.R_slice ho1; subst eo116; clear lx HB ho0 ho1 hb; have HB := n2_; clear n2_) | ((with_reducible refine gate_dst (N := 13) rfl ?_); (try (refine gate_guard (by rfl) ?_; dsimp only)); refine box_event ?hg (N := 13) ?hd (cs := #[.int .i64 0, .int .i64 0, .int .u64 0, .slice none 0 0, .slice none 0 0]) (t := 33) ?hr ?_; (case hd => rfl); (case hg => rfl); (case hr => exact p22z); intro bi hg mD hbox hb; have n4_ := Aside0.mk (below_step p0z hb); have n5_ := Aside0.mk (hbox); have n7_ := Aside0.mk ((p38z : w.heap.size ≤ bi)); clear HB; have HB := n4_; have bP := n5_; have ld := n7_; clear n4_ n5_ n7_; clear hb hbox hg; have hcz114_0 : mD.cell? ⟨bi, 0, none⟩ = some (.int .i64 0) := (blk_cell bP.out 0).trans rfl; have hcz114_1 : mD.cell? ⟨bi, 1, none⟩ = some (.int .i64 0) := (blk_cell bP.out 1).trans rfl; have hcz114_2 : mD.cell? ⟨bi, 2, none⟩ = some (.int .u64 0) := (blk_cell bP.out 2).trans rfl; have hcz114_3 : mD.cell? ⟨bi, 3, none⟩ = some (.slice none 0 0) := (blk_cell bP.out 3).trans rfl; have hcz114_4 : mD.cell? ⟨bi, 4, none⟩ = some (.slice none 0 0) := (blk_cell bP.out 4).trans rfl; have hfz114_0 := blk_frozen bP.out 0; have hfz114_1 := blk_frozen bP.out 1; have hfz114_2 := blk_frozen bP.out 2; have hfz114_3 := blk_frozen bP.out 3; have hfz114_4 := blk_frozen bP.out 4) | ((with_reducible refine gate_dst (N := 153) rfl ?_); (try (refine gate_guard (by rfl) ?_; dsimp only)); refine Kd.R_make (Kd.int .u8) _ 5 rfl (N := 153) rfl 22 _ _ rfl 1048576 rfl rfl Try.underlying22 (.int .u8 0) 1 info5 rfl (by decide) (by omega) 0 (ok := fun _ => True) (okp := fun _ => True) rfl (fun _ hk => hk) trivial (by omega) (by omega) (Below.refl _ _) (Nat.le_refl _) ?_; intro v248 w117 ho118 hb hg_ hnew_; clear hg_ hnew_; (first | rw [← Ny247.out] at ho118 | (simp only [Int.reduceToNat] at ho118; rw [← Ny247.out] at ho118)); have n1_ := Aside0.mk (Kd.R_lower ho118 (below_size p78z)); have n2_ := Aside0.mk (below_step p78z hb); clear HB; have jH := n1_; have HB := n2_; clear n1_ n2_ ho118 hb; obtain ⟨Ao119, co119, eo119⟩ := Kd.R_slice jH.out; subst eo119) | ((with_reducible refine gate_callee (f := 32) rfl ?_); refine goesL_ (some 154) rfl rfl Try.func32 p16z rfl #[.int .i64 1, .int .i64 2, .int .u64 0, .slice Ao119 y247.length co119] rfl p2z ?_; (with_reducible refine (wire_Make.calls 1 1 2 0 _ _ y247 1 2 0 gw dX 0 _ ?side1 ?side2 A84.out).mono ?_); (case side1 => repeat (first | exact (Kd.R_reads' jH.out).2.2 | (with_reducible refine Kd.C_alloc ?_ _) | (with_reducible refine Kd.C_drewN ?_ _) | (with_reducible refine Kd.C_drew ?_))); (case side2 => exact (Kd.R_reads' jH.out).2.1); rintro e w120 ⟨v254, v257, rfl, ho0, ho1, hb⟩; refine ⟨_, rfl, ?_⟩; have n0_ := Aside0.mk (Kd.R_lower ho0 (below_size p0z)); have n1_ := Aside0.mk (Kd.R_lower ho1 (below_size p0z)); have n2_ := Aside0.mk (below_step p0z hb); clear jH HB ho0 ho1 hb; have fd := n0_; have fe := n1_; have HB := n2_; clear n0_ n1_ n2_; obtain ⟨gH, co125, eo125⟩ := Kd.R_slice fd.out; subst eo125; obtain ⟨gY, co126, eo126⟩ := Kd.R_slice fe.out; subst eo126) | ((with_reducible refine gate_dst (N := 15) rfl ?_); (try (refine gate_guard (by rfl) ?_; dsimp only)); refine box_event ?hg (N := 15) ?hd (cs := #[.int .i64 0, .int .i64 0, .int .u64 0, .slice none 0 0, .slice none 0 0]) (t := 33) ?hr ?_; (case hd => rfl); (case hg => rfl); (case hr => exact p22z); intro dW hg mE hbox hb; have k0_ := Aside0.mk (Kd.R_below p166z hb); have k1_ := Aside0.mk (Kd.R_below p167z hb); clear fd fe; have fd := k0_; have fe := k1_; clear k0_ k1_; have n4_ := Aside0.mk (below_step p0z hb); have n5_ := Aside0.mk (hbox); have n7_ := Aside0.mk ((p38z : w.heap.size ≤ dW)); clear HB; have HB := n4_; have dA := n5_; have GE260 := n7_; clear n4_ n5_ n7_; clear hb hbox hg; have hcz124_0 : mE.cell? ⟨dW, 0, none⟩ = some (.int .i64 0) := (blk_cell dA.out 0).trans rfl; have hcz124_1 : mE.cell? ⟨dW, 1, none⟩ = some (.int .i64 0) := (blk_cell dA.out 1).trans rfl; have hcz124_2 : mE.cell? ⟨dW, 2, none⟩ = some (.int .u64 0) := (blk_cell dA.out 2).trans rfl; have hcz124_3 : mE.cell? ⟨dW, 3, none⟩ = some (.slice none 0 0) := (blk_cell dA.out 3).trans rfl; have hcz124_4 : mE.cell? ⟨dW, 4, none⟩ = some (.slice none 0 0) := (blk_cell dA.out 4).trans rfl; have hfz124_0 := blk_frozen dA.out 0; have hfz124_1 := blk_frozen dA.out 1; have hfz124_2 := blk_frozen dA.out 2; have hfz124_3 := blk_frozen dA.out 3; have hfz124_4 := blk_frozen dA.out 4) | ((with_reducible refine gate_dst (N := 159) rfl ?_); (try (refine gate_guard (by rfl) ?_; dsimp only)); refine kY ?hg (N := 159) ?hd (x := (⟨1, 2, 0, gw, dX⟩ : S33)) (A3 := gH) (c3 := co125) (A4 := gY) (c4 := co126) ?l3 ?g3 ?l4 ?g4 ?hr ?_; (case hd => rfl); (case hg => rfl); (case l3 => exact (Kd.R_reads' fd.out).2.1); (case l4 => exact (Kd.R_reads' fe.out).2.1); (case g3 => exact (Kd.R_reads' (show Kd.R (Kd.int .u8) 5 _ w.heap.size (fun _ => True) (.slice gH gw.length co125) gw from p146z)).2.2); (case g4 => exact (Kd.R_reads' (show Kd.R (Kd.int .u8) 5 _ w.heap.size (fun _ => True) (.slice gY dX.length co126) dX from p147z)).2.2); (case hr => exact p22z); intro gb159 w140 HC hb; have HC159 := Aside0.mk HC; have k3_ := Aside0.mk (below_step (by repeat (first | (with_reducible first | exact HB.out | apply below_alloc | apply pw_below_drewN | apply below_drew1 | refine below_set ?_ GE260.out) | exact HB.out)) hb); have k0_ := Aside0.mk (Kd.R_below (show Kd.R (Kd.int .u8) 5 _ w.heap.size (fun _ => True) (.slice gH gw.length co125) gw from p146z) hb); have k1_ := Aside0.mk (Kd.R_below (show Kd.R (Kd.int .u8) 5 _ w.heap.size (fun _ => True) (.slice gY dX.length co126) dX from p147z) hb); have k2_ := Aside0.mk (blk_below (g := dW) (o := .cells #[.int .i64 1, .int .i64 2, .int .u64 0, .slice gH gw.length co125, .slice gY dX.length co126] 33 (0, 0)) (by (with_reducible repeat (first | refine blk_drewN ?_ _ | refine blk_drew ?_ | refine blk_alloc ?_ _)); refine blk_put (cs := #[.int .i64 1, .int .i64 2, .int .u64 0, .slice gH gw.length co125, .slice none 0 0]) ?_ 4 _ rfl; (with_reducible repeat (first | refine blk_drewN ?_ _ | refine blk_drew ?_ | refine blk_alloc ?_ _)); refine blk_put (cs := #[.int .i64 1, .int .i64 2, .int .u64 0, .slice none 0 0, .slice none 0 0]) ?_ 3 _ rfl; (with_reducible repeat (first | refine blk_drewN ?_ _ | refine blk_drew ?_ | refine blk_alloc ?_ _)); refine blk_put (cs := #[.int .i64 1, .int .i64 2, .int .u64 0, .slice none 0 0, .slice none 0 0]) ?_ 2 _ rfl; (with_reducible repeat (first | refine blk_drewN ?_ _ | refine blk_drew ?_ | refine blk_alloc ?_ _)); refine blk_put (cs := #[.int .i64 1, .int .i64 0, .int .u64 0, .slice none 0 0, .slice none 0 0]) ?_ 1 _ rfl; (with_reducible repeat (first | refine blk_drewN ?_ _ | refine blk_drew ?_ | refine blk_alloc ?_ _)); refine blk_put (cs := #[.int .i64 0, .int .i64 0, .int .u64 0, .slice none 0 0, .slice none 0 0]) ?_ 0 _ rfl; (with_reducible repeat (first | refine blk_drewN ?_ _ | refine blk_drew ?_ | refine blk_alloc ?_ _)); exact dA.out) hb); clear fd fe dA HB HC hb; have fd := k0_; have fe := k1_; have dA := k2_; have HB := k3_; clear k0_ k1_ k2_ k3_) | ((with_reducible refine gate_callee (f := 39) rfl ?_); refine goesL_ (some 160) rfl rfl Try.func39 p16z rfl #[.slice (some ⟨gb159, 0, none⟩) 1 1] rfl (by (try simp only [List.map_toArray, List.map_cons, List.map_nil]); first | done | rfl) ?_; refine (dM.calls (some ⟨gb159, 0, none⟩) 1 [(⟨1, 2, 0, gw, dX⟩ : S33)] [] 5 _ ?side1 (Nat.le_refl _) (jE Ny247.out A84.out)).mono ?_; (case side1 => repeat (first | exact HC159.out | (with_reducible refine Kd.C_alloc ?_ _) | (with_reducible refine Kd.C_drewN ?_ _) | (with_reducible refine Kd.C_drew ?_))); rintro e w142 ⟨v273, rfl, ho0, hb⟩; refine ⟨_, rfl, ?_⟩; have k0_ := Aside0.mk (Kd.R_below p166z hb); have k1_ := Aside0.mk (Kd.R_below p167z hb); clear fd fe; have fd := k0_; have fe := k1_; clear k0_ k1_; have k2_ := Aside0.mk (blk_below (g := dW) (o := .cells #[.int .i64 1, .int .i64 2, .int .u64 0, .slice gH gw.length co125, .slice gY dX.length co126] 33 (0, 0)) p177z hb); clear dA; have dA := k2_; clear k2_; have k3_ := Aside0.mk (below_step p0z hb); clear HB HC159; have HB := k3_; clear k3_; obtain ⟨Ao143, co143, eo143⟩ := Kd.R_slice ho0; subst eo143; clear ho0 hb) | ((with_reducible refine gate_dst (N := 164) rfl ?_); (try (refine gate_guard (by rfl) ?_; dsimp only)); refine Kd.R_make (Kd.int .u8) _ 5 rfl (N := 164) rfl 22 _ _ rfl 1048577 rfl rfl Try.underlying22 (.int .u8 0) 1 info5 rfl (by decide) (by omega) 0 (ok := fun _ => True) (okp := fun _ => True) rfl (fun _ hk => hk) trivial (by omega) (by omega) (Below.refl _ _) (Nat.le_refl _) ?_; intro v262 w127 ho128 hb hg_ hnew_; clear hg_ hnew_; (first | rw [← Ny261.out] at ho128 | (simp only [Int.reduceToNat] at ho128; rw [← Ny261.out] at ho128)); have k0_ := Aside0.mk (Kd.R_below p166z hb); have k1_ := Aside0.mk (Kd.R_below p167z hb); clear fd fe; have fd := k0_; have fe := k1_; clear k0_ k1_; have k2_ := Aside0.mk (blk_below (g := dW) (o := .cells #[.int .i64 1, .int .i64 2, .int .u64 0, .slice gH gw.length co125, .slice gY dX.length co126] 33 (0, 0)) p177z hb); clear dA; have dA := k2_; clear k2_; have n1_ := Aside0.mk (Kd.R_lower ho128 (below_size p0z)); have n2_ := Aside0.mk (below_step p0z hb); clear HB; have fm := n1_; have HB := n2_; clear n1_ n2_ ho128 hb; obtain ⟨jP, co129, eo129⟩ := Kd.R_slice fm.out; subst eo129) | ((with_reducible refine gate_callee (f := 26) rfl ?_); refine goesL_ (some 165) rfl rfl Try.func26 p16z rfl #[.slice jP y261.length co129] rfl p2z ?_; (with_reducible refine (aN.calls 1 (fun k_ => some k_ = (.slice jP y261.length co129 : Value).ownBlock) _ _ y261 fl 5 _ ?side1 A85.out).mono ?_); (case side1 => exact Kd.R_V (Kd.R_tight rfl p210z)); rintro e w130 ⟨v265, rfl, ho0, hb⟩; refine ⟨_, rfl, ?_⟩; have k0_ := Aside0.mk (Kd.R_below p166z hb); have k1_ := Aside0.mk (Kd.R_below p167z hb); clear fd fe; have fd := k0_; have fe := k1_; clear k0_ k1_; have k2_ := Aside0.mk (blk_below (g := dW) (o := .cells #[.int .i64 1, .int .i64 2, .int .u64 0, .slice gH gw.length co125, .slice gY dX.length co126] 33 (0, 0)) p177z hb); clear dA; have dA := k2_; clear k2_; have k3_ := Aside0.mk (below_step p0z hb); clear HB fm ho0; have HB := k3_; clear k3_ hb) | (go_at_call 22; (with_reducible refine (ac.calls  true _ A86.out).mono ?_); rintro e mF ⟨rfl, hb⟩; have k0_ := Aside0.mk (Kd.R_below p166z hb); have k1_ := Aside0.mk (Kd.R_below p167z hb); clear fd fe; have fd := k0_; have fe := k1_; clear k0_ k1_; have k2_ := Aside0.mk (blk_below (g := dW) (o := .cells #[.int .i64 1, .int .i64 2, .int .u64 0, .slice gH gw.length co125, .slice gY dX.length co126] 33 (0, 0)) p177z hb); clear dA; have dA := k2_; clear k2_; have k3_ := Aside0.mk (below_step p0z hb); clear HB; have HB := k3_; clear k3_ hb; have hcz132_0 : mF.cell? ⟨dW, 0, none⟩ = some (.int .i64 1) := (blk_cell dA.out 0).trans rfl; have hcz132_1 : mF.cell? ⟨dW, 1, none⟩ = some (.int .i64 2) := (blk_cell dA.out 1).trans rfl; have hcz132_2 : mF.cell? ⟨dW, 2, none⟩ = some (.int .u64 0) := (blk_cell dA.out 2).trans rfl; have hcz132_3 : mF.cell? ⟨dW, 3, none⟩ = some (.slice gH gw.length co125) := (blk_cell dA.out 3).trans rfl; have hcz132_4 : mF.cell? ⟨dW, 4, none⟩ = some (.slice gY dX.length co126) := (blk_cell dA.out 4).trans rfl; have hfz132_0 := blk_frozen dA.out 0; have hfz132_1 := blk_frozen dA.out 1; have hfz132_2 := blk_frozen dA.out 2; have hfz132_3 := blk_frozen dA.out 3; have hfz132_4 := blk_frozen dA.out 4) | (go_at_call 36; (with_reducible refine (bq.calls 3000000 1 2 0 _ _ gw _ _ dX 0 _ ?side1 ?side2 ?side3 ?side4 A93.out).mono ?_); (case side1 => repeat (first | exact (Kd.R_reads' fd.out).2.2 | (with_reducible refine Kd.C_alloc ?_ _) | (with_reducible refine Kd.C_drewN ?_ _) | (with_reducible refine Kd.C_drew ?_))); (case side2 => exact (Kd.R_reads' fd.out).2.1); (case side3 => repeat (first | exact (Kd.R_reads' fe.out).2.2 | (with_reducible refine Kd.C_alloc ?_ _) | (with_reducible refine Kd.C_drewN ?_ _) | (with_reducible refine Kd.C_drew ?_))); (case side4 => exact (Kd.R_reads' fe.out).2.1); rintro e w133 ⟨rfl, hb⟩; have k3_ := Aside0.mk (below_step p0z hb); clear HB; have HB := k3_; clear k3_ hb) | (go_at_call 36; (refine (bq.calls 1 0 0 0 _ _ ([] : List Int) _ _ ([] : List Int) 2 _ ?side1 ?side2 ?side3 ?side4 A95.out).mono ?_); (case side1 => exact Kd.C_nil _ _); (case side2 => exact Nat.le_refl _); (case side3 => exact Kd.C_nil _ _); (case side4 => exact Nat.le_refl _); rintro e w134 ⟨rfl, hb⟩; have k3_ := Aside0.mk (below_step p0z hb); clear HB; have HB := k3_; clear k3_ hb) | (go_at_call 8; (refine (kJoins.calls _ _ ([] : List (S33)) true _ ?side1 ?side2 A97.out).mono ?_); (case side1 => exact Kd.C_nil _ _); (case side2 => exact Nat.le_refl _); rintro e w135 ⟨rfl, hb⟩; have k3_ := Aside0.mk (below_step p0z hb); clear HB; have HB := k3_; clear k3_ hb))
       go_ret
       exact ⟨p6z, by repeat (first | (with_reducible first | exact HB.out | apply below_alloc | apply pw_below_drewN | apply below_drew1 | refine below_set ?_ GE232.out | refine below_set ?_ ld.out | refine below_set ?_ GE260.out) | exact HB.out)⟩

      rw [if_pos c48] at H
      have lW : decide (cz < 256) = true := decide_eq_true c48
      clear c48
      obtain ⟨y195, hy195⟩ : ∃ y_ : List Int, y_ = (([(cz) % 256, 1, 2, 3, 4, 5, 6, 7, 8] : List Int)) := ⟨_, rfl⟩
      replace H : ((kReads.f y195).bind fun lO => (if lO = true then ((kReads.f (([8, (cz) % 256] : List Int))).bind fun iU => (if iU = true then ((kReads.f (([18, (cz) % 256, 1, 2] : List Int))).bind fun gO => (if gO = true then ((kReads.f (([(cz) % 256, 128, 128, 128, 16, 5] : List Int))).bind fun fC => (if fC = true then ((kReads.f (([8, 255, 255, 255, 255, 255, 255, 255, 255, 255, (cz) % 256] : List Int))).bind fun dT => (if dT = true then (a6.l4 k2 (wrap64 (cz + 1))) else (none))) else (none))) else (none))) else (none))) else (none))) = some r := by first | (rw [hy195]; with_reducible exact H) | (have H2_ := (Option.bind_some _ _).symm.trans H; rw [hy195]; with_reducible exact H2_) | (have H2_ := (Option.bind_some _ _).symm.trans H; with_reducible exact H2_) | with_reducible exact H | (rw [hy195]; exact H) | exact H
      have Ny195 := Aside0.mk hy195
      clear hy195
      replace H := Option.bind_eq_some_iff.mp H
      obtain ⟨lO, A490, H⟩ := H
      replace H : (if lO = true then ((kReads.f (([8, (cz) % 256] : List Int))).bind fun iU => (if iU = true then ((kReads.f (([18, (cz) % 256, 1, 2] : List Int))).bind fun gO => (if gO = true then ((kReads.f (([(cz) % 256, 128, 128, 128, 16, 5] : List Int))).bind fun fC => (if fC = true then ((kReads.f (([8, 255, 255, 255, 255, 255, 255, 255, 255, 255, (cz) % 256] : List Int))).bind fun dT => (if dT = true then (a6.l4 k2 (wrap64 (cz + 1))) else (none))) else (none))) else (none))) else (none))) else (none)) = some r := H
      have A49 := Aside0.mk A490
      clear A490
      by_cases c50 : lO = true
      case neg =>
       replace c50 := Bool.eq_false_iff.mpr c50
       subst c50
       have H1 : (none) = some r := p42z
       clear H
       have H := H1
       clear H1
       exact absurd H (by simp)
      subst c50
      have H1 : ((kReads.f (([8, (cz) % 256] : List Int))).bind fun iU => (if iU = true then ((kReads.f (([18, (cz) % 256, 1, 2] : List Int))).bind fun gO => (if gO = true then ((kReads.f (([(cz) % 256, 128, 128, 128, 16, 5] : List Int))).bind fun fC => (if fC = true then ((kReads.f (([8, 255, 255, 255, 255, 255, 255, 255, 255, 255, (cz) % 256] : List Int))).bind fun dT => (if dT = true then (a6.l4 k2 (wrap64 (cz + 1))) else (none))) else (none))) else (none))) else (none))) = some r := p99z
      clear H
      have H := H1
      clear H1
      obtain ⟨y199, hy199⟩ : ∃ y_ : List Int, y_ = (([8, (cz) % 256] : List Int)) := ⟨_, rfl⟩
      replace H : ((kReads.f y199).bind fun iU => (if iU = true then ((kReads.f (([18, (cz) % 256, 1, 2] : List Int))).bind fun gO => (if gO = true then ((kReads.f (([(cz) % 256, 128, 128, 128, 16, 5] : List Int))).bind fun fC => (if fC = true then ((kReads.f (([8, 255, 255, 255, 255, 255, 255, 255, 255, 255, (cz) % 256] : List Int))).bind fun dT => (if dT = true then (a6.l4 k2 (wrap64 (cz + 1))) else (none))) else (none))) else (none))) else (none))) = some r := by first | (rw [hy199]; with_reducible exact H) | (have H2_ := (Option.bind_some _ _).symm.trans H; rw [hy199]; with_reducible exact H2_) | (have H2_ := (Option.bind_some _ _).symm.trans H; with_reducible exact H2_) | with_reducible exact H | (rw [hy199]; exact H) | exact H
      have Ny199 := Aside0.mk hy199
      clear hy199
      replace H := Option.bind_eq_some_iff.mp H
      obtain ⟨iU, A510, H⟩ := H
      replace H : (if iU = true then ((kReads.f (([18, (cz) % 256, 1, 2] : List Int))).bind fun gO => (if gO = true then ((kReads.f (([(cz) % 256, 128, 128, 128, 16, 5] : List Int))).bind fun fC => (if fC = true then ((kReads.f (([8, 255, 255, 255, 255, 255, 255, 255, 255, 255, (cz) % 256] : List Int))).bind fun dT => (if dT = true then (a6.l4 k2 (wrap64 (cz + 1))) else (none))) else (none))) else (none))) else (none)) = some r := H
      have A51 := Aside0.mk A510
      clear A510
      by_cases c52 : iU = true
      case neg =>
       replace c52 := Bool.eq_false_iff.mpr c52
       subst c52
       have H1 : (none) = some r := p42z
       clear H
       have H := H1
       clear H1
       exact absurd H (by simp)
      subst c52
      have H1 : ((kReads.f (([18, (cz) % 256, 1, 2] : List Int))).bind fun gO => (if gO = true then ((kReads.f (([(cz) % 256, 128, 128, 128, 16, 5] : List Int))).bind fun fC => (if fC = true then ((kReads.f (([8, 255, 255, 255, 255, 255, 255, 255, 255, 255, (cz) % 256] : List Int))).bind fun dT => (if dT = true then (a6.l4 k2 (wrap64 (cz + 1))) else (none))) else (none))) else (none))) = some r := p99z
      clear H
      have H := H1
      clear H1
      obtain ⟨y203, hy203⟩ : ∃ y_ : List Int, y_ = (([18, (cz) % 256, 1, 2] : List Int)) := ⟨_, rfl⟩
      replace H : ((kReads.f y203).bind fun gO => (if gO = true then ((kReads.f (([(cz) % 256, 128, 128, 128, 16, 5] : List Int))).bind fun fC => (if fC = true then ((kReads.f (([8, 255, 255, 255, 255, 255, 255, 255, 255, 255, (cz) % 256] : List Int))).bind fun dT => (if dT = true then (a6.l4 k2 (wrap64 (cz + 1))) else (none))) else (none))) else (none))) = some r := by first | (rw [hy203]; with_reducible exact H) | (have H2_ := (Option.bind_some _ _).symm.trans H; rw [hy203]; with_reducible exact H2_) | (have H2_ := (Option.bind_some _ _).symm.trans H; with_reducible exact H2_) | with_reducible exact H | (rw [hy203]; exact H) | exact H
      have Ny203 := Aside0.mk hy203
      clear hy203
      replace H := Option.bind_eq_some_iff.mp H
      obtain ⟨gO, A530, H⟩ := H
      replace H : (if gO = true then ((kReads.f (([(cz) % 256, 128, 128, 128, 16, 5] : List Int))).bind fun fC => (if fC = true then ((kReads.f (([8, 255, 255, 255, 255, 255, 255, 255, 255, 255, (cz) % 256] : List Int))).bind fun dT => (if dT = true then (a6.l4 k2 (wrap64 (cz + 1))) else (none))) else (none))) else (none)) = some r := H
      have A53 := Aside0.mk A530
      clear A530
      by_cases c54 : gO = true
      case neg =>
       replace c54 := Bool.eq_false_iff.mpr c54
       subst c54
       have H1 : (none) = some r := p42z
       clear H
       have H := H1
       clear H1
       exact absurd H (by simp)
      subst c54
      have H1 : ((kReads.f (([(cz) % 256, 128, 128, 128, 16, 5] : List Int))).bind fun fC => (if fC = true then ((kReads.f (([8, 255, 255, 255, 255, 255, 255, 255, 255, 255, (cz) % 256] : List Int))).bind fun dT => (if dT = true then (a6.l4 k2 (wrap64 (cz + 1))) else (none))) else (none))) = some r := p99z
      clear H
      have H := H1
      clear H1
      obtain ⟨y207, hy207⟩ : ∃ y_ : List Int, y_ = (([(cz) % 256, 128, 128, 128, 16, 5] : List Int)) := ⟨_, rfl⟩
      replace H : ((kReads.f y207).bind fun fC => (if fC = true then ((kReads.f (([8, 255, 255, 255, 255, 255, 255, 255, 255, 255, (cz) % 256] : List Int))).bind fun dT => (if dT = true then (a6.l4 k2 (wrap64 (cz + 1))) else (none))) else (none))) = some r := by first | (rw [hy207]; with_reducible exact H) | (have H2_ := (Option.bind_some _ _).symm.trans H; rw [hy207]; with_reducible exact H2_) | (have H2_ := (Option.bind_some _ _).symm.trans H; with_reducible exact H2_) | with_reducible exact H | (rw [hy207]; exact H) | exact H
      have Ny207 := Aside0.mk hy207
      clear hy207
      replace H := Option.bind_eq_some_iff.mp H
      obtain ⟨fC, A550, H⟩ := H
      replace H : (if fC = true then ((kReads.f (([8, 255, 255, 255, 255, 255, 255, 255, 255, 255, (cz) % 256] : List Int))).bind fun dT => (if dT = true then (a6.l4 k2 (wrap64 (cz + 1))) else (none))) else (none)) = some r := H
      have A55 := Aside0.mk A550
      clear A550
      by_cases c56 : fC = true
      case neg =>
       replace c56 := Bool.eq_false_iff.mpr c56
       subst c56
       have H1 : (none) = some r := p42z
       clear H
       have H := H1
       clear H1
       exact absurd H (by simp)
      subst c56
      have H1 : ((kReads.f (([8, 255, 255, 255, 255, 255, 255, 255, 255, 255, (cz) % 256] : List Int))).bind fun dT => (if dT = true then (a6.l4 k2 (wrap64 (cz + 1))) else (none))) = some r := p99z
      clear H
      have H := H1
      clear H1
      obtain ⟨y211, hy211⟩ : ∃ y_ : List Int, y_ = (([8, 255, 255, 255, 255, 255, 255, 255, 255, 255, (cz) % 256] : List Int)) := ⟨_, rfl⟩
      replace H : ((kReads.f y211).bind fun dT => (if dT = true then (a6.l4 k2 (wrap64 (cz + 1))) else (none))) = some r := by first | (rw [hy211]; with_reducible exact H) | (have H2_ := (Option.bind_some _ _).symm.trans H; rw [hy211]; with_reducible exact H2_) | (have H2_ := (Option.bind_some _ _).symm.trans H; with_reducible exact H2_) | with_reducible exact H | (rw [hy211]; exact H) | exact H
      have Ny211 := Aside0.mk hy211
      clear hy211
      replace H := Option.bind_eq_some_iff.mp H
      obtain ⟨dT, A570, H⟩ := H
      replace H : (if dT = true then (a6.l4 k2 (wrap64 (cz + 1))) else (none)) = some r := H
      have A57 := Aside0.mk A570
      clear A570
      by_cases c58 : dT = true
      case neg =>
       replace c58 := Bool.eq_false_iff.mpr c58
       subst c58
       have H1 : (none) = some r := p42z
       clear H
       have H := H1
       clear H1
       exact absurd H (by simp)
      subst c58
      have H1 : (a6.l4 k2 (wrap64 (cz + 1))) = some r := p99z
      clear H
      have H := H1
      clear H1
      have H' := Aside0.mk H
      clear H
      go_wp2_with (first | ((with_reducible refine gate_dst (N := 108) rfl ?_); (try (refine gate_guard (by rfl) ?_; dsimp only)); refine Kd.R_lit (Kd.int .u8) _ 5 ?hg (N := 108) ?hd (xs := ([(cz) % 256, 1, 2, 3, 4, 5, 6, 7, 8] : List Int)) (inner := [.int .u8 ((cz) % 256), .int .u8 1, .int .u8 2, .int .u8 3, .int .u8 4, .int .u8 5, .int .u8 6, .int .u8 7, .int .u8 8]) (ok := fun _ => True) (okp := fun _ => True) ?hr ?hp (fun _ hk => hk) trivial (Below.refl _ _) (Nat.le_refl _) (by simp) ?_; (case hd => rfl); (case hg => rfl); (case hr => exact p22z); (case hp => exact (Reps.one (show Kd.M (Kd.int .u8) _ _ _ ((cz) % 256) [.int .u8 ((cz) % 256)] from rfl) (Reps.one (show Kd.M (Kd.int .u8) _ _ _ 1 [.int .u8 1] from rfl) (Reps.one (show Kd.M (Kd.int .u8) _ _ _ 2 [.int .u8 2] from rfl) (Reps.one (show Kd.M (Kd.int .u8) _ _ _ 3 [.int .u8 3] from rfl) (Reps.one (show Kd.M (Kd.int .u8) _ _ _ 4 [.int .u8 4] from rfl) (Reps.one (show Kd.M (Kd.int .u8) _ _ _ 5 [.int .u8 5] from rfl) (Reps.one (show Kd.M (Kd.int .u8) _ _ _ 6 [.int .u8 6] from rfl) (Reps.one (show Kd.M (Kd.int .u8) _ _ _ 7 [.int .u8 7] from rfl) (Reps.one (show Kd.M (Kd.int .u8) _ _ _ 8 [.int .u8 8] from rfl) (Reps.none _ _))))))))))); intro v196 w59 ho60 hb hg_ hnew_; clear hg_ hnew_; (first | rw [← Ny195.out] at ho60 | (simp only [Int.reduceToNat] at ho60; rw [← Ny195.out] at ho60)); have z_ := asi2 (Kd.R_lower ho60 (below_size p0z)) (below_step p0z hb); clear HB; obtain ⟨ex, HB⟩ := z_; clear hb ho60; obtain ⟨lB, co61, eo61⟩ := Kd.R_slice ex.out; subst eo61) | ((with_reducible refine gate_callee (f := 4) rfl ?_); refine goesL_ (some 109) rfl rfl Try.func4 p16z rfl #[.slice lB y195.length co61] rfl p2z ?_; (with_reducible refine (kReads.calls _ _ y195 true _ ?side1 ?side2 A49.out).mono ?_); (case side1 => repeat (first | exact (Kd.R_reads' ex.out).2.2 | (with_reducible refine Kd.C_alloc ?_ _) | (with_reducible refine Kd.C_drewN ?_ _) | (with_reducible refine Kd.C_drew ?_))); (case side2 => exact (Kd.R_reads' ex.out).2.1); rintro e w62 ⟨rfl, hb⟩; refine ⟨_, rfl, ?_⟩; have z_ := asi2 (Kd.R_below p70z hb) (below_step p0z hb); clear ex HB; obtain ⟨ex, HB⟩ := z_; (try clear hb hk)) | ((with_reducible refine gate_dst (N := 114) rfl ?_); (try (refine gate_guard (by rfl) ?_; dsimp only)); refine Kd.R_lit (Kd.int .u8) _ 5 ?hg (N := 114) ?hd (xs := ([8, (cz) % 256] : List Int)) (inner := [.int .u8 8, .int .u8 ((cz) % 256)]) (ok := fun _ => True) (okp := fun _ => True) ?hr ?hp (fun _ hk => hk) trivial (Below.refl _ _) (Nat.le_refl _) (by simp) ?_; (case hd => rfl); (case hg => rfl); (case hr => exact p22z); (case hp => exact (Reps.one (show Kd.M (Kd.int .u8) _ _ _ 8 [.int .u8 8] from rfl) (Reps.one (show Kd.M (Kd.int .u8) _ _ _ ((cz) % 256) [.int .u8 ((cz) % 256)] from rfl) (Reps.none _ _)))); intro v200 w63 ho64 hb hg_ hnew_; clear hg_ hnew_; (first | rw [← Ny199.out] at ho64 | (simp only [Int.reduceToNat] at ho64; rw [← Ny199.out] at ho64)); have z_ := asi3 (Kd.R_elder' p70z (Kd.R_base ho64) hb) (Kd.R_lower (Kd.R_new' ho64 (Kd.R_lt p70z)) (below_size p0z)) (below_step p0z hb); clear ex HB; obtain ⟨ex, fc, HB⟩ := z_; clear hb ho64; obtain ⟨Ao65, co65, eo65⟩ := Kd.R_slice fc.out; subst eo65) | (go_at_call 4; (with_reducible refine (kReads.calls _ _ y199 true _ ?side1 ?side2 A51.out).mono ?_); (case side1 => repeat (first | exact (Kd.R_reads' fc.out).2.2 | (with_reducible refine Kd.C_alloc ?_ _) | (with_reducible refine Kd.C_drewN ?_ _) | (with_reducible refine Kd.C_drew ?_))); (case side2 => exact (Kd.R_reads' fc.out).2.1); rintro e w66 ⟨rfl, hb⟩; have z_ := asi3 (Kd.R_below p70z hb) (Kd.R_below p94z hb) (below_step p0z hb); clear ex fc HB; obtain ⟨ex, fc, HB⟩ := z_; (try clear hb hk)) | ((with_reducible refine gate_dst (N := 121) rfl ?_); (try (refine gate_guard (by rfl) ?_; dsimp only)); refine Kd.R_lit (Kd.int .u8) _ 5 ?hg (N := 121) ?hd (xs := ([18, (cz) % 256, 1, 2] : List Int)) (inner := [.int .u8 18, .int .u8 ((cz) % 256), .int .u8 1, .int .u8 2]) (ok := fun _ => True) (okp := fun _ => True) ?hr ?hp (fun _ hk => hk) trivial (Below.refl _ _) (Nat.le_refl _) (by simp) ?_; (case hd => rfl); (case hg => rfl); (case hr => exact p22z); (case hp => exact (Reps.one (show Kd.M (Kd.int .u8) _ _ _ 18 [.int .u8 18] from rfl) (Reps.one (show Kd.M (Kd.int .u8) _ _ _ ((cz) % 256) [.int .u8 ((cz) % 256)] from rfl) (Reps.one (show Kd.M (Kd.int .u8) _ _ _ 1 [.int .u8 1] from rfl) (Reps.one (show Kd.M (Kd.int .u8) _ _ _ 2 [.int .u8 2] from rfl) (Reps.none _ _)))))); intro v204 w67 ho68 hb hg_ hnew_; clear hg_ hnew_; (first | rw [← Ny203.out] at ho68 | (simp only [Int.reduceToNat] at ho68; rw [← Ny203.out] at ho68)); have z_ := asi4 (Kd.R_elder' p70z (Kd.R_base ho68) hb) (Kd.R_elder' p94z (Kd.R_base ho68) hb) (Kd.R_lower (Kd.R_new' (Kd.R_new' ho68 (Kd.R_lt p70z)) (Kd.R_lt p94z)) (below_size p0z)) (below_step p0z hb); clear ex fc HB; obtain ⟨ex, fc, gg, HB⟩ := z_; clear hb ho68; obtain ⟨Ao69, co69, eo69⟩ := Kd.R_slice gg.out; subst eo69) | (go_at_call 4; (with_reducible refine (kReads.calls _ _ y203 true _ ?side1 ?side2 A53.out).mono ?_); (case side1 => repeat (first | exact (Kd.R_reads' gg.out).2.2 | (with_reducible refine Kd.C_alloc ?_ _) | (with_reducible refine Kd.C_drewN ?_ _) | (with_reducible refine Kd.C_drew ?_))); (case side2 => exact (Kd.R_reads' gg.out).2.1); rintro e w70 ⟨rfl, hb⟩; have z_ := asi4 (Kd.R_below p70z hb) (Kd.R_below p94z hb) (Kd.R_below p127z hb) (below_step p0z hb); clear ex fc gg HB; obtain ⟨ex, fc, gg, HB⟩ := z_; (try clear hb hk)) | ((with_reducible refine gate_dst (N := 128) rfl ?_); (try (refine gate_guard (by rfl) ?_; dsimp only)); refine Kd.R_lit (Kd.int .u8) _ 5 ?hg (N := 128) ?hd (xs := ([(cz) % 256, 128, 128, 128, 16, 5] : List Int)) (inner := [.int .u8 ((cz) % 256), .int .u8 128, .int .u8 128, .int .u8 128, .int .u8 16, .int .u8 5]) (ok := fun _ => True) (okp := fun _ => True) ?hr ?hp (fun _ hk => hk) trivial (Below.refl _ _) (Nat.le_refl _) (by simp) ?_; (case hd => rfl); (case hg => rfl); (case hr => exact p22z); (case hp => exact (Reps.one (show Kd.M (Kd.int .u8) _ _ _ ((cz) % 256) [.int .u8 ((cz) % 256)] from rfl) (Reps.one (show Kd.M (Kd.int .u8) _ _ _ 128 [.int .u8 128] from rfl) (Reps.one (show Kd.M (Kd.int .u8) _ _ _ 128 [.int .u8 128] from rfl) (Reps.one (show Kd.M (Kd.int .u8) _ _ _ 128 [.int .u8 128] from rfl) (Reps.one (show Kd.M (Kd.int .u8) _ _ _ 16 [.int .u8 16] from rfl) (Reps.one (show Kd.M (Kd.int .u8) _ _ _ 5 [.int .u8 5] from rfl) (Reps.none _ _)))))))); intro v208 w71 ho72 hb hg_ hnew_; clear hg_ hnew_; (first | rw [← Ny207.out] at ho72 | (simp only [Int.reduceToNat] at ho72; rw [← Ny207.out] at ho72)); have z_ := asi5 (Kd.R_elder' p70z (Kd.R_base ho72) hb) (Kd.R_elder' p94z (Kd.R_base ho72) hb) (Kd.R_elder' p127z (Kd.R_base ho72) hb) (Kd.R_lower (Kd.R_new' (Kd.R_new' (Kd.R_new' ho72 (Kd.R_lt p70z)) (Kd.R_lt p94z)) (Kd.R_lt p127z)) (below_size p0z)) (below_step p0z hb); clear ex fc gg HB; obtain ⟨ex, fc, gg, gF, HB⟩ := z_; clear hb ho72; obtain ⟨Ao73, co73, eo73⟩ := Kd.R_slice gF.out; subst eo73) | (go_at_call 4; (with_reducible refine (kReads.calls _ _ y207 true _ ?side1 ?side2 A55.out).mono ?_); (case side1 => repeat (first | exact (Kd.R_reads' gF.out).2.2 | (with_reducible refine Kd.C_alloc ?_ _) | (with_reducible refine Kd.C_drewN ?_ _) | (with_reducible refine Kd.C_drew ?_))); (case side2 => exact (Kd.R_reads' gF.out).2.1); rintro e w74 ⟨rfl, hb⟩; have z_ := asi5 (Kd.R_below p70z hb) (Kd.R_below p94z hb) (Kd.R_below p127z hb) (Kd.R_below p195z hb) (below_step p0z hb); clear ex fc gg gF HB; obtain ⟨ex, fc, gg, gF, HB⟩ := z_; (try clear hb hk)) | ((with_reducible refine gate_dst (N := 135) rfl ?_); (try (refine gate_guard (by rfl) ?_; dsimp only)); refine Kd.R_lit (Kd.int .u8) _ 5 ?hg (N := 135) ?hd (xs := ([8, 255, 255, 255, 255, 255, 255, 255, 255, 255, (cz) % 256] : List Int)) (inner := [.int .u8 8, .int .u8 255, .int .u8 255, .int .u8 255, .int .u8 255, .int .u8 255, .int .u8 255, .int .u8 255, .int .u8 255, .int .u8 255, .int .u8 ((cz) % 256)]) (ok := fun _ => True) (okp := fun _ => True) ?hr ?hp (fun _ hk => hk) trivial (Below.refl _ _) (Nat.le_refl _) (by simp) ?_; (case hd => rfl); (case hg => rfl); (case hr => exact p22z); (case hp => exact (Reps.one (show Kd.M (Kd.int .u8) _ _ _ 8 [.int .u8 8] from rfl) (Reps.one (show Kd.M (Kd.int .u8) _ _ _ 255 [.int .u8 255] from rfl) (Reps.one (show Kd.M (Kd.int .u8) _ _ _ 255 [.int .u8 255] from rfl) (Reps.one (show Kd.M (Kd.int .u8) _ _ _ 255 [.int .u8 255] from rfl) (Reps.one (show Kd.M (Kd.int .u8) _ _ _ 255 [.int .u8 255] from rfl) (Reps.one (show Kd.M (Kd.int .u8) _ _ _ 255 [.int .u8 255] from rfl) (Reps.one (show Kd.M (Kd.int .u8) _ _ _ 255 [.int .u8 255] from rfl) (Reps.one (show Kd.M (Kd.int .u8) _ _ _ 255 [.int .u8 255] from rfl) (Reps.one (show Kd.M (Kd.int .u8) _ _ _ 255 [.int .u8 255] from rfl) (Reps.one (show Kd.M (Kd.int .u8) _ _ _ 255 [.int .u8 255] from rfl) (Reps.one (show Kd.M (Kd.int .u8) _ _ _ ((cz) % 256) [.int .u8 ((cz) % 256)] from rfl) (Reps.none _ _))))))))))))); intro v212 w75 ho76 hb hg_ hnew_; clear hg_ hnew_; (first | rw [← Ny211.out] at ho76 | (simp only [Int.reduceToNat] at ho76; rw [← Ny211.out] at ho76)); have z_ := asi6 (Kd.R_elder' p70z (Kd.R_base ho76) hb) (Kd.R_elder' p94z (Kd.R_base ho76) hb) (Kd.R_elder' p127z (Kd.R_base ho76) hb) (Kd.R_elder' p195z (Kd.R_base ho76) hb) (Kd.R_lower (Kd.R_new' (Kd.R_new' (Kd.R_new' (Kd.R_new' ho76 (Kd.R_lt p70z)) (Kd.R_lt p94z)) (Kd.R_lt p127z)) (Kd.R_lt p195z)) (below_size p0z)) (below_step p0z hb); clear ex fc gg gF HB; obtain ⟨ex, fc, gg, gF, jR, HB⟩ := z_; clear hb ho76; obtain ⟨Ao77, co77, eo77⟩ := Kd.R_slice jR.out; subst eo77) | (go_at_call 4; (with_reducible refine (kReads.calls _ _ y211 true _ ?side1 ?side2 A57.out).mono ?_); (case side1 => repeat (first | exact (Kd.R_reads' jR.out).2.2 | (with_reducible refine Kd.C_alloc ?_ _) | (with_reducible refine Kd.C_drewN ?_ _) | (with_reducible refine Kd.C_drew ?_))); (case side2 => exact (Kd.R_reads' jR.out).2.1); rintro e w78 ⟨rfl, hb⟩; have z_ := asi6 (Kd.R_below p70z hb) (Kd.R_below p94z hb) (Kd.R_below p127z hb) (Kd.R_below p195z hb) (Kd.R_below (q0z jR.out) hb) (below_step p0z hb); clear ex fc gg gF jR HB; obtain ⟨ex, fc, gg, gF, jR, HB⟩ := z_; (try clear hb hk)))
      go_roundg k2
      case measure => have := HK1.out; have := HK2.out; omega
      case rel => exact ⟨(wrap64 (cz + 1)), p21z, H', ⟨by have := HK1.out; have := HK2.out; omega⟩, ⟨p0z⟩⟩
   rw [if_pos c7] at H
   have fs : decide (aw < (y167.length : Int)) = true := decide_eq_true c7
   clear c7
   have H' := Aside0.mk H
   clear H
   obtain ⟨Ao8, co8, eo8⟩ := Kd.R_slice eP.out
   subst eo8
   go_wp2
   go_loopg [5] k1 (fun kq v5 w' => ∃ (ek : Int), v5 = .int .i64 ek ∧ Aside0 (a6.l1 kq y167 y170 y173 aw ek = some r) ∧ Aside0 (kq ≤ k1) ∧ Aside0 (Kd.R (Kd.int .u64) 23 w' w.heap.size (fun _ => True) (.slice Ao8 y167.length co8) y167) ∧ Aside0 (Kd.R (Kd.int .i64) 2 w' w.heap.size (fun _ => True) v171 y170) ∧ Aside0 (Kd.R (Kd.int .i64) 3 w' w.heap.size (fun _ => True) v174 y173) ∧ Aside0 (Below w.heap.size w w'))
   case atStart => exact ⟨(0), p21z, H', ⟨Nat.le_refl _⟩, ⟨p71z⟩, ⟨p72z⟩, ⟨p56z⟩, ⟨p0z⟩⟩
   case round =>
    clear H'
    try clear fs
    obtain ⟨ek, rfl, HA, HK2, eP, bK, cv, HB⟩ := hrel
    cases gk with
    | zero => exact absurd HA.out (by simp [a6.l1])
    | succ k2 =>
     have H := HA.out
     clear HA
     simp only [a6.l1] at H
     by_cases c9 : ek < (y170.length : Int)
     case pos =>
      rw [if_pos c9] at H
      have mi : decide (ek < (y170.length : Int)) = true := decide_eq_true c9
      clear c9
      obtain ⟨y176, hy176⟩ : ∃ y_ : List Int, y_ = (([9] : List Int)) := ⟨_, rfl⟩
      replace H : (if 0 ≤ aw then (if aw < (y167.length : Int) then (if 0 ≤ ek then ((kNumbers.f y176 (rd y167 aw) (rd y170 ek)).bind fun lM => (if lM = true then (if (y170.length : Int) = 0 then (none) else (if 0 ≤ (Int.tmod aw (y170.length : Int)) then (if (Int.tmod aw (y170.length : Int)) < (y170.length : Int) then ((kZigs.f (rd y170 ek) (rd y170 (Int.tmod aw (y170.length : Int))) (rd y167 aw)).bind fun iT => (if iT = true then (a6.l1 k2 y167 y170 y173 aw (wrap64 (ek + 1))) else (none))) else (none)) else (none))) else (none))) else (none)) else (none)) else (none)) = some r := by first | (rw [hy176]; with_reducible exact H) | (have H2_ := (Option.bind_some _ _).symm.trans H; rw [hy176]; with_reducible exact H2_) | (have H2_ := (Option.bind_some _ _).symm.trans H; with_reducible exact H2_) | with_reducible exact H | (rw [hy176]; exact H) | exact H
      have Ny176 := Aside0.mk hy176
      clear hy176
      by_cases c10 : 0 ≤ aw
      case neg =>
       rw [if_neg c10] at H
       exact absurd H (by simp)
      rw [if_pos c10] at H
      have mj : decide (0 ≤ aw) = true := decide_eq_true c10
      clear c10
      by_cases c11 : aw < (y167.length : Int)
      case neg =>
       rw [if_neg c11] at H
       exact absurd H (by simp)
      rw [if_pos c11] at H
      have iJ : decide (aw < (y167.length : Int)) = true := decide_eq_true c11
      clear c11
      by_cases c12 : 0 ≤ ek
      case neg =>
       rw [if_neg c12] at H
       exact absurd H (by simp)
      rw [if_pos c12] at H
      have c12b0 : decide (0 ≤ ek) = true := decide_eq_true c12
      clear c12
      replace H := Option.bind_eq_some_iff.mp H
      obtain ⟨lM, A130, H⟩ := H
      replace H : (if lM = true then (if (y170.length : Int) = 0 then (none) else (if 0 ≤ (Int.tmod aw (y170.length : Int)) then (if (Int.tmod aw (y170.length : Int)) < (y170.length : Int) then ((kZigs.f (rd y170 ek) (rd y170 (Int.tmod aw (y170.length : Int))) (rd y167 aw)).bind fun iT => (if iT = true then (a6.l1 k2 y167 y170 y173 aw (wrap64 (ek + 1))) else (none))) else (none)) else (none))) else (none)) = some r := H
      have A13 := Aside0.mk A130
      clear A130
      by_cases c14 : lM = true
      case neg =>
       replace c14 := Bool.eq_false_iff.mpr c14
       subst c14
       have H1 : (none) = some r := p42z
       clear H
       have H := H1
       clear H1
       exact absurd H (by simp)
      subst c14
      have H1 : (if (y170.length : Int) = 0 then (none) else (if 0 ≤ (Int.tmod aw (y170.length : Int)) then (if (Int.tmod aw (y170.length : Int)) < (y170.length : Int) then ((kZigs.f (rd y170 ek) (rd y170 (Int.tmod aw (y170.length : Int))) (rd y167 aw)).bind fun iT => (if iT = true then (a6.l1 k2 y167 y170 y173 aw (wrap64 (ek + 1))) else (none))) else (none)) else (none))) = some r := p99z
      clear H
      have H := H1
      clear H1
      by_cases c15 : (y170.length : Int) = 0
      case pos =>
       rw [if_pos c15] at H
       exact absurd H (by simp)
      rw [if_neg c15] at H
      have c15b0 : ((y170.length : Int) == 0) = false := beq_eq_false_iff_ne.mpr c15
      have c15b1 : ((y170.length : Int) != 0) = true := bne_iff_ne.mpr c15
      have c15b2 : ¬ (y170 = []) := fun h_ => c15 (by rw [h_]; rfl)
      obtain ⟨ji16, hji16⟩ : ∃ j_ : Int, (Int.tmod aw (y170.length : Int)) = j_ := ⟨_, rfl⟩
      replace H : (if 0 ≤ (ji16) then (if (ji16) < (y170.length : Int) then ((kZigs.f (rd y170 ek) (rd y170 (ji16)) (rd y167 aw)).bind fun iT => (if iT = true then (a6.l1 k2 y167 y170 y173 aw (wrap64 (ek + 1))) else (none))) else (none)) else (none)) = some r := by first | (rw [hji16] at H; exact H) | (simp only [hji16] at H ⊢; exact H)
      (try rw [hji16] at A13)
      by_cases c17 : 0 ≤ (ji16)
      case neg =>
       rw [if_neg c17] at H
       exact absurd H (by simp)
      rw [if_pos c17] at H
      have ml : decide (0 ≤ (ji16)) = true := decide_eq_true c17
      clear c17
      by_cases c18 : (ji16) < (y170.length : Int)
      case neg =>
       rw [if_neg c18] at H
       exact absurd H (by simp)
      rw [if_pos c18] at H
      have mm : decide ((ji16) < (y170.length : Int)) = true := decide_eq_true c18
      clear c18
      replace H := Option.bind_eq_some_iff.mp H
      obtain ⟨iT, A190, H⟩ := H
      replace H : (if iT = true then (a6.l1 k2 y167 y170 y173 aw (wrap64 (ek + 1))) else (none)) = some r := H
      have A19 := Aside0.mk A190
      clear A190
      by_cases c20 : iT = true
      case neg =>
       replace c20 := Bool.eq_false_iff.mpr c20
       subst c20
       have H1 : (none) = some r := p42z
       clear H
       have H := H1
       clear H1
       exact absurd H (by simp)
      subst c20
      have H1 : (a6.l1 k2 y167 y170 y173 aw (wrap64 (ek + 1))) = some r := p99z
      clear H
      have H := H1
      clear H1
      have H' := Aside0.mk H
      clear H
      obtain ⟨Ao21, co21, eo21⟩ := Kd.R_slice bK.out
      subst eo21
      try go_wp2
      have n0_ := Aside0.mk (Kd.R_drew eP.out)
      have n1_ := Aside0.mk (Kd.R_drew bK.out)
      have n2_ := Aside0.mk (Kd.R_drew cv.out)
      have n3_ := Aside0.mk (below_drew1 HB.out)
      clear eP
      clear bK
      clear cv
      clear HB
      have eP := n0_
      have bK := n1_
      have cv := n2_
      have HB := n3_
      clear n0_ n1_ n2_ n3_
      have p179 : 0 ≤ (aw : Int) := of_decide_eq_true p10z
      have q179 : aw < (y167.length : Int) := of_decide_eq_true p10z
      obtain ⟨ad179, e179, hx179_0⟩ := Kd.at_int (Kd.R_reads' eP.out).2.2 aw p179 q179
      cases e179
      replace p179 := eq_true p179
      replace q179 := eq_true q179
      have p180 : 0 ≤ (ek : Int) := of_decide_eq_true p10z
      have q180 : ek < (y170.length : Int) := of_decide_eq_true p10z
      obtain ⟨ad180, e180, hx180_0⟩ := Kd.at_int (Kd.R_reads' bK.out).2.2 ek p180 q180
      cases e180
      replace p180 := eq_true p180
      replace q180 := eq_true q180
      have p182 : 0 ≤ (ek : Int) := of_decide_eq_true p10z
      have q182 : ek < (y170.length : Int) := of_decide_eq_true p10z
      obtain ⟨ad182, e182, hx182_0⟩ := Kd.at_int (Kd.R_reads' bK.out).2.2 ek p182 q182
      obtain rfl : ad180 = ad182 := (by injection e182)
      replace p182 := eq_true p182
      replace q182 := eq_true q182
      have p183 : 0 ≤ ((ji16) : Int) := of_decide_eq_true p10z
      have q183 : (ji16) < (y170.length : Int) := of_decide_eq_true p10z
      obtain ⟨ad183, e183, hx183_0⟩ := Kd.at_int (Kd.R_reads' bK.out).2.2 (ji16) p183 q183
      obtain rfl : ad180 = ad183 := (by injection e183)
      replace p183 := eq_true p183
      replace q183 := eq_true q183
      have p184 : 0 ≤ (aw : Int) := of_decide_eq_true p10z
      have q184 : aw < (y167.length : Int) := of_decide_eq_true p10z
      obtain ⟨ad184, e184, hx184_0⟩ := Kd.at_int (Kd.R_reads' eP.out).2.2 aw p184 q184
      obtain rfl : ad179 = ad184 := (by injection e184)
      replace p184 := eq_true p184
      replace q184 := eq_true q184
      refine start_ (n := 30) (S := fun w' => w'.cell? (ad179.add (aw).toNat) = some (.int .u64 (rd y167 aw)) ∧ w'.cell? (ad180.add (ek).toNat) = some (.int .i64 (rd y170 ek)) ∧ w'.cell? (ad180.add (ek).toNat) = some (.int .i64 (rd y170 ek)) ∧ w'.cell? (ad180.add ((ji16)).toNat) = some (.int .i64 (rd y170 (ji16))) ∧ w'.cell? (ad179.add (aw).toNat) = some (.int .u64 (rd y167 aw))) (ds := []) (tf 0 30) p16z rfl rfl ⟨hx179_0, hx180_0, hx182_0, hx183_0, hx184_0⟩ (fun hHeld => ?_); refine with_tabW a6.tab10 a6.bits10 (fun HT_ HW_ => ?_)
      generalize wr.drew = w22 at eP bK cv HB hx179_0 hx180_0 hx182_0 hx183_0 hx184_0 hHeld ⊢
      refine pure_ (i := 1) (N := some 37) (v := ?_) (a' := ?_) (tfs true [0, 1, 1, 28]) rfl rfl (any_of HT_.out p16z) (fun _ _ _ h => h) (Or.inl ⟨by rfl, ?_⟩) ?_ ?_
      rotate_left
      ·intro w'
       go_simp
       with_reducible rfl
      rotate_left
      ·exact p1z
      refine pure_ (i := 2) (N := some 38) (v := ?_) (a' := ?_) (tfs true [0, 1, 2, 27]) rfl rfl (any_of HT_.out p16z) (fun _ _ _ h => h) (Or.inl ⟨by rfl, ?_⟩) ?_ ?_
      rotate_left
      ·intro w'
       go_simp
       with_reducible rfl
      rotate_left
      ·exact p1z
      refine pure_ (i := 3) (N := some 39) (v := ?_) (a' := ?_) (tfs true [0, 1, 3, 26]) rfl rfl (any_of HT_.out p16z) (fun _ _ _ h => h) (Or.inl ⟨by rfl, ?_⟩) ?_ ?_
      rotate_left
      ·intro w'
       go_simp
       with_reducible rfl
      rotate_left
      ·exact p1z
      refine pure_ (i := 5) (N := some 41) (v := ?_) (a' := ?_) (tfs true [0, 1, 3, 1, 1, 24]) rfl rfl (any_of HT_.out p16z) (fun _ _ _ h => h) (Or.inl ⟨by rfl, ?_⟩) ?_ ?_
      rotate_left
      ·intro w'
       go_simp
       with_reducible rfl
      rotate_left
      ·exact p1z
      refine pure_ (i := 6) (N := some 42) (v := ?_) (a' := ?_) (tfs true [0, 1, 3, 1, 2, 23]) rfl rfl (any_of HT_.out p16z) (fun _ _ _ h => h) (Or.inl ⟨by rfl, ?_⟩) ?_ ?_
      rotate_left
      ·intro w'
       go_simp
       with_reducible rfl
      rotate_left
      ·exact p1z
      refine pure_ (i := 7) (N := some 43) (v := ?_) (a' := ?_) (tfs true [0, 1, 3, 1, 3, 22]) rfl rfl (any_of HT_.out p16z) (fun _ _ _ h => h) (Or.inl ⟨by rfl, ?_⟩) ?_ ?_
      rotate_left
      ·intro w'
       go_simp
       with_reducible rfl
      rotate_left
      ·exact p1z
      refine take_ (i := 4) (N := some 40) (v := ?_) (a' := ?_) (tfs true [0, 1, 7, 22]) rfl rfl (take_ofW HT_.out HW_.out p16z) (fun _ _ _ h => h) (Or.inl ⟨by rfl, ?_⟩) hHeld ?_ ?_
      rotate_left
      ·rintro w' ⟨s0, s1, s2, s3, s4⟩
       go_simp
       with_reducible rfl
      rotate_left
      ·exact p1z
      refine take_ (i := 8) (N := some 44) (v := ?_) (a' := ?_) (tfs true [0, 1, 8, 21]) rfl rfl (take_ofW HT_.out HW_.out p16z) (fun _ _ _ h => h) (Or.inl ⟨by rfl, ?_⟩) hHeld ?_ ?_
      rotate_left
      ·rintro w' ⟨s0, s1, s2, s3, s4⟩
       go_simp
       with_reducible rfl
      rotate_left
      ·exact p1z
      refine one_ (i := 0) (N := some 36) (tf 9 21) rfl rfl (one_of HT_.out p16z) (by decide) (fun K hK => ?_)
      refine Kd.R_lit_step (Kd.int .u8) _ 5 ?hg (N := 36) ?hd (xs := ([9] : List Int)) (inner := [.int .u8 9]) (ok := fun _ => True) (okp := fun _ => True) ?hr ?hp (fun _ hk => hk) trivial (Below.refl _ _) (Nat.le_refl _) (by simp) ?_; (case hd => rfl); (case hg => rfl); (case hr => exact p22z); (case hp => exact (Reps.one (show Kd.M (Kd.int .u8) _ _ _ 9 [.int .u8 9] from rfl) (Reps.none _ _)))
      intro v177 w23 ho24 hb hg_ hnew_
      have HS0_ := (hb.cell (World.block_lt_of_cell? _ _ (hHeld.1))).trans (hHeld.1)
      have HS1_ := (hb.cell (World.block_lt_of_cell? _ _ (hHeld.2.1))).trans (hHeld.2.1)
      have HS2_ := (hb.cell (World.block_lt_of_cell? _ _ (hHeld.2.2.1))).trans (hHeld.2.2.1)
      have HS3_ := (hb.cell (World.block_lt_of_cell? _ _ (hHeld.2.2.2.1))).trans (hHeld.2.2.2.1)
      have HS4_ := (hb.cell (World.block_lt_of_cell? _ _ (hHeld.2.2.2.2))).trans (hHeld.2.2.2.2)
      clear hg_ hnew_
      (first | rw [← Ny176.out] at ho24 | (simp only [Int.reduceToNat] at ho24; rw [← Ny176.out] at ho24))
      have n0_ := Aside0.mk (Kd.R_below p71z hb)
      have n1_ := Aside0.mk (Kd.R_below p72z hb)
      have n2_ := Aside0.mk (Kd.R_below p56z hb)
      have n3_ := Aside0.mk (Kd.R_lower ho24 (below_size p0z))
      have n4_ := Aside0.mk (below_step p0z hb)
      clear eP
      clear bK
      clear cv
      clear HB
      have eP := n0_
      have bK := n1_
      have cv := n2_
      have iy := n3_
      have HB := n4_
      clear n0_ n1_ n2_ n3_ n4_
      clear hb ho24
      obtain ⟨lD, co25, eo25⟩ := Kd.R_slice iy.out
      (first | subst eo25 | (injection eo25 with f1_ f2_ f3_; have f4_ := f1_.symm; have f5_ := f3_.symm; clear f1_ f2_ f3_; subst f4_; subst f5_))
      refine hK.out _ _ ⟨HS0_, HS1_, HS2_, HS3_, HS4_⟩ (fun hHeld => ?_)
      clear hK K
      refine norm_ (a' := ?_) ?_ ?_
      rotate_left
      ·show Act.put _ (some 36) _ = _
       simp only [Act.put, List.setIfInBounds_toArray, List.set_cons_zero, List.set_cons_succ, i64_w, i32_w]
       rfl
      refine one_ (i := 9) (N := some 45) (tf 10 20) rfl rfl (one_of HT_.out p16z) (by decide) (fun K hK => ?_)
      refine goes_ Try.func3 p16z rfl #[.slice lD y176.length co25, .int .u64 (rd y167 aw), .int .i64 (rd y170 ek)] (by rfl) rfl rfl p2z ?_
      with_reducible refine (kNumbers.calls _ _ y176 (rd y167 aw) (rd y170 ek) true _ ?side1 ?side2 A13.out).mono ?_
      (case side1 => repeat (first | exact (Kd.R_reads' iy.out).2.2 | (with_reducible refine Kd.C_alloc ?_ _) | (with_reducible refine Kd.C_drewN ?_ _) | (with_reducible refine Kd.C_drew ?_)))
      (case side2 => exact (Kd.R_reads' iy.out).2.1)
      rintro e w26 ⟨rfl, hb⟩
      have HS0_ := (hb.cell (World.block_lt_of_cell? _ _ (hHeld.1))).trans (hHeld.1)
      have HS1_ := (hb.cell (World.block_lt_of_cell? _ _ (hHeld.2.1))).trans (hHeld.2.1)
      have HS2_ := (hb.cell (World.block_lt_of_cell? _ _ (hHeld.2.2.1))).trans (hHeld.2.2.1)
      have HS3_ := (hb.cell (World.block_lt_of_cell? _ _ (hHeld.2.2.2.1))).trans (hHeld.2.2.2.1)
      have HS4_ := (hb.cell (World.block_lt_of_cell? _ _ (hHeld.2.2.2.2))).trans (hHeld.2.2.2.2)
      refine ⟨_, rfl, ?_⟩
      have n0_ := Aside0.mk (Kd.R_below p71z hb)
      have n1_ := Aside0.mk (Kd.R_below p72z hb)
      have n2_ := Aside0.mk (Kd.R_below p56z hb)
      have n3_ := Aside0.mk (Kd.R_below (q0z iy.out) hb)
      have n4_ := Aside0.mk (below_step p0z hb)
      clear eP
      clear bK
      clear cv
      clear iy
      clear HB
      have eP := n0_
      have bK := n1_
      have cv := n2_
      have iy := n3_
      have HB := n4_
      clear n0_ n1_ n2_ n3_ n4_
      (try clear hb)
      (try clear hb2)
      (try clear hk)
      (try clear hi)
      refine hK.out _ _ ⟨HS0_, HS1_, HS2_, HS3_, HS4_⟩ (fun hHeld => ?_)
      clear hK K
      refine norm_ (a' := ?_) ?_ ?_
      rotate_left
      ·show Act.put _ (some 45) _ = _
       simp only [Act.put, List.setIfInBounds_toArray, List.set_cons_zero, List.set_cons_succ, i64_w, i32_w]
       rfl
      refine pure_ (i := 10) (N := some 46) (v := ?_) (a' := ?_) (tf 11 19) rfl rfl (any_of HT_.out p16z) (fun _ _ _ h => h) (Or.inl ⟨by rfl, ?_⟩) ?_ ?_
      rotate_left
      ·intro w'
       go_simp
       with_reducible rfl
      rotate_left
      ·exact p1z
      refine pure_ (i := 11) (N := some 47) (v := ?_) (a' := ?_) (tf 12 18) rfl rfl (any_of HT_.out p16z) (fun _ _ _ h => h) (Or.inl ⟨by rfl, ?_⟩) ?_ ?_
      rotate_left
      ·intro w'
       go_simp
       with_reducible rfl
      rotate_left
      ·exact p1z
      refine pure_ (i := 12) (N := some 48) (v := ?_) (a' := ?_) (tf 13 17) rfl rfl (any_of HT_.out p16z) (fun _ _ _ h => h) (Or.inl ⟨by rfl, ?_⟩) ?_ ?_
      rotate_left
      ·intro w'
       go_simp
       with_reducible rfl
      rotate_left
      ·exact p1z
      refine pure_ (i := 13) (N := some 49) (v := ?_) (a' := ?_) (tf 14 16) rfl rfl (any_of HT_.out p16z) (fun _ _ _ h => h) (Or.inl ⟨by rfl, ?_⟩) ?_ ?_
      rotate_left
      ·intro w'
       go_simp
       with_reducible rfl
      rotate_left
      ·exact p1z
      refine pure_ (i := 14) (N := some 50) (v := ?_) (a' := ?_) (tf 15 15) rfl rfl (any_of HT_.out p16z) (fun _ _ _ h => h) (Or.inl ⟨by rfl, ?_⟩) ?_ ?_
      rotate_left
      ·intro w'
       go_simp
       with_reducible rfl
      rotate_left
      ·exact p1z
      refine pure_ (i := 16) (N := some 52) (v := ?_) (a' := ?_) (tfs true [15, 1, 1, 13]) rfl rfl (any_of HT_.out p16z) (fun _ _ _ h => h) (Or.inl ⟨by rfl, ?_⟩) ?_ ?_
      rotate_left
      ·intro w'
       go_simp
       with_reducible rfl
      rotate_left
      ·exact p1z
      refine pure_ (i := 17) (N := some 53) (v := ?_) (a' := ?_) (tfs true [15, 1, 2, 12]) rfl rfl (any_of HT_.out p16z) (fun _ _ _ h => h) (Or.inl ⟨by rfl, ?_⟩) ?_ ?_
      rotate_left
      ·intro w'
       go_simp
       with_reducible rfl
      rotate_left
      ·exact p1z
      refine pure_ (i := 18) (N := some 54) (v := ?_) (a' := ?_) (tfs true [15, 1, 3, 11]) rfl rfl (any_of HT_.out p16z) (fun _ _ _ h => h) (Or.inl ⟨by rfl, ?_⟩) ?_ ?_
      rotate_left
      ·intro w'
       go_simp
       with_reducible rfl
      rotate_left
      ·exact p1z
      refine pure_ (i := 19) (N := some 55) (v := ?_) (a' := ?_) (tfs true [15, 1, 4, 10]) rfl rfl (any_of HT_.out p16z) (fun _ _ _ h => h) (Or.inl ⟨by rfl, ?_⟩) ?_ ?_
      rotate_left
      ·intro w'
       go_simp
       with_reducible rfl
      rotate_left
      ·exact p1z
      refine pure_ (i := 20) (N := some 56) (v := ?_) (a' := ?_) (tfs true [15, 1, 5, 9]) rfl rfl (any_of HT_.out p16z) (fun _ _ _ h => h) (Or.inl ⟨by rfl, ?_⟩) ?_ ?_
      rotate_left
      ·intro w'
       go_simp
       with_reducible rfl
      rotate_left
      ·exact p1z
      refine pure_ (i := 21) (N := some 57) (v := ?_) (a' := ?_) (tfs true [15, 1, 6, 8]) rfl rfl (any_of HT_.out p16z) (fun _ _ _ h => h) (Or.inl ⟨by rfl, ?_⟩) ?_ ?_
      rotate_left
      ·intro w'
       go_simp
       with_reducible rfl
      rotate_left
      ·exact p1z
      refine pure_ (i := 23) (N := some 59) (v := ?_) (a' := ?_) (tfs true [15, 1, 6, 1, 1, 6]) rfl rfl (any_of HT_.out p16z) (fun _ _ _ h => h) (Or.inl ⟨by rfl, ?_⟩) ?_ ?_
      rotate_left
      ·intro w'
       go_simp
       with_reducible rfl
      rotate_left
      ·exact p1z
      refine pure_ (i := 24) (N := some 60) (v := ?_) (a' := ?_) (tfs true [15, 1, 6, 1, 2, 5]) rfl rfl (any_of HT_.out p16z) (fun _ _ _ h => h) (Or.inl ⟨by rfl, ?_⟩) ?_ ?_
      rotate_left
      ·intro w'
       go_simp
       with_reducible rfl
      rotate_left
      ·exact p1z
      refine pure_ (i := 25) (N := some 61) (v := ?_) (a' := ?_) (tfs true [15, 1, 6, 1, 3, 4]) rfl rfl (any_of HT_.out p16z) (fun _ _ _ h => h) (Or.inl ⟨by rfl, ?_⟩) ?_ ?_
      rotate_left
      ·intro w'
       go_simp
       with_reducible rfl
      rotate_left
      ·exact p1z
      refine take_ (i := 15) (N := some 51) (v := ?_) (a' := ?_) (tfs true [22, 1, 3, 4]) rfl rfl (take_ofW HT_.out HW_.out p16z) (fun _ _ _ h => h) (Or.inl ⟨by rfl, ?_⟩) hHeld ?_ ?_
      rotate_left
      ·rintro w' ⟨s0, s1, s2, s3, s4⟩
       go_simp
       with_reducible rfl
      rotate_left
      ·exact p1z
      refine take_ (i := 22) (N := some 58) (v := ?_) (a' := ?_) (tf 26 4) rfl rfl (take_ofW HT_.out HW_.out p16z) (fun _ _ _ h => h) (Or.inl ⟨by rfl, ?_⟩) hHeld ?_ ?_
      rotate_left
      ·rintro w' ⟨s0, s1, s2, s3, s4⟩
       go_simp
       with_reducible rfl
      rotate_left
      ·exact p1z
      refine take_ (i := 26) (N := some 62) (v := ?_) (a' := ?_) (tf 27 3) rfl rfl (take_ofW HT_.out HW_.out p16z) (fun _ _ _ h => h) (Or.inl ⟨by rfl, ?_⟩) hHeld ?_ ?_
      rotate_left
      ·rintro w' ⟨s0, s1, s2, s3, s4⟩
       go_simp
       with_reducible rfl
      rotate_left
      ·exact p1z
      refine one_ (i := 27) (N := some 63) (tf 28 2) rfl rfl (one_of HT_.out p16z) (by decide) (fun K hK => ?_)
      refine goes_ Try.func5 p16z rfl #[.int .i64 (rd y170 ek), .int .i64 (rd y170 (ji16)), .int .u64 (rd y167 aw)] (by rfl) rfl rfl (by (try simp only [List.map_toArray, List.map_cons, List.map_nil]); first | done | (simp only [hji16]; rfl) | rfl | (simp only [List.length_drop, List.length_take]; rfl)) ?_
      with_reducible refine (kZigs.calls (rd y170 ek) (rd y170 (ji16)) (rd y167 aw) true _ A19.out).mono ?_
      rintro e w27 ⟨rfl, hb⟩
      have HS0_ := (hb.cell (World.block_lt_of_cell? _ _ (hHeld.1))).trans (hHeld.1)
      have HS1_ := (hb.cell (World.block_lt_of_cell? _ _ (hHeld.2.1))).trans (hHeld.2.1)
      have HS2_ := (hb.cell (World.block_lt_of_cell? _ _ (hHeld.2.2.1))).trans (hHeld.2.2.1)
      have HS3_ := (hb.cell (World.block_lt_of_cell? _ _ (hHeld.2.2.2.1))).trans (hHeld.2.2.2.1)
      have HS4_ := (hb.cell (World.block_lt_of_cell? _ _ (hHeld.2.2.2.2))).trans (hHeld.2.2.2.2)
      refine ⟨_, rfl, ?_⟩
      have n0_ := Aside0.mk (Kd.R_below p71z hb)
      have n1_ := Aside0.mk (Kd.R_below p72z hb)
      have n2_ := Aside0.mk (Kd.R_below p56z hb)
      have n3_ := Aside0.mk (Kd.R_below (q0z iy.out) hb)
      have n4_ := Aside0.mk (below_step p0z hb)
      clear eP
      clear bK
      clear cv
      clear iy
      clear HB
      have eP := n0_
      have bK := n1_
      have cv := n2_
      have iy := n3_
      have HB := n4_
      clear n0_ n1_ n2_ n3_ n4_
      (try clear hb)
      (try clear hb2)
      (try clear hk)
      (try clear hi)
      refine hK.out _ _ ⟨HS0_, HS1_, HS2_, HS3_, HS4_⟩ (fun hHeld => ?_)
      clear hK K
      refine norm_ (a' := ?_) ?_ ?_
      rotate_left
      ·show Act.put _ (some 63) _ = _
       simp only [Act.put, List.setIfInBounds_toArray, List.set_cons_zero, List.set_cons_succ, i64_w, i32_w]
       rfl
      refine pure_ (i := 28) (N := some 64) (v := ?_) (a' := ?_) (tf 29 1) rfl rfl (any_of HT_.out p16z) (fun _ _ _ h => h) (Or.inl ⟨by rfl, ?_⟩) ?_ ?_
      rotate_left
      ·intro w'
       go_simp
       with_reducible rfl
      rotate_left
      ·exact p1z
      refine pure_ (i := 29) (N := some 65) (v := ?_) (a' := ?_) (tf 30 0) rfl rfl (any_of HT_.out p16z) (fun _ _ _ h => h) (Or.inl ⟨by rfl, ?_⟩) ?_ ?_
      rotate_left
      ·intro w'
       go_simp
       with_reducible rfl
      rotate_left
      ·exact p1z
      refine done_ (done_of HT_.out p16z) ?_
      try go_wp2
      go_roundg k2
      case measure => have := HK1.out; have := HK2.out; omega
      case rel => exact ⟨(wrap64 (ek + 1)), p21z, H', ⟨by have := HK1.out; have := HK2.out; omega⟩, ⟨p71z⟩, ⟨p72z⟩, ⟨p56z⟩, ⟨p0z⟩⟩
     rw [if_neg c9] at H
     have mi : decide (ek < (y170.length : Int)) = false := decide_eq_false c9
     clear c9
     have H' := Aside0.mk H
     clear H
     obtain ⟨d8, co28, eo28⟩ := Kd.R_slice bK.out
     subst eo28
     go_wp2
     go_loopg [6] k2 (fun kq v6 w' => ∃ (el : Int), v6 = .int .i64 el ∧ Aside0 (a6.l2 kq y167 y170 y173 aw el = some r) ∧ Aside0 (kq ≤ k2) ∧ Aside0 (Kd.R (Kd.int .u64) 23 w' w.heap.size (fun _ => True) (.slice Ao8 y167.length co8) y167) ∧ Aside0 (Kd.R (Kd.int .i64) 2 w' w.heap.size (fun _ => True) (.slice d8 y170.length co28) y170) ∧ Aside0 (Kd.R (Kd.int .i64) 3 w' w.heap.size (fun _ => True) v174 y173) ∧ Aside0 (Below w.heap.size w w'))
     case atStart => exact ⟨(0), p21z, H', ⟨Nat.le_refl _⟩, ⟨p71z⟩, ⟨p72z⟩, ⟨p56z⟩, ⟨p0z⟩⟩
     case round =>
      clear H'
      try clear mi
      obtain ⟨el, rfl, HA, HK3, eP, bK, cv, HB⟩ := hrel
      cases gk with
      | zero => exact absurd HA.out (by simp [a6.l2])
      | succ k3 =>
       have H := HA.out
       clear HA
       simp only [a6.l2] at H
       by_cases c29 : el < (y173.length : Int)
       case neg =>
        rw [if_neg c29] at H
        have gS : decide (el < (y173.length : Int)) = false := decide_eq_false c29
        clear c29
        have H' := Aside0.mk H
        clear H
        obtain ⟨Ao46, co46, eo46⟩ := Kd.R_slice cv.out
        subst eo46
        go_wp2
        go_roundg k3
        case measure => have := HK1.out; have := HK2.out; have := HK3.out; omega
        case rel => exact ⟨(wrap64 (aw + 1)), p21z, H', ⟨by have := HK1.out; have := HK2.out; have := HK3.out; omega⟩, ⟨p71z⟩, ⟨p72z⟩, ⟨p56z⟩, ⟨p0z⟩⟩
       rw [if_pos c29] at H
       have gS : decide (el < (y173.length : Int)) = true := decide_eq_true c29
       clear c29
       have H' := Aside0.mk H
       clear H
       obtain ⟨mb, co30, eo30⟩ := Kd.R_slice cv.out
       subst eo30
       go_wp2
       go_loopg [7] k3 (fun kq v7 w' => ∃ (ii : Int), v7 = .int .i64 ii ∧ Aside0 (a6.l3 kq y167 y170 y173 aw el ii = some r) ∧ Aside0 (kq ≤ k3) ∧ Aside0 (Kd.R (Kd.int .u64) 23 w' w.heap.size (fun _ => True) (.slice Ao8 y167.length co8) y167) ∧ Aside0 (Kd.R (Kd.int .i64) 2 w' w.heap.size (fun _ => True) (.slice d8 y170.length co28) y170) ∧ Aside0 (Kd.R (Kd.int .i64) 3 w' w.heap.size (fun _ => True) (.slice mb y173.length co30) y173) ∧ Aside0 (Below w.heap.size w w'))
       case atStart => exact ⟨((-1)), p21z, H', ⟨Nat.le_refl _⟩, ⟨p71z⟩, ⟨p72z⟩, ⟨p56z⟩, ⟨p0z⟩⟩
       case round =>
        clear H'
        try clear gS
        obtain ⟨ii, rfl, HA, HK4, eP, bK, cv, HB⟩ := hrel
        cases gk with
        | zero => exact absurd HA.out (by simp [a6.l3])
        | succ k4 =>
         have H := HA.out
         clear HA
         simp only [a6.l3] at H
         by_cases c31 : ii < 9
         case neg =>
          rw [if_neg c31] at H
          have kC : decide (ii < 9) = false := decide_eq_false c31
          clear c31
          have H' := Aside0.mk H
          clear H
          go_wp2
          go_roundg k4
          case measure => have := HK1.out; have := HK2.out; have := HK3.out; have := HK4.out; omega
          case rel => exact ⟨(wrap64 (el + 1)), p21z, H', ⟨by have := HK1.out; have := HK2.out; have := HK3.out; have := HK4.out; omega⟩, ⟨p71z⟩, ⟨p72z⟩, ⟨p56z⟩, ⟨p0z⟩⟩
         rw [if_pos c31] at H
         have kC : decide (ii < 9) = true := decide_eq_true c31
         clear c31
         by_cases c32 : 0 ≤ el
         case neg =>
          rw [if_neg c32] at H
          exact absurd H (by simp)
         rw [if_pos c32] at H
         have la : decide (0 ≤ el) = true := decide_eq_true c32
         clear c32
         by_cases c33 : el < (y173.length : Int)
         case neg =>
          rw [if_neg c33] at H
          exact absurd H (by simp)
         rw [if_pos c33] at H
         have mc : decide (el < (y173.length : Int)) = true := decide_eq_true c33
         clear c33
         by_cases c34 : 0 ≤ aw
         case neg =>
          rw [if_neg c34] at H
          exact absurd H (by simp)
         rw [if_pos c34] at H
         have lg : decide (0 ≤ aw) = true := decide_eq_true c34
         clear c34
         by_cases c35 : aw < (y167.length : Int)
         case neg =>
          rw [if_neg c35] at H
          exact absurd H (by simp)
         rw [if_pos c35] at H
         have c35b0 : decide (aw < (y167.length : Int)) = true := decide_eq_true c35
         clear c35
         obtain ⟨y188, hy188⟩ : ∃ y_ : List Int, y_ = (([1, 2] : List Int)) := ⟨_, rfl⟩
         replace H : ((kMakes.f (rd y173 el) ii (rd y167 aw) y188).bind fun lN => (if lN = true then ((kMakes.f 3 (rd y173 el) (rd y167 aw) ([] : List Int)).bind fun jF => (if jF = true then (a6.l3 k4 y167 y170 y173 aw el (wrap64 (ii + 1))) else (none))) else (none))) = some r := by first | (rw [hy188]; with_reducible exact H) | (have H2_ := (Option.bind_some _ _).symm.trans H; rw [hy188]; with_reducible exact H2_) | (have H2_ := (Option.bind_some _ _).symm.trans H; with_reducible exact H2_) | with_reducible exact H | (rw [hy188]; exact H) | exact H
         have Ny188 := Aside0.mk hy188
         clear hy188
         replace H := Option.bind_eq_some_iff.mp H
         obtain ⟨lN, A360, H⟩ := H
         replace H : (if lN = true then ((kMakes.f 3 (rd y173 el) (rd y167 aw) ([] : List Int)).bind fun jF => (if jF = true then (a6.l3 k4 y167 y170 y173 aw el (wrap64 (ii + 1))) else (none))) else (none)) = some r := H
         have A36 := Aside0.mk A360
         clear A360
         by_cases c37 : lN = true
         case neg =>
          replace c37 := Bool.eq_false_iff.mpr c37
          subst c37
          have H1 : (none) = some r := p42z
          clear H
          have H := H1
          clear H1
          exact absurd H (by simp)
         subst c37
         have H1 : ((kMakes.f 3 (rd y173 el) (rd y167 aw) ([] : List Int)).bind fun jF => (if jF = true then (a6.l3 k4 y167 y170 y173 aw el (wrap64 (ii + 1))) else (none))) = some r := p99z
         clear H
         have H := H1
         clear H1
         replace H := Option.bind_eq_some_iff.mp H
         obtain ⟨jF, A380, H⟩ := H
         replace H : (if jF = true then (a6.l3 k4 y167 y170 y173 aw el (wrap64 (ii + 1))) else (none)) = some r := H
         have A38 := Aside0.mk A380
         clear A380
         by_cases c39 : jF = true
         case neg =>
          replace c39 := Bool.eq_false_iff.mpr c39
          subst c39
          have H1 : (none) = some r := p42z
          clear H
          have H := H1
          clear H1
          exact absurd H (by simp)
         subst c39
         have H1 : (a6.l3 k4 y167 y170 y173 aw el (wrap64 (ii + 1))) = some r := p99z
         clear H
         have H := H1
         clear H1
         have H' := Aside0.mk H
         clear H
         try go_wp2
         have n0_ := Aside0.mk (Kd.R_drew eP.out)
         have n1_ := Aside0.mk (Kd.R_drew bK.out)
         have n2_ := Aside0.mk (Kd.R_drew cv.out)
         have n3_ := Aside0.mk (below_drew1 HB.out)
         clear eP
         clear bK
         clear cv
         clear HB
         have eP := n0_
         have bK := n1_
         have cv := n2_
         have HB := n3_
         clear n0_ n1_ n2_ n3_
         have p186 : 0 ≤ (el : Int) := of_decide_eq_true p10z
         have q186 : el < (y173.length : Int) := of_decide_eq_true p10z
         obtain ⟨ad186, e186, hx186_0⟩ := Kd.at_int (Kd.R_reads' cv.out).2.2 el p186 q186
         cases e186
         replace p186 := eq_true p186
         replace q186 := eq_true q186
         have p187 : 0 ≤ (aw : Int) := of_decide_eq_true p10z
         have q187 : aw < (y167.length : Int) := of_decide_eq_true p10z
         obtain ⟨ad187, e187, hx187_0⟩ := Kd.at_int (Kd.R_reads' eP.out).2.2 aw p187 q187
         cases e187
         replace p187 := eq_true p187
         replace q187 := eq_true q187
         have p192 : 0 ≤ (el : Int) := of_decide_eq_true p10z
         have q192 : el < (y173.length : Int) := of_decide_eq_true p10z
         obtain ⟨ad192, e192, hx192_0⟩ := Kd.at_int (Kd.R_reads' cv.out).2.2 el p192 q192
         obtain rfl : ad186 = ad192 := (by injection e192)
         replace p192 := eq_true p192
         replace q192 := eq_true q192
         have p193 : 0 ≤ (aw : Int) := of_decide_eq_true p10z
         have q193 : aw < (y167.length : Int) := of_decide_eq_true p10z
         obtain ⟨ad193, e193, hx193_0⟩ := Kd.at_int (Kd.R_reads' eP.out).2.2 aw p193 q193
         obtain rfl : ad187 = ad193 := (by injection e193)
         replace p193 := eq_true p193
         replace q193 := eq_true q193
         refine start_ (n := 26) (S := fun w' => w'.cell? (ad186.add (el).toNat) = some (.int .i64 (rd y173 el)) ∧ w'.cell? (ad187.add (aw).toNat) = some (.int .u64 (rd y167 aw)) ∧ w'.cell? (ad186.add (el).toNat) = some (.int .i64 (rd y173 el)) ∧ w'.cell? (ad187.add (aw).toNat) = some (.int .u64 (rd y167 aw))) (ds := []) (tf 0 26) p16z rfl rfl ⟨hx186_0, hx187_0, hx192_0, hx193_0⟩ (fun hHeld => ?_); refine with_tabW a6.tab18 a6.bits18 (fun HT_ HW_ => ?_)
         generalize wr.drew = w40 at eP bK cv HB hx186_0 hx187_0 hx192_0 hx193_0 hHeld ⊢
         refine pure_ (i := 0) (N := some 76) (v := ?_) (a' := ?_) (tf 1 25) rfl rfl (any_of HT_.out p16z) (fun _ _ _ h => h) (Or.inl ⟨by rfl, ?_⟩) ?_ ?_
         rotate_left
         ·intro w'
          go_simp
          with_reducible rfl
         rotate_left
         ·exact p1z
         refine pure_ (i := 1) (N := some 77) (v := ?_) (a' := ?_) (tf 2 24) rfl rfl (any_of HT_.out p16z) (fun _ _ _ h => h) (Or.inl ⟨by rfl, ?_⟩) ?_ ?_
         rotate_left
         ·intro w'
          go_simp
          with_reducible rfl
         rotate_left
         ·exact p1z
         refine pure_ (i := 2) (N := some 78) (v := ?_) (a' := ?_) (tf 3 23) rfl rfl (any_of HT_.out p16z) (fun _ _ _ h => h) (Or.inl ⟨by rfl, ?_⟩) ?_ ?_
         rotate_left
         ·intro w'
          go_simp
          with_reducible rfl
         rotate_left
         ·exact p1z
         refine pure_ (i := 4) (N := some 80) (v := ?_) (a' := ?_) (tfs true [3, 1, 1, 21]) rfl rfl (any_of HT_.out p16z) (fun _ _ _ h => h) (Or.inl ⟨by rfl, ?_⟩) ?_ ?_
         rotate_left
         ·intro w'
          go_simp
          with_reducible rfl
         rotate_left
         ·exact p1z
         refine pure_ (i := 6) (N := some 82) (v := ?_) (a' := ?_) (tfs true [3, 1, 1, 1, 1, 19]) rfl rfl (any_of HT_.out p16z) (fun _ _ _ h => h) (Or.inl ⟨by rfl, ?_⟩) ?_ ?_
         rotate_left
         ·intro w'
          go_simp
          with_reducible rfl
         rotate_left
         ·exact p1z
         refine pure_ (i := 7) (N := some 83) (v := ?_) (a' := ?_) (tfs true [3, 1, 1, 1, 2, 18]) rfl rfl (any_of HT_.out p16z) (fun _ _ _ h => h) (Or.inl ⟨by rfl, ?_⟩) ?_ ?_
         rotate_left
         ·intro w'
          go_simp
          with_reducible rfl
         rotate_left
         ·exact p1z
         refine pure_ (i := 8) (N := some 84) (v := ?_) (a' := ?_) (tfs true [3, 1, 1, 1, 3, 17]) rfl rfl (any_of HT_.out p16z) (fun _ _ _ h => h) (Or.inl ⟨by rfl, ?_⟩) ?_ ?_
         rotate_left
         ·intro w'
          go_simp
          with_reducible rfl
         rotate_left
         ·exact p1z
         refine take_ (i := 3) (N := some 79) (v := ?_) (a' := ?_) (tfs true [5, 1, 3, 17]) rfl rfl (take_ofW HT_.out HW_.out p16z) (fun _ _ _ h => h) (Or.inl ⟨by rfl, ?_⟩) hHeld ?_ ?_
         rotate_left
         ·rintro w' ⟨s0, s1, s2, s3⟩
          go_simp
          with_reducible rfl
         rotate_left
         ·exact p1z
         refine pure_ (i := 5) (N := some 81) (v := ?_) (a' := ?_) (tf 9 17) rfl rfl (any_of HT_.out p16z) (fun _ _ _ h => h) (Or.inl ⟨by rfl, ?_⟩) ?_ ?_
         rotate_left
         ·intro w'
          go_simp
          with_reducible rfl
         rotate_left
         ·exact p1z
         refine take_ (i := 9) (N := some 85) (v := ?_) (a' := ?_) (tf 10 16) rfl rfl (take_ofW HT_.out HW_.out p16z) (fun _ _ _ h => h) (Or.inl ⟨by rfl, ?_⟩) hHeld ?_ ?_
         rotate_left
         ·rintro w' ⟨s0, s1, s2, s3⟩
          go_simp
          with_reducible rfl
         rotate_left
         ·exact p1z
         refine one_ (i := 10) (N := some 86) (tf 11 15) rfl rfl (one_of HT_.out p16z) (by decide) (fun K hK => ?_)
         refine Kd.R_lit_step (Kd.int .u8) _ 5 ?hg (N := 86) ?hd (xs := ([1, 2] : List Int)) (inner := [.int .u8 1, .int .u8 2]) (ok := fun _ => True) (okp := fun _ => True) ?hr ?hp (fun _ hk => hk) trivial (Below.refl _ _) (Nat.le_refl _) (by simp) ?_; (case hd => rfl); (case hg => rfl); (case hr => exact p22z); (case hp => exact (Reps.one (show Kd.M (Kd.int .u8) _ _ _ 1 [.int .u8 1] from rfl) (Reps.one (show Kd.M (Kd.int .u8) _ _ _ 2 [.int .u8 2] from rfl) (Reps.none _ _))))
         intro v189 w41 ho42 hb hg_ hnew_
         have HS0_ := (hb.cell (World.block_lt_of_cell? _ _ (hHeld.1))).trans (hHeld.1)
         have HS1_ := (hb.cell (World.block_lt_of_cell? _ _ (hHeld.2.1))).trans (hHeld.2.1)
         have HS2_ := (hb.cell (World.block_lt_of_cell? _ _ (hHeld.2.2.1))).trans (hHeld.2.2.1)
         have HS3_ := (hb.cell (World.block_lt_of_cell? _ _ (hHeld.2.2.2))).trans (hHeld.2.2.2)
         clear hg_ hnew_
         (first | rw [← Ny188.out] at ho42 | (simp only [Int.reduceToNat] at ho42; rw [← Ny188.out] at ho42))
         have n0_ := Aside0.mk (Kd.R_below p71z hb)
         have n1_ := Aside0.mk (Kd.R_below p72z hb)
         have n2_ := Aside0.mk (Kd.R_below p56z hb)
         have n3_ := Aside0.mk (Kd.R_lower ho42 (below_size p0z))
         have n4_ := Aside0.mk (below_step p0z hb)
         clear eP
         clear bK
         clear cv
         clear HB
         have eP := n0_
         have bK := n1_
         have cv := n2_
         have iz := n3_
         have HB := n4_
         clear n0_ n1_ n2_ n3_ n4_
         clear hb ho42
         obtain ⟨Ao43, co43, eo43⟩ := Kd.R_slice iz.out
         (first | subst eo43 | (injection eo43 with f1_ f2_ f3_; have f4_ := f1_.symm; have f5_ := f3_.symm; clear f1_ f2_ f3_; subst f4_; subst f5_))
         refine hK.out _ _ ⟨HS0_, HS1_, HS2_, HS3_⟩ (fun hHeld => ?_)
         clear hK K
         refine norm_ (a' := ?_) ?_ ?_
         rotate_left
         ·show Act.put _ (some 86) _ = _
          simp only [Act.put, List.setIfInBounds_toArray, List.set_cons_zero, List.set_cons_succ, i64_w, i32_w]
          rfl
         refine one_ (i := 11) (N := some 87) (tf 12 14) rfl rfl (one_of HT_.out p16z) (by decide) (fun K hK => ?_)
         refine goes_ Try.func7 p16z rfl #[.agg #[.int .i64 (rd y173 el), .int .i64 ii], .int .u64 (rd y167 aw), .slice Ao43 y188.length co43] (by rfl) rfl rfl p2z ?_
         with_reducible refine (kMakes.calls (rd y173 el) ii (rd y167 aw) _ _ y188 true _ ?side1 ?side2 A36.out).mono ?_
         (case side1 => repeat (first | exact (Kd.R_reads' iz.out).2.2 | (with_reducible refine Kd.C_alloc ?_ _) | (with_reducible refine Kd.C_drewN ?_ _) | (with_reducible refine Kd.C_drew ?_)))
         (case side2 => exact (Kd.R_reads' iz.out).2.1)
         rintro e w44 ⟨rfl, hb⟩
         have HS0_ := (hb.cell (World.block_lt_of_cell? _ _ (hHeld.1))).trans (hHeld.1)
         have HS1_ := (hb.cell (World.block_lt_of_cell? _ _ (hHeld.2.1))).trans (hHeld.2.1)
         have HS2_ := (hb.cell (World.block_lt_of_cell? _ _ (hHeld.2.2.1))).trans (hHeld.2.2.1)
         have HS3_ := (hb.cell (World.block_lt_of_cell? _ _ (hHeld.2.2.2))).trans (hHeld.2.2.2)
         refine ⟨_, rfl, ?_⟩
         have n0_ := Aside0.mk (Kd.R_below p71z hb)
         have n1_ := Aside0.mk (Kd.R_below p72z hb)
         have n2_ := Aside0.mk (Kd.R_below p56z hb)
         have n3_ := Aside0.mk (Kd.R_below (q0z iz.out) hb)
         have n4_ := Aside0.mk (below_step p0z hb)
         clear eP
         clear bK
         clear cv
         clear iz
         clear HB
         have eP := n0_
         have bK := n1_
         have cv := n2_
         have iz := n3_
         have HB := n4_
         clear n0_ n1_ n2_ n3_ n4_
         (try clear hb)
         (try clear hb2)
         (try clear hk)
         (try clear hi)
         refine hK.out _ _ ⟨HS0_, HS1_, HS2_, HS3_⟩ (fun hHeld => ?_)
         clear hK K
         refine norm_ (a' := ?_) ?_ ?_
         rotate_left
         ·show Act.put _ (some 87) _ = _
          simp only [Act.put, List.setIfInBounds_toArray, List.set_cons_zero, List.set_cons_succ, i64_w, i32_w]
          rfl
         refine pure_ (i := 12) (N := some 88) (v := ?_) (a' := ?_) (tf 13 13) rfl rfl (any_of HT_.out p16z) (fun _ _ _ h => h) (Or.inl ⟨by rfl, ?_⟩) ?_ ?_
         rotate_left
         ·intro w'
          go_simp
          with_reducible rfl
         rotate_left
         ·exact p1z
         refine pure_ (i := 13) (N := some 89) (v := ?_) (a' := ?_) (tf 14 12) rfl rfl (any_of HT_.out p16z) (fun _ _ _ h => h) (Or.inl ⟨by rfl, ?_⟩) ?_ ?_
         rotate_left
         ·intro w'
          go_simp
          with_reducible rfl
         rotate_left
         ·exact p1z
         refine pure_ (i := 14) (N := some 90) (v := ?_) (a' := ?_) (tf 15 11) rfl rfl (any_of HT_.out p16z) (fun _ _ _ h => h) (Or.inl ⟨by rfl, ?_⟩) ?_ ?_
         rotate_left
         ·intro w'
          go_simp
          with_reducible rfl
         rotate_left
         ·exact p1z
         refine pure_ (i := 15) (N := some 91) (v := ?_) (a' := ?_) (tf 16 10) rfl rfl (any_of HT_.out p16z) (fun _ _ _ h => h) (Or.inl ⟨by rfl, ?_⟩) ?_ ?_
         rotate_left
         ·intro w'
          go_simp
          with_reducible rfl
         rotate_left
         ·exact p1z
         refine pure_ (i := 16) (N := some 92) (v := ?_) (a' := ?_) (tf 17 9) rfl rfl (any_of HT_.out p16z) (fun _ _ _ h => h) (Or.inl ⟨by rfl, ?_⟩) ?_ ?_
         rotate_left
         ·intro w'
          go_simp
          with_reducible rfl
         rotate_left
         ·exact p1z
         refine pure_ (i := 19) (N := some 95) (v := ?_) (a' := ?_) (tfs true [17, 2, 1, 6]) rfl rfl (any_of HT_.out p16z) (fun _ _ _ h => h) (Or.inl ⟨by rfl, ?_⟩) ?_ ?_
         rotate_left
         ·intro w'
          go_simp
          with_reducible rfl
         rotate_left
         ·exact p1z
         refine pure_ (i := 20) (N := some 96) (v := ?_) (a' := ?_) (tfs true [17, 2, 2, 5]) rfl rfl (any_of HT_.out p16z) (fun _ _ _ h => h) (Or.inl ⟨by rfl, ?_⟩) ?_ ?_
         rotate_left
         ·intro w'
          go_simp
          with_reducible rfl
         rotate_left
         ·exact p1z
         refine pure_ (i := 21) (N := some 97) (v := ?_) (a' := ?_) (tfs true [17, 2, 3, 4]) rfl rfl (any_of HT_.out p16z) (fun _ _ _ h => h) (Or.inl ⟨by rfl, ?_⟩) ?_ ?_
         rotate_left
         ·intro w'
          go_simp
          with_reducible rfl
         rotate_left
         ·exact p1z
         refine take_ (i := 17) (N := some 93) (v := ?_) (a' := ?_) (tfs true [18, 1, 3, 4]) rfl rfl (take_ofW HT_.out HW_.out p16z) (fun _ _ _ h => h) (Or.inl ⟨by rfl, ?_⟩) hHeld ?_ ?_
         rotate_left
         ·rintro w' ⟨s0, s1, s2, s3⟩
          go_simp
          with_reducible rfl
         rotate_left
         ·exact p1z
         refine pure_ (i := 18) (N := some 94) (v := ?_) (a' := ?_) (tf 22 4) rfl rfl (any_of HT_.out p16z) (fun _ _ _ h => h) (Or.inl ⟨by rfl, ?_⟩) ?_ ?_
         rotate_left
         ·intro w'
          go_simp
          with_reducible rfl
         rotate_left
         ·exact p1z
         refine take_ (i := 22) (N := some 98) (v := ?_) (a' := ?_) (tf 23 3) rfl rfl (take_ofW HT_.out HW_.out p16z) (fun _ _ _ h => h) (Or.inl ⟨by rfl, ?_⟩) hHeld ?_ ?_
         rotate_left
         ·rintro w' ⟨s0, s1, s2, s3⟩
          go_simp
          with_reducible rfl
         rotate_left
         ·exact p1z
         refine one_ (i := 23) (N := some 99) (tf 24 2) rfl rfl (one_of HT_.out p16z) (by decide) (fun K hK => ?_)
         refine goes_ Try.func7 p16z rfl #[.agg #[.int .i64 3, .int .i64 (rd y173 el)], .int .u64 (rd y167 aw), .slice none 0 0] (by rfl) rfl rfl p2z ?_
         refine (kMakes.calls 3 (rd y173 el) (rd y167 aw) _ _ ([] : List Int) true _ ?side1 ?side2 A38.out).mono ?_
         (case side1 => exact Kd.C_nil _ _)
         (case side2 => exact Nat.le_refl _)
         rintro e w45 ⟨rfl, hb⟩
         have HS0_ := (hb.cell (World.block_lt_of_cell? _ _ (hHeld.1))).trans (hHeld.1)
         have HS1_ := (hb.cell (World.block_lt_of_cell? _ _ (hHeld.2.1))).trans (hHeld.2.1)
         have HS2_ := (hb.cell (World.block_lt_of_cell? _ _ (hHeld.2.2.1))).trans (hHeld.2.2.1)
         have HS3_ := (hb.cell (World.block_lt_of_cell? _ _ (hHeld.2.2.2))).trans (hHeld.2.2.2)
         refine ⟨_, rfl, ?_⟩
         have n0_ := Aside0.mk (Kd.R_below p71z hb)
         have n1_ := Aside0.mk (Kd.R_below p72z hb)
         have n2_ := Aside0.mk (Kd.R_below p56z hb)
         have n3_ := Aside0.mk (Kd.R_below (q0z iz.out) hb)
         have n4_ := Aside0.mk (below_step p0z hb)
         clear eP
         clear bK
         clear cv
         clear iz
         clear HB
         have eP := n0_
         have bK := n1_
         have cv := n2_
         have iz := n3_
         have HB := n4_
         clear n0_ n1_ n2_ n3_ n4_
         (try clear hb)
         (try clear hb2)
         (try clear hk)
         (try clear hi)
         refine hK.out _ _ ⟨HS0_, HS1_, HS2_, HS3_⟩ (fun hHeld => ?_)
         clear hK K
         refine norm_ (a' := ?_) ?_ ?_
         rotate_left
         ·show Act.put _ (some 99) _ = _
          simp only [Act.put, List.setIfInBounds_toArray, List.set_cons_zero, List.set_cons_succ, i64_w, i32_w]
          rfl
         refine pure_ (i := 24) (N := some 100) (v := ?_) (a' := ?_) (tf 25 1) rfl rfl (any_of HT_.out p16z) (fun _ _ _ h => h) (Or.inl ⟨by rfl, ?_⟩) ?_ ?_
         rotate_left
         ·intro w'
          go_simp
          with_reducible rfl
         rotate_left
         ·exact p1z
         refine pure_ (i := 25) (N := some 101) (v := ?_) (a' := ?_) (tf 26 0) rfl rfl (any_of HT_.out p16z) (fun _ _ _ h => h) (Or.inl ⟨by rfl, ?_⟩) ?_ ?_
         rotate_left
         ·intro w'
          go_simp
          with_reducible rfl
         rotate_left
         ·exact p1z
         refine done_ (done_of HT_.out p16z) ?_
         try go_wp2
         go_roundg k4
         case measure => have := HK1.out; have := HK2.out; have := HK3.out; have := HK4.out; omega
         case rel => exact ⟨(wrap64 (ii + 1)), p21z, H', ⟨by have := HK1.out; have := HK2.out; have := HK3.out; have := HK4.out; omega⟩, ⟨p71z⟩, ⟨p72z⟩, ⟨p56z⟩, ⟨p0z⟩⟩
/-- THE ONE PURE STATEMENT of a6: yours. -/
def a6.Pure : Prop := ∃ k, a6.f k  = some true
theorem a6.walk (P : a6.Pure)  (w : World)  :
    Calls Try.prog 11 #[] w fun e w' => e = .returned (.bool true) ∧ Below w.heap.size w w' := by
  obtain ⟨k, h⟩ := P  
  refine (a6.calls k  true w h).mono ?_
  rintro e w' ⟨rfl, hd⟩
  exact ⟨rfl, hd⟩

end Go.Proofs.Ytbclejgljegfmaa.PAll
