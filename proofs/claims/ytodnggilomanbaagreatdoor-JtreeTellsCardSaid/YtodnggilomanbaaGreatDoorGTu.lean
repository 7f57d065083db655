-- Written by this repo's program wip/tools/pr.py (over the kit's print) out of the translation. Not trusted: Lean checks it.
import Derived.Test.YtodnggilomanbaaGreatDoorAp
import Derived.Test.YtodnggilomanbaaGreatDoorHandStep
import Derived.Test.YtodnggilomanbaaGreatDoorGTz
set_option maxHeartbeats 8000000
set_option maxRecDepth 100000
namespace Go.Proofs.YtodnggilomanbaaGreatDoor.PAll
open Go.RowKit Go.Proofs.YtodnggilomanbaaGreatDoorW.PrintWords Go.Proofs.YtodnggilomanbaaGreatDoorW.PrintLast Go.Proofs.YtodnggilomanbaaGreatDoorW.PrintMore
attribute [local go_sem] max2_int min2_int max_two min_two max_three min_three max_four min_four   -- for this text's walks alone
set_option linter.unusedVariables false
set_option linter.unusedSimpArgs false

/-! ### a7: function 71 -/
mutual
def a7.l0 : Nat → ByteArray → List Int → Int → Option (ByteArray)
  | 0, _, _, _ => none
  | k + 1, x0, x3, x4 => if x4 < (x0.size : Int) then (if 0 ≤ x4 then (if (bt x0 x4) = 34 then (a7.j1 k x0 x3 x4 (bt x0 x4) true) else (a7.j1 k x0 x3 x4 (bt x0 x4) ((bt x0 x4) == 92))) else (none)) else (if x3.length < 140737488355328 then (some (strOfNums (x3 ++ [34]))) else (none))
def a7.j1 : Nat → ByteArray → List Int → Int → Int → Bool → Option (ByteArray)
  | 0, _, _, _, _, _ => none
  | k + 1, x0, x3, x4, x5, x20 => if x20 = true then ((some (([92, x5] : List Int) : List Int)).bind fun y317 => (if x3.length + y317.length < 140737488355328 then (a7.l0 k x0 (x3 ++ y317) (wrap64 (x4 + 1))) else (none))) else (if x5 = 8 then ((some (([92, 98] : List Int) : List Int)).bind fun y323 => (if x3.length + y323.length < 140737488355328 then (a7.l0 k x0 (x3 ++ y323) (wrap64 (x4 + 1))) else (none))) else (if x5 = 12 then ((some (([92, 102] : List Int) : List Int)).bind fun y329 => (if x3.length + y329.length < 140737488355328 then (a7.l0 k x0 (x3 ++ y329) (wrap64 (x4 + 1))) else (none))) else (if x5 = 10 then ((some (([92, 110] : List Int) : List Int)).bind fun y335 => (if x3.length + y335.length < 140737488355328 then (a7.l0 k x0 (x3 ++ y335) (wrap64 (x4 + 1))) else (none))) else (if x5 = 13 then ((some (([92, 114] : List Int) : List Int)).bind fun y341 => (if x3.length + y341.length < 140737488355328 then (a7.l0 k x0 (x3 ++ y341) (wrap64 (x4 + 1))) else (none))) else (if x5 = 9 then ((some (([92, 116] : List Int) : List Int)).bind fun y347 => (if x3.length + y347.length < 140737488355328 then (a7.l0 k x0 (x3 ++ y347) (wrap64 (x4 + 1))) else (none))) else (if x5 < 32 then (if 0 ≤ ((Int.tdiv x5 16) % 256) then (if ((Int.tdiv x5 16) % 256) < 16 then (if 0 ≤ (Int.tmod x5 16) then (if (Int.tmod x5 16) < 16 then ((some (([92, 117, 48, 48, bt (⟨#[48, 49, 50, 51, 52, 53, 54, 55, 56, 57, 97, 98, 99, 100, 101, 102]⟩ : ByteArray) ((Int.tdiv x5 16) % 256), bt (⟨#[48, 49, 50, 51, 52, 53, 54, 55, 56, 57, 97, 98, 99, 100, 101, 102]⟩ : ByteArray) (Int.tmod x5 16)] : List Int) : List Int)).bind fun y353 => (if x3.length + y353.length < 140737488355328 then (a7.l0 k x0 (x3 ++ y353) (wrap64 (x4 + 1))) else (none))) else (none)) else (none)) else (none)) else (none)) else (if x3.length < 140737488355328 then (a7.l0 k x0 (x3 ++ [x5]) (wrap64 (x4 + 1))) else (none))))))))
end
def a7.f (k : Nat) (a0 : ByteArray) : Option (ByteArray) := a7.l0 k a0 (([34] : List Int)) 0
def a7.T20 : Bool × List (List Nat × List Nat) := (true, [([], []), ([], []), ([1], [1]), ([2], [2]), ([], []), ([4], [4]), ([5], [5]), ([3, 6], [3, 6]), ([0, 7], [0, 7]), ([8, 8, 0, 1, 2, 3, 4, 5, 6, 7, 8], [0, 8])])
def a7.B20 : List Nat := [0, 0, 2, 6, 0, 16, 48, 126, 255, 511]
theorem a7.tab20 : rtab .any (opsOf Tryz.f71 20) = a7.T20 := p12z
theorem a7.bits20 : waitsOk a7.T20.2 a7.B20 = true := p12z
theorem a7.calls (k : Nat) (a0 : ByteArray) (r : ByteArray) (w : World) (h : a7.f k a0 = some r) :
 Calls Tryz.prog 71 #[.string a0] w fun e w' => e = .returned (.string r) ∧ Below w.heap.size w w' := by
 have HB := Aside0.mk (Below.refl w.heap.size w)
 have H : (a7.l0 k a0 (([34] : List Int)) 0) = some r := h
 clear h
 obtain ⟨y311, hy311⟩ : ∃ y_ : List Int, y_ = (([34] : List Int)) := ⟨_, rfl⟩
 replace H : (a7.l0 k a0 y311 0) = some r := by first | (rw [hy311]; with_reducible exact H) | (have H2_ := (Option.bind_some _ _).symm.trans H; rw [hy311]; with_reducible exact H2_) | (have H2_ := (Option.bind_some _ _).symm.trans H; with_reducible exact H2_) | with_reducible exact H | (rw [hy311]; exact H) | exact H
 have Ny311 := Aside0.mk hy311
 clear hy311
 have H' := Aside0.mk H
 clear H
 go_enter Tryz.func71, Tryz.ntmps71
 go_wp2_with (first | ((with_reducible refine gate_dst (N := 6) rfl ?_); refine Kd.R_lit (Kd.int .u8) _ 5 ?hg (N := 6) ?hd (xs := ([34] : List Int)) (inner := [.int .u8 34]) (ok := fun _ => True) (okp := fun _ => True) ?hr ?hp (fun _ hk => hk) trivial (Below.refl _ _) (Nat.le_refl _) (by simp) ?_; (case hd => rfl); (case hg => rfl); (case hr => exact p9z); (case hp => exact (Reps.one (show Kd.M (Kd.int .u8) _ _ _ 34 [.int .u8 34] from rfl) (Reps.none _ _))); intro v312 w2 ho3 hb hg_ hnew_; clear hg_ hnew_; (first | rw [← Ny311.out] at ho3 | (simp only [Int.reduceToNat] at ho3; rw [← Ny311.out] at ho3)); have z_ := asi2 (Kd.R_lower ho3 (below_size p0z)) (below_step p0z hb); clear HB; obtain ⟨HO313, HB⟩ := z_; clear hb ho3))
 go_loopg [3, 4] k (fun kq v3 v4 w' => ∃ (aW : List Int) (aj : Int), v4 = .int .i64 aj ∧ Aside0 (a7.l0 kq a0 aW aj = some r) ∧ Aside0 (kq ≤ k) ∧ Aside0 (Kd.R (Kd.int .u8) 5 w' w.heap.size (fun _ => True) v3 aW) ∧ Aside0 (Below w.heap.size w w'))
 case atStart => exact ⟨(y311), (0), p5z, H', ⟨Nat.le_refl _⟩, ⟨q0z HO313.out⟩, ⟨p0z⟩⟩
 case round =>
  clear H'
  obtain ⟨aW, aj, rfl, HA, HK1, cX, HB⟩ := hrel
  cases gk with
  | zero => exact absurd HA.out (by simp [a7.l0])
  | succ k1 =>
   have H := HA.out
   clear HA
   simp only [a7.l0] at H
   by_cases c4 : aj < (a0.size : Int)
   case neg =>
    rw [if_neg c4] at H
    have dd : decide (aj < (a0.size : Int)) = false := decide_eq_false c4
    clear c4
    by_cases c62 : aW.length < 140737488355328
    case neg =>
     rw [if_neg c62] at H
     exact absurd H (by simp)
    rw [if_pos c62] at H
    have LMc62 := Aside0.mk c62
    clear c62
    obtain ⟨y314, hy314⟩ : ∃ y_ : List Int, y_ = (aW ++ [34]) := ⟨_, rfl⟩
    replace H : (some (strOfNums y314)) = some r := by first | (rw [hy314]; with_reducible exact H) | (have H2_ := (Option.bind_some _ _).symm.trans H; rw [hy314]; with_reducible exact H2_) | (have H2_ := (Option.bind_some _ _).symm.trans H; with_reducible exact H2_) | with_reducible exact H | (rw [hy314]; exact H) | exact H
    have Ny314 := Aside0.mk hy314
    clear hy314
    obtain rfl := Option.some.inj H
    go_wp2_with (first | ((with_reducible refine gate_builtin (b := .append) (xs := #[.tmp 73, .tmp 74]) rfl ?_); at_builtin; refine Kd.R_append (Kd.int .u8) (w0 := w) w.heap.size rfl (.tmp 73) (.tmp 74) 23 5 (.int .u8 0) 1 rfl Tryz.underlying23 info5 rfl (by decide) (by omega) u3 aW 34 [.int .u8 34] (fun _ => True) (fun _ => False) rfl rfl ?aP (fun _ hk => hk.elim) ?aF ?aO ?aB ?aS ?aL ?_; (case aP => exact rfl); (case aB => exact p0z); (case aF => exact (fun _ _ => trivial)); (case aO => exact p23z); (case aS => exact (below_size p0z)); (case aL => have := LMc62.out; omega); intro v315 w63 ho hb hg hat; rw [← Ny314.out] at ho; have z_ := asi2 (hb) (ho); clear HB cX; obtain ⟨HB, HO316⟩ := z_; clear ho hb hg hat; have hcv64 := own_string (P := Tryz.prog) Tryz.underlying23 Tryz.underlying5 Tryz.underlying9 (Kd.own_of_R HO316.out)))
    go_ret
    exact ⟨p7z, p0z⟩
   rw [if_pos c4] at H
   have dd : decide (aj < (a0.size : Int)) = true := decide_eq_true c4
   clear c4
   by_cases c5 : 0 ≤ aj
   case neg =>
    rw [if_neg c5] at H
    exact absurd H (by simp)
   rw [if_pos c5] at H
   have dE : decide (0 ≤ aj) = true := decide_eq_true c5
   clear c5
   have HC7 := Aside0.mk H
   clear H
   have p6 : 0 ≤ (aj : Int) := of_decide_eq_true p4z
   have q6 : aj < (a0.size : Int) := of_decide_eq_true p4z
   have hx6 := bt_at a0 aj
   replace p6 := eq_true p6
   replace q6 := eq_true q6
   go_upto_region 7 with (fail)
   go_cut [20] (fun v20 wc => ∃ (kq : Nat) (iS : Bool), v20 = .bool iS ∧ Aside0 (a7.j1 kq a0 aW aj (bt a0 aj) iS = some r) ∧ Aside0 (kq ≤ k1) ∧ Aside0 (Kd.R (Kd.int .u8) 5 wc w.heap.size (fun _ => True) u3 aW) ∧ Aside0 (Below w.heap.size w wc))
   case first =>
    have H := HC7.out
    clear HC7
    by_cases c8 : (bt a0 aj) = 34
    case neg =>
     rw [if_neg c8] at H
     have dK : ((bt a0 aj) == 34) = false := beq_eq_false_iff_ne.mpr c8
     have jg : ((bt a0 aj) != 34) = true := bne_iff_ne.mpr c8
     (first | rw [dK] | (simp only [i64_w, i32_w]; rw [dK]) | skip)
     have H' := Aside0.mk H
     clear H
     go_wp2
     go_meet
     case rel => exact ⟨_, (((bt a0 aj) == 92)), p5z, H', ⟨p75z⟩, ⟨p23z⟩, ⟨p0z⟩⟩
    rw [if_pos c8] at H
    have dK : ((bt a0 aj) == 34) = true := beq_iff_eq.mpr c8
    have jg : ((bt a0 aj) != 34) = false := bne_eq_false_iff_eq.mpr c8
    clear c8
    (first | rw [dK] | (simp only [i64_w, i32_w]; rw [dK]) | skip)
    have H' := Aside0.mk H
    clear H
    go_wp2
    go_meet
    case rel => exact ⟨_, (true), p5z, H', ⟨p75z⟩, ⟨p23z⟩, ⟨p0z⟩⟩
   case rest =>
    clear HC7
    try clear dd
    try clear dE
    try clear p6
    try clear q6
    try clear hx6
    obtain ⟨kq, iS, rfl, HA, HJ6, cX, HB⟩ := hcut
    cases kq with
    | zero => exact absurd HA.out (by simp [a7.j1])
    | succ kj6 =>
     have H := HA.out
     clear HA
     simp only [a7.j1] at H
     by_cases c9 : iS = true
     case pos =>
      subst c9
      have H1 : ((some (([92, (bt a0 aj)] : List Int) : List Int)).bind fun y317 => (if aW.length + y317.length < 140737488355328 then (a7.l0 kj6 a0 (aW ++ y317) (wrap64 (aj + 1))) else (none))) = some r := p72z
      clear H
      have H := H1
      clear H1
      obtain ⟨y317, hy317⟩ : ∃ y_ : List Int, y_ = (([92, (bt a0 aj)] : List Int)) := ⟨_, rfl⟩
      replace H : (if aW.length + y317.length < 140737488355328 then (a7.l0 kj6 a0 (aW ++ y317) (wrap64 (aj + 1))) else (none)) = some r := by first | (rw [hy317]; with_reducible exact H) | (have H2_ := (Option.bind_some _ _).symm.trans H; rw [hy317]; with_reducible exact H2_) | (have H2_ := (Option.bind_some _ _).symm.trans H; with_reducible exact H2_) | with_reducible exact H | (rw [hy317]; exact H) | exact H
      have Ny317 := Aside0.mk hy317
      clear hy317
      by_cases c10 : aW.length + y317.length < 140737488355328
      case neg =>
       rw [if_neg c10] at H
       exact absurd H (by simp)
      rw [if_pos c10] at H
      have LMc10 := Aside0.mk c10
      clear c10
      obtain ⟨y320, hy320⟩ : ∃ y_ : List Int, y_ = (aW ++ y317) := ⟨_, rfl⟩
      replace H : (a7.l0 kj6 a0 y320 (wrap64 (aj + 1))) = some r := by first | (rw [hy320]; with_reducible exact H) | (have H2_ := (Option.bind_some _ _).symm.trans H; rw [hy320]; with_reducible exact H2_) | (have H2_ := (Option.bind_some _ _).symm.trans H; with_reducible exact H2_) | with_reducible exact H | (rw [hy320]; exact H) | exact H
      have Ny320 := Aside0.mk hy320
      clear hy320
      have H' := Aside0.mk H
      clear H
      go_wp2_with (first | ((with_reducible refine gate_dst (N := 29) rfl ?_); refine Kd.R_lit (Kd.int .u8) _ 5 ?hg (N := 29) ?hd (xs := ([92, (bt a0 aj)] : List Int)) (inner := [.int .u8 92, .int .u8 (bt a0 aj)]) (ok := fun _ => True) (okp := fun _ => True) ?hr ?hp (fun _ hk => hk) trivial (Below.refl _ _) (Nat.le_refl _) (by simp) ?_; (case hd => rfl); (case hg => rfl); (case hr => exact p9z); (case hp => exact (Reps.one (show Kd.M (Kd.int .u8) _ _ _ 92 [.int .u8 92] from rfl) (Reps.one (show Kd.M (Kd.int .u8) _ _ _ (bt a0 aj) [.int .u8 (bt a0 aj)] from rfl) (Reps.none _ _)))); intro v318 w11 ho12 hb hg_ hnew_; clear hg_ hnew_; (first | rw [← Ny317.out] at ho12 | (simp only [Int.reduceToNat] at ho12; rw [← Ny317.out] at ho12)); have z_ := asi3 (Kd.R_elder' p23z (Kd.R_base ho12) hb) (Kd.R_lower (Kd.R_new' ho12 (Kd.R_lt p23z)) (below_size p0z)) (below_step p0z hb); clear cX HB; obtain ⟨cX, fA, HB⟩ := z_; clear hb ho12; obtain ⟨Ao14, co14, eo14⟩ := Kd.R_slice fA.out; subst eo14) | ((with_reducible refine gate_builtin (b := .append) (xs := #[.tmp 27, .tmp 29]) rfl ?_); at_builtin; refine Kd.R_append_rows (Kd.int .u8) (w0 := w) w.heap.size rfl (.tmp 27) (.tmp 29) 23 5 (.int .u8 0) 1 rfl Tryz.underlying23 info5 rfl (by decide) (by omega) u3 aW y317 _ _ _ (fun k_ => some k_ ≠ (.slice Ao14 y317.length co14 : Value).ownBlock) (fun _ => False) rfl rfl ?aO ?aR (fun _ _ h => h) (fun _ h => h.elim) ?aF ?aB ?aS ?aL ?_; (case aR => repeat (first | exact (Kd.R_reads' fA.out).2.2 | (with_reducible refine Kd.C_alloc ?_ _) | (with_reducible refine Kd.C_drewN ?_ _) | (with_reducible refine Kd.C_drew ?_))); (case aB => exact p0z); (case aF => exact (fun k_ hk => Kd.fresh' (Kd.R_lt (q0z fA.out)) k_ hk)); (case aO => exact p48z); (case aS => exact (below_size p0z)); (case aL => have := LMc10.out; omega); intro v321 w13 ho hb hg hat; rw [← Ny320.out] at ho; have z_ := asi3 (Kd.R_after (ok := (fun _ => True)) (q0z fA.out) hg hat) (hb) (ho); clear fA HB cX; obtain ⟨fA, HB, HO322⟩ := z_; clear ho hb hg hat))
      go_roundg kj6
      case measure => have := HK1.out; have := HJ6.out; omega
      case rel => exact ⟨(y320), (wrap64 (aj + 1)), p5z, H', ⟨p97z⟩, ⟨by (with_reducible repeat (first | apply Kd.R_alloc | apply Kd.R_drewN | apply Kd.R_drew)); exact Kd.R_mono HO322.out (fun _ hk => trivial)⟩, ⟨p0z⟩⟩
     replace c9 := Bool.eq_false_iff.mpr c9
     subst c9
     have H1 : (if (bt a0 aj) = 8 then ((some (([92, 98] : List Int) : List Int)).bind fun y323 => (if aW.length + y323.length < 140737488355328 then (a7.l0 kj6 a0 (aW ++ y323) (wrap64 (aj + 1))) else (none))) else (if (bt a0 aj) = 12 then ((some (([92, 102] : List Int) : List Int)).bind fun y329 => (if aW.length + y329.length < 140737488355328 then (a7.l0 kj6 a0 (aW ++ y329) (wrap64 (aj + 1))) else (none))) else (if (bt a0 aj) = 10 then ((some (([92, 110] : List Int) : List Int)).bind fun y335 => (if aW.length + y335.length < 140737488355328 then (a7.l0 kj6 a0 (aW ++ y335) (wrap64 (aj + 1))) else (none))) else (if (bt a0 aj) = 13 then ((some (([92, 114] : List Int) : List Int)).bind fun y341 => (if aW.length + y341.length < 140737488355328 then (a7.l0 kj6 a0 (aW ++ y341) (wrap64 (aj + 1))) else (none))) else (if (bt a0 aj) = 9 then ((some (([92, 116] : List Int) : List Int)).bind fun y347 => (if aW.length + y347.length < 140737488355328 then (a7.l0 kj6 a0 (aW ++ y347) (wrap64 (aj + 1))) else (none))) else (if (bt a0 aj) < 32 then (if 0 ≤ ((Int.tdiv (bt a0 aj) 16) % 256) then (if ((Int.tdiv (bt a0 aj) 16) % 256) < 16 then (if 0 ≤ (Int.tmod (bt a0 aj) 16) then (if (Int.tmod (bt a0 aj) 16) < 16 then ((some (([92, 117, 48, 48, bt (⟨#[48, 49, 50, 51, 52, 53, 54, 55, 56, 57, 97, 98, 99, 100, 101, 102]⟩ : ByteArray) ((Int.tdiv (bt a0 aj) 16) % 256), bt (⟨#[48, 49, 50, 51, 52, 53, 54, 55, 56, 57, 97, 98, 99, 100, 101, 102]⟩ : ByteArray) (Int.tmod (bt a0 aj) 16)] : List Int) : List Int)).bind fun y353 => (if aW.length + y353.length < 140737488355328 then (a7.l0 kj6 a0 (aW ++ y353) (wrap64 (aj + 1))) else (none))) else (none)) else (none)) else (none)) else (none)) else (if aW.length < 140737488355328 then (a7.l0 kj6 a0 (aW ++ [(bt a0 aj)]) (wrap64 (aj + 1))) else (none)))))))) = some r := p39z
     clear H
     have H := H1
     clear H1
     by_cases c15 : (bt a0 aj) = 8
     case pos =>
      rw [if_pos c15] at H
      have dA : ((bt a0 aj) == 8) = true := beq_iff_eq.mpr c15
      have c15b1 : ((bt a0 aj) != 8) = false := bne_eq_false_iff_eq.mpr c15
      clear c15
      obtain ⟨y323, hy323⟩ : ∃ y_ : List Int, y_ = (([92, 98] : List Int)) := ⟨_, rfl⟩
      replace H : (if aW.length + y323.length < 140737488355328 then (a7.l0 kj6 a0 (aW ++ y323) (wrap64 (aj + 1))) else (none)) = some r := by first | (rw [hy323]; with_reducible exact H) | (have H2_ := (Option.bind_some _ _).symm.trans H; rw [hy323]; with_reducible exact H2_) | (have H2_ := (Option.bind_some _ _).symm.trans H; with_reducible exact H2_) | with_reducible exact H | (rw [hy323]; exact H) | exact H
      have Ny323 := Aside0.mk hy323
      clear hy323
      by_cases c16 : aW.length + y323.length < 140737488355328
      case neg =>
       rw [if_neg c16] at H
       exact absurd H (by simp)
      rw [if_pos c16] at H
      have LMc16 := Aside0.mk c16
      clear c16
      obtain ⟨y326, hy326⟩ : ∃ y_ : List Int, y_ = (aW ++ y323) := ⟨_, rfl⟩
      replace H : (a7.l0 kj6 a0 y326 (wrap64 (aj + 1))) = some r := by first | (rw [hy326]; with_reducible exact H) | (have H2_ := (Option.bind_some _ _).symm.trans H; rw [hy326]; with_reducible exact H2_) | (have H2_ := (Option.bind_some _ _).symm.trans H; with_reducible exact H2_) | with_reducible exact H | (rw [hy326]; exact H) | exact H
      have Ny326 := Aside0.mk hy326
      clear hy326
      have H' := Aside0.mk H
      clear H
      go_wp2_with (first | ((with_reducible refine gate_dst (N := 35) rfl ?_); refine Kd.R_lit (Kd.int .u8) _ 5 ?hg (N := 35) ?hd (xs := ([92, 98] : List Int)) (inner := [.int .u8 92, .int .u8 98]) (ok := fun _ => True) (okp := fun _ => True) ?hr ?hp (fun _ hk => hk) trivial (Below.refl _ _) (Nat.le_refl _) (by simp) ?_; (case hd => rfl); (case hg => rfl); (case hr => exact p9z); (case hp => exact (Reps.one (show Kd.M (Kd.int .u8) _ _ _ 92 [.int .u8 92] from rfl) (Reps.one (show Kd.M (Kd.int .u8) _ _ _ 98 [.int .u8 98] from rfl) (Reps.none _ _)))); intro v324 w17 ho18 hb hg_ hnew_; clear hg_ hnew_; (first | rw [← Ny323.out] at ho18 | (simp only [Int.reduceToNat] at ho18; rw [← Ny323.out] at ho18)); have z_ := asi3 (Kd.R_elder' p23z (Kd.R_base ho18) hb) (Kd.R_lower (Kd.R_new' ho18 (Kd.R_lt p23z)) (below_size p0z)) (below_step p0z hb); clear cX HB; obtain ⟨cX, fB, HB⟩ := z_; clear hb ho18; obtain ⟨Ao20, co20, eo20⟩ := Kd.R_slice fB.out; subst eo20) | ((with_reducible refine gate_builtin (b := .append) (xs := #[.tmp 34, .tmp 35]) rfl ?_); at_builtin; refine Kd.R_append_rows (Kd.int .u8) (w0 := w) w.heap.size rfl (.tmp 34) (.tmp 35) 23 5 (.int .u8 0) 1 rfl Tryz.underlying23 info5 rfl (by decide) (by omega) u3 aW y323 _ _ _ (fun k_ => some k_ ≠ (.slice Ao20 y323.length co20 : Value).ownBlock) (fun _ => False) rfl rfl ?aO ?aR (fun _ _ h => h) (fun _ h => h.elim) ?aF ?aB ?aS ?aL ?_; (case aR => repeat (first | exact (Kd.R_reads' fB.out).2.2 | (with_reducible refine Kd.C_alloc ?_ _) | (with_reducible refine Kd.C_drewN ?_ _) | (with_reducible refine Kd.C_drew ?_))); (case aB => exact p0z); (case aF => exact (fun k_ hk => Kd.fresh' (Kd.R_lt (q0z fB.out)) k_ hk)); (case aO => exact p48z); (case aS => exact (below_size p0z)); (case aL => have := LMc16.out; omega); intro v327 w19 ho hb hg hat; rw [← Ny326.out] at ho; have z_ := asi3 (Kd.R_after (ok := (fun _ => True)) (q0z fB.out) hg hat) (hb) (ho); clear fB HB cX; obtain ⟨fB, HB, HO328⟩ := z_; clear ho hb hg hat))
      go_roundg kj6
      case measure => have := HK1.out; have := HJ6.out; omega
      case rel => exact ⟨(y326), (wrap64 (aj + 1)), p5z, H', ⟨p97z⟩, ⟨by (with_reducible repeat (first | apply Kd.R_alloc | apply Kd.R_drewN | apply Kd.R_drew)); exact Kd.R_mono HO328.out (fun _ hk => trivial)⟩, ⟨p0z⟩⟩
     rw [if_neg c15] at H
     have dA : ((bt a0 aj) == 8) = false := beq_eq_false_iff_ne.mpr c15
     have c15b1 : ((bt a0 aj) != 8) = true := bne_iff_ne.mpr c15
     by_cases c21 : (bt a0 aj) = 12
     case pos =>
      rw [if_pos c21] at H
      have fC : ((bt a0 aj) == 12) = true := beq_iff_eq.mpr c21
      have c21b1 : ((bt a0 aj) != 12) = false := bne_eq_false_iff_eq.mpr c21
      clear c21
      obtain ⟨y329, hy329⟩ : ∃ y_ : List Int, y_ = (([92, 102] : List Int)) := ⟨_, rfl⟩
      replace H : (if aW.length + y329.length < 140737488355328 then (a7.l0 kj6 a0 (aW ++ y329) (wrap64 (aj + 1))) else (none)) = some r := by first | (rw [hy329]; with_reducible exact H) | (have H2_ := (Option.bind_some _ _).symm.trans H; rw [hy329]; with_reducible exact H2_) | (have H2_ := (Option.bind_some _ _).symm.trans H; with_reducible exact H2_) | with_reducible exact H | (rw [hy329]; exact H) | exact H
      have Ny329 := Aside0.mk hy329
      clear hy329
      by_cases c22 : aW.length + y329.length < 140737488355328
      case neg =>
       rw [if_neg c22] at H
       exact absurd H (by simp)
      rw [if_pos c22] at H
      have LMc22 := Aside0.mk c22
      clear c22
      obtain ⟨y332, hy332⟩ : ∃ y_ : List Int, y_ = (aW ++ y329) := ⟨_, rfl⟩
      replace H : (a7.l0 kj6 a0 y332 (wrap64 (aj + 1))) = some r := by first | (rw [hy332]; with_reducible exact H) | (have H2_ := (Option.bind_some _ _).symm.trans H; rw [hy332]; with_reducible exact H2_) | (have H2_ := (Option.bind_some _ _).symm.trans H; with_reducible exact H2_) | with_reducible exact H | (rw [hy332]; exact H) | exact H
      have Ny332 := Aside0.mk hy332
      clear hy332
      have H' := Aside0.mk H
      clear H
      go_wp2_with (first | ((with_reducible refine gate_dst (N := 41) rfl ?_); refine Kd.R_lit (Kd.int .u8) _ 5 ?hg (N := 41) ?hd (xs := ([92, 102] : List Int)) (inner := [.int .u8 92, .int .u8 102]) (ok := fun _ => True) (okp := fun _ => True) ?hr ?hp (fun _ hk => hk) trivial (Below.refl _ _) (Nat.le_refl _) (by simp) ?_; (case hd => rfl); (case hg => rfl); (case hr => exact p9z); (case hp => exact (Reps.one (show Kd.M (Kd.int .u8) _ _ _ 92 [.int .u8 92] from rfl) (Reps.one (show Kd.M (Kd.int .u8) _ _ _ 102 [.int .u8 102] from rfl) (Reps.none _ _)))); intro v330 w23 ho24 hb hg_ hnew_; clear hg_ hnew_; (first | rw [← Ny329.out] at ho24 | (simp only [Int.reduceToNat] at ho24; rw [← Ny329.out] at ho24)); have z_ := asi3 (Kd.R_elder' p23z (Kd.R_base ho24) hb) (Kd.R_lower (Kd.R_new' ho24 (Kd.R_lt p23z)) (below_size p0z)) (below_step p0z hb); clear cX HB; obtain ⟨cX, fD, HB⟩ := z_; clear hb ho24; obtain ⟨Ao26, co26, eo26⟩ := Kd.R_slice fD.out; subst eo26) | ((with_reducible refine gate_builtin (b := .append) (xs := #[.tmp 40, .tmp 41]) rfl ?_); at_builtin; refine Kd.R_append_rows (Kd.int .u8) (w0 := w) w.heap.size rfl (.tmp 40) (.tmp 41) 23 5 (.int .u8 0) 1 rfl Tryz.underlying23 info5 rfl (by decide) (by omega) u3 aW y329 _ _ _ (fun k_ => some k_ ≠ (.slice Ao26 y329.length co26 : Value).ownBlock) (fun _ => False) rfl rfl ?aO ?aR (fun _ _ h => h) (fun _ h => h.elim) ?aF ?aB ?aS ?aL ?_; (case aR => repeat (first | exact (Kd.R_reads' fD.out).2.2 | (with_reducible refine Kd.C_alloc ?_ _) | (with_reducible refine Kd.C_drewN ?_ _) | (with_reducible refine Kd.C_drew ?_))); (case aB => exact p0z); (case aF => exact (fun k_ hk => Kd.fresh' (Kd.R_lt (q0z fD.out)) k_ hk)); (case aO => exact p48z); (case aS => exact (below_size p0z)); (case aL => have := LMc22.out; omega); intro v333 w25 ho hb hg hat; rw [← Ny332.out] at ho; have z_ := asi3 (Kd.R_after (ok := (fun _ => True)) (q0z fD.out) hg hat) (hb) (ho); clear fD HB cX; obtain ⟨fD, HB, HO334⟩ := z_; clear ho hb hg hat))
      go_roundg kj6
      case measure => have := HK1.out; have := HJ6.out; omega
      case rel => exact ⟨(y332), (wrap64 (aj + 1)), p5z, H', ⟨p97z⟩, ⟨by (with_reducible repeat (first | apply Kd.R_alloc | apply Kd.R_drewN | apply Kd.R_drew)); exact Kd.R_mono HO334.out (fun _ hk => trivial)⟩, ⟨p0z⟩⟩
     rw [if_neg c21] at H
     have fC : ((bt a0 aj) == 12) = false := beq_eq_false_iff_ne.mpr c21
     have c21b1 : ((bt a0 aj) != 12) = true := bne_iff_ne.mpr c21
     by_cases c27 : (bt a0 aj) = 10
     case pos =>
      rw [if_pos c27] at H
      have c27b0 : ((bt a0 aj) == 10) = true := beq_iff_eq.mpr c27
      have c27b1 : ((bt a0 aj) != 10) = false := bne_eq_false_iff_eq.mpr c27
      clear c27
      obtain ⟨y335, hy335⟩ : ∃ y_ : List Int, y_ = (([92, 110] : List Int)) := ⟨_, rfl⟩
      replace H : (if aW.length + y335.length < 140737488355328 then (a7.l0 kj6 a0 (aW ++ y335) (wrap64 (aj + 1))) else (none)) = some r := by first | (rw [hy335]; with_reducible exact H) | (have H2_ := (Option.bind_some _ _).symm.trans H; rw [hy335]; with_reducible exact H2_) | (have H2_ := (Option.bind_some _ _).symm.trans H; with_reducible exact H2_) | with_reducible exact H | (rw [hy335]; exact H) | exact H
      have Ny335 := Aside0.mk hy335
      clear hy335
      by_cases c28 : aW.length + y335.length < 140737488355328
      case neg =>
       rw [if_neg c28] at H
       exact absurd H (by simp)
      rw [if_pos c28] at H
      have LMc28 := Aside0.mk c28
      clear c28
      obtain ⟨y338, hy338⟩ : ∃ y_ : List Int, y_ = (aW ++ y335) := ⟨_, rfl⟩
      replace H : (a7.l0 kj6 a0 y338 (wrap64 (aj + 1))) = some r := by first | (rw [hy338]; with_reducible exact H) | (have H2_ := (Option.bind_some _ _).symm.trans H; rw [hy338]; with_reducible exact H2_) | (have H2_ := (Option.bind_some _ _).symm.trans H; with_reducible exact H2_) | with_reducible exact H | (rw [hy338]; exact H) | exact H
      have Ny338 := Aside0.mk hy338
      clear hy338
      have H' := Aside0.mk H
      clear H
      go_wp2_with (first | ((with_reducible refine gate_dst (N := 47) rfl ?_); refine Kd.R_lit (Kd.int .u8) _ 5 ?hg (N := 47) ?hd (xs := ([92, 110] : List Int)) (inner := [.int .u8 92, .int .u8 110]) (ok := fun _ => True) (okp := fun _ => True) ?hr ?hp (fun _ hk => hk) trivial (Below.refl _ _) (Nat.le_refl _) (by simp) ?_; (case hd => rfl); (case hg => rfl); (case hr => exact p9z); (case hp => exact (Reps.one (show Kd.M (Kd.int .u8) _ _ _ 92 [.int .u8 92] from rfl) (Reps.one (show Kd.M (Kd.int .u8) _ _ _ 110 [.int .u8 110] from rfl) (Reps.none _ _)))); intro v336 w29 ho30 hb hg_ hnew_; clear hg_ hnew_; (first | rw [← Ny335.out] at ho30 | (simp only [Int.reduceToNat] at ho30; rw [← Ny335.out] at ho30)); have z_ := asi3 (Kd.R_elder' p23z (Kd.R_base ho30) hb) (Kd.R_lower (Kd.R_new' ho30 (Kd.R_lt p23z)) (below_size p0z)) (below_step p0z hb); clear cX HB; obtain ⟨cX, fE, HB⟩ := z_; clear hb ho30; obtain ⟨eR, co32, eo32⟩ := Kd.R_slice fE.out; subst eo32) | ((with_reducible refine gate_builtin (b := .append) (xs := #[.tmp 46, .tmp 47]) rfl ?_); at_builtin; refine Kd.R_append_rows (Kd.int .u8) (w0 := w) w.heap.size rfl (.tmp 46) (.tmp 47) 23 5 (.int .u8 0) 1 rfl Tryz.underlying23 info5 rfl (by decide) (by omega) u3 aW y335 _ _ _ (fun k_ => some k_ ≠ (.slice eR y335.length co32 : Value).ownBlock) (fun _ => False) rfl rfl ?aO ?aR (fun _ _ h => h) (fun _ h => h.elim) ?aF ?aB ?aS ?aL ?_; (case aR => repeat (first | exact (Kd.R_reads' fE.out).2.2 | (with_reducible refine Kd.C_alloc ?_ _) | (with_reducible refine Kd.C_drewN ?_ _) | (with_reducible refine Kd.C_drew ?_))); (case aB => exact p0z); (case aF => exact (fun k_ hk => Kd.fresh' (Kd.R_lt (q0z fE.out)) k_ hk)); (case aO => exact p48z); (case aS => exact (below_size p0z)); (case aL => have := LMc28.out; omega); intro v339 w31 ho hb hg hat; rw [← Ny338.out] at ho; have z_ := asi3 (Kd.R_after (ok := (fun _ => True)) (q0z fE.out) hg hat) (hb) (ho); clear fE HB cX; obtain ⟨fE, HB, HO340⟩ := z_; clear ho hb hg hat))
      go_roundg kj6
      case measure => have := HK1.out; have := HJ6.out; omega
      case rel => exact ⟨(y338), (wrap64 (aj + 1)), p5z, H', ⟨p97z⟩, ⟨by (with_reducible repeat (first | apply Kd.R_alloc | apply Kd.R_drewN | apply Kd.R_drew)); exact Kd.R_mono HO340.out (fun _ hk => trivial)⟩, ⟨p0z⟩⟩
     rw [if_neg c27] at H
     have c27b0 : ((bt a0 aj) == 10) = false := beq_eq_false_iff_ne.mpr c27
     have c27b1 : ((bt a0 aj) != 10) = true := bne_iff_ne.mpr c27
     by_cases c33 : (bt a0 aj) = 13
     case pos =>
      rw [if_pos c33] at H
      have c33b0 : ((bt a0 aj) == 13) = true := beq_iff_eq.mpr c33
      have c33b1 : ((bt a0 aj) != 13) = false := bne_eq_false_iff_eq.mpr c33
      clear c33
      obtain ⟨y341, hy341⟩ : ∃ y_ : List Int, y_ = (([92, 114] : List Int)) := ⟨_, rfl⟩
      replace H : (if aW.length + y341.length < 140737488355328 then (a7.l0 kj6 a0 (aW ++ y341) (wrap64 (aj + 1))) else (none)) = some r := by first | (rw [hy341]; with_reducible exact H) | (have H2_ := (Option.bind_some _ _).symm.trans H; rw [hy341]; with_reducible exact H2_) | (have H2_ := (Option.bind_some _ _).symm.trans H; with_reducible exact H2_) | with_reducible exact H | (rw [hy341]; exact H) | exact H
      have Ny341 := Aside0.mk hy341
      clear hy341
      by_cases c34 : aW.length + y341.length < 140737488355328
      case neg =>
       rw [if_neg c34] at H
       exact absurd H (by simp)
      rw [if_pos c34] at H
      have LMc34 := Aside0.mk c34
      clear c34
      obtain ⟨y344, hy344⟩ : ∃ y_ : List Int, y_ = (aW ++ y341) := ⟨_, rfl⟩
      replace H : (a7.l0 kj6 a0 y344 (wrap64 (aj + 1))) = some r := by first | (rw [hy344]; with_reducible exact H) | (have H2_ := (Option.bind_some _ _).symm.trans H; rw [hy344]; with_reducible exact H2_) | (have H2_ := (Option.bind_some _ _).symm.trans H; with_reducible exact H2_) | with_reducible exact H | (rw [hy344]; exact H) | exact H
      have Ny344 := Aside0.mk hy344
      clear hy344
      have H' := Aside0.mk H
      clear H
      go_wp2_with (first | ((with_reducible refine gate_dst (N := 53) rfl ?_); refine Kd.R_lit (Kd.int .u8) _ 5 ?hg (N := 53) ?hd (xs := ([92, 114] : List Int)) (inner := [.int .u8 92, .int .u8 114]) (ok := fun _ => True) (okp := fun _ => True) ?hr ?hp (fun _ hk => hk) trivial (Below.refl _ _) (Nat.le_refl _) (by simp) ?_; (case hd => rfl); (case hg => rfl); (case hr => exact p9z); (case hp => exact (Reps.one (show Kd.M (Kd.int .u8) _ _ _ 92 [.int .u8 92] from rfl) (Reps.one (show Kd.M (Kd.int .u8) _ _ _ 114 [.int .u8 114] from rfl) (Reps.none _ _)))); intro v342 w35 ho36 hb hg_ hnew_; clear hg_ hnew_; (first | rw [← Ny341.out] at ho36 | (simp only [Int.reduceToNat] at ho36; rw [← Ny341.out] at ho36)); have z_ := asi3 (Kd.R_elder' p23z (Kd.R_base ho36) hb) (Kd.R_lower (Kd.R_new' ho36 (Kd.R_lt p23z)) (below_size p0z)) (below_step p0z hb); clear cX HB; obtain ⟨cX, fF, HB⟩ := z_; clear hb ho36; obtain ⟨Ao38, co38, eo38⟩ := Kd.R_slice fF.out; subst eo38) | ((with_reducible refine gate_builtin (b := .append) (xs := #[.tmp 52, .tmp 53]) rfl ?_); at_builtin; refine Kd.R_append_rows (Kd.int .u8) (w0 := w) w.heap.size rfl (.tmp 52) (.tmp 53) 23 5 (.int .u8 0) 1 rfl Tryz.underlying23 info5 rfl (by decide) (by omega) u3 aW y341 _ _ _ (fun k_ => some k_ ≠ (.slice Ao38 y341.length co38 : Value).ownBlock) (fun _ => False) rfl rfl ?aO ?aR (fun _ _ h => h) (fun _ h => h.elim) ?aF ?aB ?aS ?aL ?_; (case aR => repeat (first | exact (Kd.R_reads' fF.out).2.2 | (with_reducible refine Kd.C_alloc ?_ _) | (with_reducible refine Kd.C_drewN ?_ _) | (with_reducible refine Kd.C_drew ?_))); (case aB => exact p0z); (case aF => exact (fun k_ hk => Kd.fresh' (Kd.R_lt (q0z fF.out)) k_ hk)); (case aO => exact p48z); (case aS => exact (below_size p0z)); (case aL => have := LMc34.out; omega); intro v345 w37 ho hb hg hat; rw [← Ny344.out] at ho; have z_ := asi3 (Kd.R_after (ok := (fun _ => True)) (q0z fF.out) hg hat) (hb) (ho); clear fF HB cX; obtain ⟨fF, HB, HO346⟩ := z_; clear ho hb hg hat))
      go_roundg kj6
      case measure => have := HK1.out; have := HJ6.out; omega
      case rel => exact ⟨(y344), (wrap64 (aj + 1)), p5z, H', ⟨p97z⟩, ⟨by (with_reducible repeat (first | apply Kd.R_alloc | apply Kd.R_drewN | apply Kd.R_drew)); exact Kd.R_mono HO346.out (fun _ hk => trivial)⟩, ⟨p0z⟩⟩
     rw [if_neg c33] at H
     have c33b0 : ((bt a0 aj) == 13) = false := beq_eq_false_iff_ne.mpr c33
     have c33b1 : ((bt a0 aj) != 13) = true := bne_iff_ne.mpr c33
     by_cases c39 : (bt a0 aj) = 9
     case pos =>
      rw [if_pos c39] at H
      have c39b0 : ((bt a0 aj) == 9) = true := beq_iff_eq.mpr c39
      have c39b1 : ((bt a0 aj) != 9) = false := bne_eq_false_iff_eq.mpr c39
      clear c39
      obtain ⟨y347, hy347⟩ : ∃ y_ : List Int, y_ = (([92, 116] : List Int)) := ⟨_, rfl⟩
      replace H : (if aW.length + y347.length < 140737488355328 then (a7.l0 kj6 a0 (aW ++ y347) (wrap64 (aj + 1))) else (none)) = some r := by first | (rw [hy347]; with_reducible exact H) | (have H2_ := (Option.bind_some _ _).symm.trans H; rw [hy347]; with_reducible exact H2_) | (have H2_ := (Option.bind_some _ _).symm.trans H; with_reducible exact H2_) | with_reducible exact H | (rw [hy347]; exact H) | exact H
      have Ny347 := Aside0.mk hy347
      clear hy347
      by_cases c40 : aW.length + y347.length < 140737488355328
      case neg =>
       rw [if_neg c40] at H
       exact absurd H (by simp)
      rw [if_pos c40] at H
      have LMc40 := Aside0.mk c40
      clear c40
      obtain ⟨y350, hy350⟩ : ∃ y_ : List Int, y_ = (aW ++ y347) := ⟨_, rfl⟩
      replace H : (a7.l0 kj6 a0 y350 (wrap64 (aj + 1))) = some r := by first | (rw [hy350]; with_reducible exact H) | (have H2_ := (Option.bind_some _ _).symm.trans H; rw [hy350]; with_reducible exact H2_) | (have H2_ := (Option.bind_some _ _).symm.trans H; with_reducible exact H2_) | with_reducible exact H | (rw [hy350]; exact H) | exact H
      have Ny350 := Aside0.mk hy350
      clear hy350
      have H' := Aside0.mk H
      clear H
      go_wp2_with (first | ((with_reducible refine gate_dst (N := 59) rfl ?_); refine Kd.R_lit (Kd.int .u8) _ 5 ?hg (N := 59) ?hd (xs := ([92, 116] : List Int)) (inner := [.int .u8 92, .int .u8 116]) (ok := fun _ => True) (okp := fun _ => True) ?hr ?hp (fun _ hk => hk) trivial (Below.refl _ _) (Nat.le_refl _) (by simp) ?_; (case hd => rfl); (case hg => rfl); (case hr => exact p9z); (case hp => exact (Reps.one (show Kd.M (Kd.int .u8) _ _ _ 92 [.int .u8 92] from rfl) (Reps.one (show Kd.M (Kd.int .u8) _ _ _ 116 [.int .u8 116] from rfl) (Reps.none _ _)))); intro v348 w41 ho42 hb hg_ hnew_; clear hg_ hnew_; (first | rw [← Ny347.out] at ho42 | (simp only [Int.reduceToNat] at ho42; rw [← Ny347.out] at ho42)); have z_ := asi3 (Kd.R_elder' p23z (Kd.R_base ho42) hb) (Kd.R_lower (Kd.R_new' ho42 (Kd.R_lt p23z)) (below_size p0z)) (below_step p0z hb); clear cX HB; obtain ⟨cX, fG, HB⟩ := z_; clear hb ho42; obtain ⟨Ao44, co44, eo44⟩ := Kd.R_slice fG.out; subst eo44) | ((with_reducible refine gate_builtin (b := .append) (xs := #[.tmp 58, .tmp 59]) rfl ?_); at_builtin; refine Kd.R_append_rows (Kd.int .u8) (w0 := w) w.heap.size rfl (.tmp 58) (.tmp 59) 23 5 (.int .u8 0) 1 rfl Tryz.underlying23 info5 rfl (by decide) (by omega) u3 aW y347 _ _ _ (fun k_ => some k_ ≠ (.slice Ao44 y347.length co44 : Value).ownBlock) (fun _ => False) rfl rfl ?aO ?aR (fun _ _ h => h) (fun _ h => h.elim) ?aF ?aB ?aS ?aL ?_; (case aR => repeat (first | exact (Kd.R_reads' fG.out).2.2 | (with_reducible refine Kd.C_alloc ?_ _) | (with_reducible refine Kd.C_drewN ?_ _) | (with_reducible refine Kd.C_drew ?_))); (case aB => exact p0z); (case aF => exact (fun k_ hk => Kd.fresh' (Kd.R_lt (q0z fG.out)) k_ hk)); (case aO => exact p48z); (case aS => exact (below_size p0z)); (case aL => have := LMc40.out; omega); intro v351 w43 ho hb hg hat; rw [← Ny350.out] at ho; have z_ := asi3 (Kd.R_after (ok := (fun _ => True)) (q0z fG.out) hg hat) (hb) (ho); clear fG HB cX; obtain ⟨fG, HB, HO352⟩ := z_; clear ho hb hg hat))
      go_roundg kj6
      case measure => have := HK1.out; have := HJ6.out; omega
      case rel => exact ⟨(y350), (wrap64 (aj + 1)), p5z, H', ⟨p97z⟩, ⟨by (with_reducible repeat (first | apply Kd.R_alloc | apply Kd.R_drewN | apply Kd.R_drew)); exact Kd.R_mono HO352.out (fun _ hk => trivial)⟩, ⟨p0z⟩⟩
     rw [if_neg c39] at H
     have c39b0 : ((bt a0 aj) == 9) = false := beq_eq_false_iff_ne.mpr c39
     have c39b1 : ((bt a0 aj) != 9) = true := bne_iff_ne.mpr c39
     by_cases c45 : (bt a0 aj) < 32
     case neg =>
      rw [if_neg c45] at H
      have jC : decide ((bt a0 aj) < 32) = false := decide_eq_false c45
      clear c45
      by_cases c60 : aW.length < 140737488355328
      case neg =>
       rw [if_neg c60] at H
       exact absurd H (by simp)
      rw [if_pos c60] at H
      have LMc60 := Aside0.mk c60
      clear c60
      obtain ⟨y359, hy359⟩ : ∃ y_ : List Int, y_ = (aW ++ [(bt a0 aj)]) := ⟨_, rfl⟩
      replace H : (a7.l0 kj6 a0 y359 (wrap64 (aj + 1))) = some r := by first | (rw [hy359]; with_reducible exact H) | (have H2_ := (Option.bind_some _ _).symm.trans H; rw [hy359]; with_reducible exact H2_) | (have H2_ := (Option.bind_some _ _).symm.trans H; with_reducible exact H2_) | with_reducible exact H | (rw [hy359]; exact H) | exact H
      have Ny359 := Aside0.mk hy359
      clear hy359
      have H' := Aside0.mk H
      clear H
      go_wp2_with (first | ((with_reducible refine gate_builtin (b := .append) (xs := #[.tmp 16, .tmp 18]) rfl ?_); at_builtin; refine Kd.R_append (Kd.int .u8) (w0 := w) w.heap.size rfl (.tmp 16) (.tmp 18) 23 5 (.int .u8 0) 1 rfl Tryz.underlying23 info5 rfl (by decide) (by omega) u3 aW (bt a0 aj) [.int .u8 (bt a0 aj)] (fun _ => True) (fun _ => False) rfl rfl ?aP (fun _ hk => hk.elim) ?aF ?aO ?aB ?aS ?aL ?_; (case aP => exact rfl); (case aB => exact p0z); (case aF => exact (fun _ _ => trivial)); (case aO => exact p23z); (case aS => exact (below_size p0z)); (case aL => have := LMc60.out; omega); intro v360 w61 ho hb hg hat; rw [← Ny359.out] at ho; have z_ := asi2 (hb) (ho); clear HB cX; obtain ⟨HB, HO361⟩ := z_; clear ho hb hg hat))
      go_roundg kj6
      case measure => have := HK1.out; have := HJ6.out; omega
      case rel => exact ⟨(y359), (wrap64 (aj + 1)), p5z, H', ⟨p97z⟩, ⟨q0z HO361.out⟩, ⟨p0z⟩⟩
     rw [if_pos c45] at H
     have jC : decide ((bt a0 aj) < 32) = true := decide_eq_true c45
     clear c45
     obtain ⟨ji46, hji46⟩ : ∃ j_ : Int, ((Int.tdiv (bt a0 aj) 16) % 256) = j_ := ⟨_, rfl⟩
     replace H : (if 0 ≤ (ji46) then (if (ji46) < 16 then (if 0 ≤ (Int.tmod (bt a0 aj) 16) then (if (Int.tmod (bt a0 aj) 16) < 16 then ((some (([92, 117, 48, 48, bt (⟨#[48, 49, 50, 51, 52, 53, 54, 55, 56, 57, 97, 98, 99, 100, 101, 102]⟩ : ByteArray) (ji46), bt (⟨#[48, 49, 50, 51, 52, 53, 54, 55, 56, 57, 97, 98, 99, 100, 101, 102]⟩ : ByteArray) (Int.tmod (bt a0 aj) 16)] : List Int) : List Int)).bind fun y353 => (if aW.length + y353.length < 140737488355328 then (a7.l0 kj6 a0 (aW ++ y353) (wrap64 (aj + 1))) else (none))) else (none)) else (none)) else (none)) else (none)) = some r := by first | (rw [hji46] at H; exact H) | (simp only [hji46] at H ⊢; exact H)
     by_cases c47 : 0 ≤ (ji46)
     case neg =>
      rw [if_neg c47] at H
      exact absurd H (by simp)
     rw [if_pos c47] at H
     have jD : decide (0 ≤ (ji46)) = true := decide_eq_true c47
     clear c47
     by_cases c48 : (ji46) < 16
     case neg =>
      rw [if_neg c48] at H
      exact absurd H (by simp)
     rw [if_pos c48] at H
     have c48b0 : decide ((ji46) < 16) = true := decide_eq_true c48
     clear c48
     obtain ⟨ji50, hji50⟩ : ∃ j_ : Int, (Int.tmod (bt a0 aj) 16) = j_ := ⟨_, rfl⟩
     replace H : (if 0 ≤ (ji50) then (if (ji50) < 16 then ((some (([92, 117, 48, 48, bt (⟨#[48, 49, 50, 51, 52, 53, 54, 55, 56, 57, 97, 98, 99, 100, 101, 102]⟩ : ByteArray) (ji46), bt (⟨#[48, 49, 50, 51, 52, 53, 54, 55, 56, 57, 97, 98, 99, 100, 101, 102]⟩ : ByteArray) (ji50)] : List Int) : List Int)).bind fun y353 => (if aW.length + y353.length < 140737488355328 then (a7.l0 kj6 a0 (aW ++ y353) (wrap64 (aj + 1))) else (none))) else (none)) else (none)) = some r := by first | (rw [hji50] at H; exact H) | (simp only [hji50] at H ⊢; exact H)
     by_cases c51 : 0 ≤ (ji50)
     case neg =>
      rw [if_neg c51] at H
      exact absurd H (by simp)
     rw [if_pos c51] at H
     have c51b0 : decide (0 ≤ (ji50)) = true := decide_eq_true c51
     clear c51
     by_cases c52 : (ji50) < 16
     case neg =>
      rw [if_neg c52] at H
      exact absurd H (by simp)
     rw [if_pos c52] at H
     have fH : decide ((ji50) < 16) = true := decide_eq_true c52
     clear c52
     obtain ⟨y353, hy353⟩ : ∃ y_ : List Int, y_ = (([92, 117, 48, 48, bt (⟨#[48, 49, 50, 51, 52, 53, 54, 55, 56, 57, 97, 98, 99, 100, 101, 102]⟩ : ByteArray) (ji46), bt (⟨#[48, 49, 50, 51, 52, 53, 54, 55, 56, 57, 97, 98, 99, 100, 101, 102]⟩ : ByteArray) (ji50)] : List Int)) := ⟨_, rfl⟩
     replace H : (if aW.length + y353.length < 140737488355328 then (a7.l0 kj6 a0 (aW ++ y353) (wrap64 (aj + 1))) else (none)) = some r := by first | (rw [hy353]; with_reducible exact H) | (have H2_ := (Option.bind_some _ _).symm.trans H; rw [hy353]; with_reducible exact H2_) | (have H2_ := (Option.bind_some _ _).symm.trans H; with_reducible exact H2_) | with_reducible exact H | (rw [hy353]; exact H) | exact H
     have Ny353 := Aside0.mk hy353
     clear hy353
     by_cases c54 : aW.length + y353.length < 140737488355328
     case neg =>
      rw [if_neg c54] at H
      exact absurd H (by simp)
     rw [if_pos c54] at H
     have LMc54 := Aside0.mk c54
     clear c54
     obtain ⟨y356, hy356⟩ : ∃ y_ : List Int, y_ = (aW ++ y353) := ⟨_, rfl⟩
     replace H : (a7.l0 kj6 a0 y356 (wrap64 (aj + 1))) = some r := by first | (rw [hy356]; with_reducible exact H) | (have H2_ := (Option.bind_some _ _).symm.trans H; rw [hy356]; with_reducible exact H2_) | (have H2_ := (Option.bind_some _ _).symm.trans H; with_reducible exact H2_) | with_reducible exact H | (rw [hy356]; exact H) | exact H
     have Ny356 := Aside0.mk hy356
     clear hy356
     have H' := Aside0.mk H
     clear H
     try go_wp2
     have n0_ := Aside0.mk (Kd.R_drew cX.out)
     have n1_ := Aside0.mk (below_drew1 HB.out)
     clear cX
     clear HB
     have cX := n0_
     have HB := n1_
     clear n0_ n1_
     have p49 : 0 ≤ ((ji46) : Int) := of_decide_eq_true p4z
     have q49 : (ji46) < (16 : Int) := of_decide_eq_true p4z
     have hx49 := bt_at (⟨#[48, 49, 50, 51, 52, 53, 54, 55, 56, 57, 97, 98, 99, 100, 101, 102]⟩ : ByteArray) (ji46)
     have e46 : IntKind.u8.wrap ((bt a0 aj).tdiv 16) = ji46 := by rw [← hji46]; rfl
     replace p49 := eq_true p49
     replace q49 := eq_true q49
     have p53 : 0 ≤ ((ji50) : Int) := of_decide_eq_true p4z
     have q53 : (ji50) < (16 : Int) := of_decide_eq_true p4z
     have hx53 := bt_at (⟨#[48, 49, 50, 51, 52, 53, 54, 55, 56, 57, 97, 98, 99, 100, 101, 102]⟩ : ByteArray) (ji50)
     have e50 : (bt a0 aj).tmod 16 = ji50 := hji50
     replace p53 := eq_true p53
     replace q53 := eq_true q53
     refine start_ (n := 10) (S := fun w' => True) (ds := []) (tf 0 10) p12z rfl rfl trivial (fun hHeld => ?_); refine with_tabW a7.tab20 a7.bits20 (fun HT_ HW_ => ?_)
     generalize wc.drew = w55 at cX HB hHeld ⊢
     refine pzz 0 (some 64) (tf 1 9) ?_
     refine pzz 1 (some 65) (tf 2 8) ?_
     refine pzz 2 (some 66) (tf 3 7) ?_
     refine pzz 4 (some 68) (tfs true [3, 1, 1, 5]) ?_
     refine pzz 5 (some 69) (tfs true [3, 1, 2, 4]) ?_
     refine take_ (i := 3) (N := some 67) (v := ?_) (a' := ?_) (tf 6 4) rfl rfl (take_ofW HT_.out HW_.out p12z) (fun _ _ _ h => h) (Or.inl ⟨by rfl, ?_⟩) hHeld ?_ ?_
     rotate_left
     ·intro w' _
      go_simp
      with_reducible rfl
     rotate_left
     ·exact p89z
     refine take_ (i := 6) (N := some 70) (v := ?_) (a' := ?_) (tf 7 3) rfl rfl (take_ofW HT_.out HW_.out p12z) (fun _ _ _ h => h) (Or.inl ⟨by rfl, ?_⟩) hHeld ?_ ?_
     rotate_left
     ·intro w' _
      go_simp
      with_reducible rfl
     rotate_left
     ·exact p89z
     refine one_ (i := 7) (N := some 71) (tf 8 2) rfl rfl (one_of HT_.out p12z) (by decide) (fun K hK => ?_)
     refine Kd.R_lit_step (Kd.int .u8) _ 5 ?hg (N := 71) ?hd (xs := ([92, 117, 48, 48, bt (⟨#[48, 49, 50, 51, 52, 53, 54, 55, 56, 57, 97, 98, 99, 100, 101, 102]⟩ : ByteArray) (ji46), bt (⟨#[48, 49, 50, 51, 52, 53, 54, 55, 56, 57, 97, 98, 99, 100, 101, 102]⟩ : ByteArray) (ji50)] : List Int)) (inner := [.int .u8 92, .int .u8 117, .int .u8 48, .int .u8 48, .int .u8 (bt (⟨#[48, 49, 50, 51, 52, 53, 54, 55, 56, 57, 97, 98, 99, 100, 101, 102]⟩ : ByteArray) (ji46)), .int .u8 (bt (⟨#[48, 49, 50, 51, 52, 53, 54, 55, 56, 57, 97, 98, 99, 100, 101, 102]⟩ : ByteArray) (ji50))]) (ok := fun _ => True) (okp := fun _ => True) ?hr ?hp (fun _ hk => hk) trivial (Below.refl _ _) (Nat.le_refl _) (by simp) ?_; (case hd => rfl); (case hg => rfl); (case hr => exact p9z); (case hp => exact (Reps.one (show Kd.M (Kd.int .u8) _ _ _ 92 [.int .u8 92] from rfl) (Reps.one (show Kd.M (Kd.int .u8) _ _ _ 117 [.int .u8 117] from rfl) (Reps.one (show Kd.M (Kd.int .u8) _ _ _ 48 [.int .u8 48] from rfl) (Reps.one (show Kd.M (Kd.int .u8) _ _ _ 48 [.int .u8 48] from rfl) (Reps.one (show Kd.M (Kd.int .u8) _ _ _ (bt (⟨#[48, 49, 50, 51, 52, 53, 54, 55, 56, 57, 97, 98, 99, 100, 101, 102]⟩ : ByteArray) (ji46)) [.int .u8 (bt (⟨#[48, 49, 50, 51, 52, 53, 54, 55, 56, 57, 97, 98, 99, 100, 101, 102]⟩ : ByteArray) (ji46))] from rfl) (Reps.one (show Kd.M (Kd.int .u8) _ _ _ (bt (⟨#[48, 49, 50, 51, 52, 53, 54, 55, 56, 57, 97, 98, 99, 100, 101, 102]⟩ : ByteArray) (ji50)) [.int .u8 (bt (⟨#[48, 49, 50, 51, 52, 53, 54, 55, 56, 57, 97, 98, 99, 100, 101, 102]⟩ : ByteArray) (ji50))] from rfl) (Reps.none _ _))))))))
     intro v354 w56 ho57 hb hg_ hnew_
     clear hg_ hnew_
     (first | rw [← Ny353.out] at ho57 | (simp only [Int.reduceToNat] at ho57; rw [← Ny353.out] at ho57))
     have n0_ := Aside0.mk (Kd.R_elder' p23z (Kd.R_base ho57) hb)
     have n1_ := Aside0.mk (Kd.R_lower (Kd.R_new' ho57 (Kd.R_lt p23z)) (below_size p0z))
     have n2_ := Aside0.mk (below_step p0z hb)
     clear cX
     clear HB
     have cX := n0_
     have fI := n1_
     have HB := n2_
     clear n0_ n1_ n2_
     clear hb ho57
     obtain ⟨Ao59, co59, eo59⟩ := Kd.R_slice fI.out
     (first | subst eo59 | (injection eo59 with f1_ f2_ f3_; have f4_ := f1_.symm; have f5_ := f3_.symm; clear f1_ f2_ f3_; subst f4_; subst f5_))
     refine hK.out _ _ trivial (fun hHeld => ?_)
     clear hK K
     refine nzz (some 71) ?_
     refine one_ (i := 8) (N := some 72) (tf 9 1) rfl rfl (one_of HT_.out p12z) (by decide) (fun K hK => ?_)
     refine Kd.R_append_rows_step (Kd.int .u8) (w0 := w) w.heap.size (by rfl) (.tmp 64) (.tmp 71) 23 5 (.int .u8 0) 1 rfl Tryz.underlying23 info5 rfl (by decide) (by omega) u3 aW y353 _ _ _ (fun k_ => some k_ ≠ (.slice Ao59 y353.length co59 : Value).ownBlock) (fun _ => False) rfl rfl ?aO ?aR (fun _ _ h => h) (fun _ h => h.elim) ?aF ?aB ?aS ?aL ?_
     (case aR => repeat (first | exact (Kd.R_reads' fI.out).2.2 | (with_reducible refine Kd.C_alloc ?_ _) | (with_reducible refine Kd.C_drewN ?_ _) | (with_reducible refine Kd.C_drew ?_)))
     (case aB => exact p0z)
     (case aF => exact (fun k_ hk => Kd.fresh' (Kd.R_lt (q0z fI.out)) k_ hk))
     (case aO => exact p48z)
     (case aS => exact (below_size p0z))
     (case aL => have := LMc54.out; omega)
     intro v357 w58 ho hb hg hat
     rw [← Ny356.out] at ho
     have n0_ := Aside0.mk (Kd.R_after (ok := (fun _ => True)) (q0z fI.out) hg hat)
     have n1_ := Aside0.mk (hb)
     have n2_ := Aside0.mk (ho)
     clear fI
     clear HB
     clear cX
     have fI := n0_
     have HB := n1_
     have HO358 := n2_
     clear n0_ n1_ n2_
     clear ho hb hg hat
     refine hK.out _ _ trivial (fun hHeld => ?_)
     clear hK K
     refine nzz (some 72) ?_
     refine pzz 9 (some 3) (tf 10 0) ?_
     refine done_ (done_of HT_.out p12z) ?_
     try go_wp2
     go_roundg kj6
     case measure => have := HK1.out; have := HJ6.out; omega
     case rel => exact ⟨(y356), (wrap64 (aj + 1)), p5z, H', ⟨p97z⟩, ⟨by (with_reducible repeat (first | apply Kd.R_alloc | apply Kd.R_drewN | apply Kd.R_drew)); exact Kd.R_mono HO358.out (fun _ hk => trivial)⟩, ⟨p0z⟩⟩
end Go.Proofs.YtodnggilomanbaaGreatDoor.PAll
