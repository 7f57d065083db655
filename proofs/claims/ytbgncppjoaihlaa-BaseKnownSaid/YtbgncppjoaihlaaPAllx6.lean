-- Written by this repo's program wip/tools/pr.py (over the kit's print) out of the translation. Not trusted: Lean checks it.
import Derived.Test.YtbgncppjoaihlaaPAllx0
import Derived.Test.YtbgncppjoaihlaaPAllx2
import Derived.Test.YtbgncppjoaihlaaPAllx3
namespace Go.Proofs.Ytbgncppjoaihlaa.PAll
open Go.Proofs.Ytbgncppjoaihlaa.Hand
open Go.RowKit Go.Proofs.YtbgncppjoaihlaaW.PrintWords Go.Proofs.YtbgncppjoaihlaaW.PrintLast Go.Proofs.YtbgncppjoaihlaaW.PrintMore
attribute [local go_sem] max2_int min2_int max_two min_two max_three min_three max_four min_four   -- for this text's walks alone
set_option linter.unusedVariables false
set_option linter.unusedSimpArgs false

/-! ### signetrylaw15_BaseKnown: function 10 -/
mutual
def signetrylaw15_BaseKnown.l0 : Nat → Int → Option (Bool)
  | 0, _ => none
  | k + 1, x1 => if x1 < 256 then ((some (([(x1) % 256] : List Int) : List Int)).bind fun y221 => (if (strOfNums y221).size + 3 ≤ 9223372036854775807 then ((signetrylaw15_BaseReads.f k ((strOfNums y221) ++ (⟨#[65, 61, 61]⟩ : ByteArray))).bind fun t224 => (if t224 = true then (if 1 + (strOfNums y221).size ≤ 9223372036854775807 then (if ((⟨#[65]⟩ : ByteArray) ++ (strOfNums y221)).size + 2 ≤ 9223372036854775807 then ((signetrylaw15_BaseReads.f k (((⟨#[65]⟩ : ByteArray) ++ (strOfNums y221)) ++ (⟨#[61, 61]⟩ : ByteArray))).bind fun t225 => (if t225 = true then (if 2 + (strOfNums y221).size ≤ 9223372036854775807 then (if ((⟨#[65, 65]⟩ : ByteArray) ++ (strOfNums y221)).size + 1 ≤ 9223372036854775807 then ((signetrylaw15_BaseReads.f k (((⟨#[65, 65]⟩ : ByteArray) ++ (strOfNums y221)) ++ (⟨#[61]⟩ : ByteArray))).bind fun t226 => (if t226 = true then (if 3 + (strOfNums y221).size ≤ 9223372036854775807 then ((signetrylaw15_BaseReads.f k ((⟨#[65, 65, 65]⟩ : ByteArray) ++ (strOfNums y221))).bind fun t227 => (if t227 = true then (if 4 + (strOfNums y221).size ≤ 9223372036854775807 then ((signetrylaw15_BaseReads.f k ((⟨#[65, 65, 65, 65]⟩ : ByteArray) ++ (strOfNums y221))).bind fun t228 => (if t228 = true then (if 8 + (strOfNums y221).size ≤ 9223372036854775807 then (if ((⟨#[65, 65, 65, 65, 65, 65, 65, 65]⟩ : ByteArray) ++ (strOfNums y221)).size + 3 ≤ 9223372036854775807 then ((signetrylaw15_BaseReads.f k (((⟨#[65, 65, 65, 65, 65, 65, 65, 65]⟩ : ByteArray) ++ (strOfNums y221)) ++ (⟨#[65, 65, 65]⟩ : ByteArray))).bind fun t229 => (if t229 = true then ((signetrylaw15_BaseReads.f k ((⟨#[65, 65, 61]⟩ : ByteArray) ++ (strOfNums y221))).bind fun t230 => (if t230 = true then ((signetrylaw15_BaseWrites.f k (([(x1) % 256] : List Int)) x1).bind fun t234 => (if t234 = true then ((signetrylaw15_BaseWrites.f k (([1, (x1) % 256] : List Int)) (wrap64 (-x1))).bind fun t238 => (if t238 = true then ((signetrylaw15_BaseWrites.f k (([1, 2, (x1) % 256, 3] : List Int)) (wrap64 (x1 * 3))).bind fun t242 => (if t242 = true then (signetrylaw15_BaseKnown.l0 k (wrap64 (x1 + 1))) else (none))) else (none))) else (none))) else (none))) else (none))) else (none)) else (none)) else (none))) else (none)) else (none))) else (none)) else (none))) else (none)) else (none)) else (none))) else (none)) else (none)) else (none))) else (none))) else (signetrylaw15_BaseKnown.l1 k (([(-9223372036854775808), (-1), 0, 1, 2, 3, 9007199254740991, 9007199254740992, 9223372036854775807] : List Int)) 0)
def signetrylaw15_BaseKnown.l1 : Nat → List Int → Int → Option (Bool)
  | 0, _, _ => none
  | k + 1, x3, x4 => if x4 < (x3.length : Int) then (if 0 ≤ x4 then ((signetrylaw15_BaseWrites.f k ([] : List Int) (rd x3 x4)).bind fun t247 => (if t247 = true then (signetrylaw15_BaseKnown.l1 k x3 (wrap64 (x4 + 1))) else (none))) else (none)) else (if 2097156 ≤ 281474976710656 then (signetrylaw15_BaseKnown.l2 k (List.replicate 2097156 0) 0) else (none))
def signetrylaw15_BaseKnown.l2 : Nat → List Int → Int → Option (Bool)
  | 0, _, _ => none
  | k + 1, x5, x6 => if x6 < (x5.length : Int) then (if 0 ≤ x6 then (signetrylaw15_BaseKnown.l2 k (x5.set (x6 : Int).toNat 65) (wrap64 (x6 + 1))) else (none)) else ((base_Bytes.f (strOfNums x5)).bind fun bt252 => (if 4 ≤ (x5.length : Int) then ((base_Bytes.f (strOfNums (x5.drop 4))).bind fun bt260 => ((signetrylaw15_works.f).bind fun t264 => (if t264 = true then (if bt252.2 = 5 then (if bt260.2 = 0 then (some ((bt260.1.length : Int) == 1572864)) else (none)) else (none)) else (none)))) else (none)))
end
def signetrylaw15_BaseKnown.f (k : Nat)  : Option (Bool) := signetrylaw15_BaseKnown.l0 k 0
theorem signetrylaw15_BaseKnown.mono_l : ∀ k, (∀ y0, LeO (signetrylaw15_BaseKnown.l0 k y0) (signetrylaw15_BaseKnown.l0 (k + 1) y0)) ∧ (∀ y0 y1, LeO (signetrylaw15_BaseKnown.l1 k y0 y1) (signetrylaw15_BaseKnown.l1 (k + 1) y0 y1)) ∧ (∀ y0 y1, LeO (signetrylaw15_BaseKnown.l2 k y0 y1) (signetrylaw15_BaseKnown.l2 (k + 1) y0 y1))
  | 0 => ⟨fun _ r h => by simp [signetrylaw15_BaseKnown.l0] at h, fun _ _ r h => by simp [signetrylaw15_BaseKnown.l1] at h, fun _ _ r h => by simp [signetrylaw15_BaseKnown.l2] at h⟩
  | k + 1 => by
    obtain ⟨ih0, ih1, ih2⟩ := signetrylaw15_BaseKnown.mono_l k
    refine ⟨?_, ?_, ?_⟩
    · intro y0
      unfold signetrylaw15_BaseKnown.l0
      repeat' first
      | (with_reducible exact ih0 _)
      | (with_reducible exact ih1 _ _)
      | (with_reducible exact ih2 _ _)
      | (with_reducible exact signetrylaw15_BaseReads.mono _ _)
      | (with_reducible exact signetrylaw15_BaseWrites.mono _ _ _)
      | (with_reducible exact LeO.refl _)
      | (with_reducible exact LeO.none _)
      | (with_reducible refine LeO.ite ?_ ?_)
      | (with_reducible refine LeO.bind ?_ (fun _ => ?_))
      | exact ih0 _
      | exact ih1 _ _
      | exact ih2 _ _
      | exact signetrylaw15_BaseReads.mono _ _
      | exact signetrylaw15_BaseWrites.mono _ _ _
      | exact LeO.none _
      | refine LeO.ite ?_ ?_
      | refine LeO.bind ?_ (fun _ => ?_)
    · intro y0 y1
      unfold signetrylaw15_BaseKnown.l1
      repeat' first
      | (with_reducible exact ih0 _)
      | (with_reducible exact ih1 _ _)
      | (with_reducible exact ih2 _ _)
      | (with_reducible exact signetrylaw15_BaseReads.mono _ _)
      | (with_reducible exact signetrylaw15_BaseWrites.mono _ _ _)
      | (with_reducible exact LeO.refl _)
      | (with_reducible exact LeO.none _)
      | (with_reducible refine LeO.ite ?_ ?_)
      | (with_reducible refine LeO.bind ?_ (fun _ => ?_))
      | exact ih0 _
      | exact ih1 _ _
      | exact ih2 _ _
      | exact signetrylaw15_BaseReads.mono _ _
      | exact signetrylaw15_BaseWrites.mono _ _ _
      | exact LeO.none _
      | refine LeO.ite ?_ ?_
      | refine LeO.bind ?_ (fun _ => ?_)
    · intro y0 y1
      unfold signetrylaw15_BaseKnown.l2
      repeat' first
      | (with_reducible exact ih0 _)
      | (with_reducible exact ih1 _ _)
      | (with_reducible exact ih2 _ _)
      | (with_reducible exact signetrylaw15_BaseReads.mono _ _)
      | (with_reducible exact signetrylaw15_BaseWrites.mono _ _ _)
      | (with_reducible exact LeO.refl _)
      | (with_reducible exact LeO.none _)
      | (with_reducible refine LeO.ite ?_ ?_)
      | (with_reducible refine LeO.bind ?_ (fun _ => ?_))
      | exact ih0 _
      | exact ih1 _ _
      | exact ih2 _ _
      | exact signetrylaw15_BaseReads.mono _ _
      | exact signetrylaw15_BaseWrites.mono _ _ _
      | exact LeO.none _
      | refine LeO.ite ?_ ?_
      | refine LeO.bind ?_ (fun _ => ?_)
theorem signetrylaw15_BaseKnown.mono : ∀ k, LeO (signetrylaw15_BaseKnown.f k ) (signetrylaw15_BaseKnown.f (k + 1) ) := by
  intro  k
  obtain ⟨ih0, ih1, ih2⟩ := signetrylaw15_BaseKnown.mono_l k
  unfold signetrylaw15_BaseKnown.f
  repeat' first
      | (with_reducible exact ih0 _)
      | (with_reducible exact ih1 _ _)
      | (with_reducible exact ih2 _ _)
      | (with_reducible exact signetrylaw15_BaseReads.mono _ _)
      | (with_reducible exact signetrylaw15_BaseWrites.mono _ _ _)
      | (with_reducible exact LeO.refl _)
      | (with_reducible exact LeO.none _)
      | (with_reducible refine LeO.ite ?_ ?_)
      | (with_reducible refine LeO.bind ?_ (fun _ => ?_))
      | exact ih0 _
      | exact ih1 _ _
      | exact ih2 _ _
      | exact signetrylaw15_BaseReads.mono _ _
      | exact signetrylaw15_BaseWrites.mono _ _ _
      | exact LeO.none _
      | refine LeO.ite ?_ ?_
      | refine LeO.bind ?_ (fun _ => ?_)
set_option maxHeartbeats 8000000 in
set_option maxRecDepth 100000 in
theorem signetrylaw15_BaseKnown.calls (k : Nat)  (r : Bool) (w : World) (h : signetrylaw15_BaseKnown.f k  = some r) :
    Calls Try.prog 10 #[] w fun e w' => e = .returned (.bool r) ∧ Below w.heap.size w w' := by
  have HB := Aside0.mk (Below.refl w.heap.size w)
  have H : (signetrylaw15_BaseKnown.l0 k 0) = some r := h
  clear h
  have H' := Aside0.mk H
  clear H
  go_enter Try.func10, Try.ntmps10
  go_wp2
  go_loopg [1] k (fun kq v1 w' => ∃ (x1_1 : Int), v1 = .int .i64 x1_1 ∧ Aside0 (signetrylaw15_BaseKnown.l0 kq x1_1 = some r) ∧ Aside0 (kq ≤ k) ∧ Aside0 (Below w.heap.size w w'))
  case atStart => exact ⟨(0), (by first | rfl | (simp; done) | (simp [*]; done)), H', ⟨Nat.le_refl _⟩, ⟨by repeat (first | (with_reducible first | exact HB.out | apply below_alloc | apply pw_below_drewN | apply below_drew1) | exact HB.out)⟩⟩
  case round =>
    clear H'
    obtain ⟨x1_1, rfl, HA, HK1, HB⟩ := hrel
    cases gk with
    | zero => exact absurd HA.out (by simp [signetrylaw15_BaseKnown.l0])
    | succ k1 =>
      have H := HA.out
      clear HA
      simp only [signetrylaw15_BaseKnown.l0] at H
      by_cases c1 : x1_1 < 256
      · rw [if_pos c1] at H
        have c1b0 : decide (x1_1 < 256) = true := decide_eq_true c1
        clear c1
        obtain ⟨y221, hy221⟩ : ∃ y_ : List Int, y_ = (([(x1_1) % 256] : List Int)) := ⟨_, rfl⟩
        replace H : (if (strOfNums y221).size + 3 ≤ 9223372036854775807 then ((signetrylaw15_BaseReads.f k1 ((strOfNums y221) ++ (⟨#[65, 61, 61]⟩ : ByteArray))).bind fun t224 => (if t224 = true then (if 1 + (strOfNums y221).size ≤ 9223372036854775807 then (if ((⟨#[65]⟩ : ByteArray) ++ (strOfNums y221)).size + 2 ≤ 9223372036854775807 then ((signetrylaw15_BaseReads.f k1 (((⟨#[65]⟩ : ByteArray) ++ (strOfNums y221)) ++ (⟨#[61, 61]⟩ : ByteArray))).bind fun t225 => (if t225 = true then (if 2 + (strOfNums y221).size ≤ 9223372036854775807 then (if ((⟨#[65, 65]⟩ : ByteArray) ++ (strOfNums y221)).size + 1 ≤ 9223372036854775807 then ((signetrylaw15_BaseReads.f k1 (((⟨#[65, 65]⟩ : ByteArray) ++ (strOfNums y221)) ++ (⟨#[61]⟩ : ByteArray))).bind fun t226 => (if t226 = true then (if 3 + (strOfNums y221).size ≤ 9223372036854775807 then ((signetrylaw15_BaseReads.f k1 ((⟨#[65, 65, 65]⟩ : ByteArray) ++ (strOfNums y221))).bind fun t227 => (if t227 = true then (if 4 + (strOfNums y221).size ≤ 9223372036854775807 then ((signetrylaw15_BaseReads.f k1 ((⟨#[65, 65, 65, 65]⟩ : ByteArray) ++ (strOfNums y221))).bind fun t228 => (if t228 = true then (if 8 + (strOfNums y221).size ≤ 9223372036854775807 then (if ((⟨#[65, 65, 65, 65, 65, 65, 65, 65]⟩ : ByteArray) ++ (strOfNums y221)).size + 3 ≤ 9223372036854775807 then ((signetrylaw15_BaseReads.f k1 (((⟨#[65, 65, 65, 65, 65, 65, 65, 65]⟩ : ByteArray) ++ (strOfNums y221)) ++ (⟨#[65, 65, 65]⟩ : ByteArray))).bind fun t229 => (if t229 = true then ((signetrylaw15_BaseReads.f k1 ((⟨#[65, 65, 61]⟩ : ByteArray) ++ (strOfNums y221))).bind fun t230 => (if t230 = true then ((signetrylaw15_BaseWrites.f k1 (([(x1_1) % 256] : List Int)) x1_1).bind fun t234 => (if t234 = true then ((signetrylaw15_BaseWrites.f k1 (([1, (x1_1) % 256] : List Int)) (wrap64 (-x1_1))).bind fun t238 => (if t238 = true then ((signetrylaw15_BaseWrites.f k1 (([1, 2, (x1_1) % 256, 3] : List Int)) (wrap64 (x1_1 * 3))).bind fun t242 => (if t242 = true then (signetrylaw15_BaseKnown.l0 k1 (wrap64 (x1_1 + 1))) else (none))) else (none))) else (none))) else (none))) else (none))) else (none)) else (none)) else (none))) else (none)) else (none))) else (none)) else (none))) else (none)) else (none)) else (none))) else (none)) else (none)) else (none))) else (none)) = some r := by first | (rw [hy221]; with_reducible exact H) | (have H2_ := (Option.bind_some _ _).symm.trans H; rw [hy221]; with_reducible exact H2_) | (have H2_ := (Option.bind_some _ _).symm.trans H; with_reducible exact H2_) | with_reducible exact H | (rw [hy221]; exact H) | exact H
        have Ny221 := Aside0.mk hy221
        clear hy221
        by_cases c2 : (strOfNums y221).size + 3 ≤ 9223372036854775807
        · rw [if_pos c2] at H
          have c2b0 := eq_true c2
          have c2b1 : decide ((strOfNums y221).size + 3 ≤ 9223372036854775807) = true := decide_eq_true c2
          try have c2b2 : (9223372036854775807 < (strOfNums y221).size + 3) = False := eq_false (Nat.not_lt.2 c2)
          replace H := Option.bind_eq_some_iff.mp H
          obtain ⟨t224, A30, H⟩ := H
          replace H : (if t224 = true then (if 1 + (strOfNums y221).size ≤ 9223372036854775807 then (if ((⟨#[65]⟩ : ByteArray) ++ (strOfNums y221)).size + 2 ≤ 9223372036854775807 then ((signetrylaw15_BaseReads.f k1 (((⟨#[65]⟩ : ByteArray) ++ (strOfNums y221)) ++ (⟨#[61, 61]⟩ : ByteArray))).bind fun t225 => (if t225 = true then (if 2 + (strOfNums y221).size ≤ 9223372036854775807 then (if ((⟨#[65, 65]⟩ : ByteArray) ++ (strOfNums y221)).size + 1 ≤ 9223372036854775807 then ((signetrylaw15_BaseReads.f k1 (((⟨#[65, 65]⟩ : ByteArray) ++ (strOfNums y221)) ++ (⟨#[61]⟩ : ByteArray))).bind fun t226 => (if t226 = true then (if 3 + (strOfNums y221).size ≤ 9223372036854775807 then ((signetrylaw15_BaseReads.f k1 ((⟨#[65, 65, 65]⟩ : ByteArray) ++ (strOfNums y221))).bind fun t227 => (if t227 = true then (if 4 + (strOfNums y221).size ≤ 9223372036854775807 then ((signetrylaw15_BaseReads.f k1 ((⟨#[65, 65, 65, 65]⟩ : ByteArray) ++ (strOfNums y221))).bind fun t228 => (if t228 = true then (if 8 + (strOfNums y221).size ≤ 9223372036854775807 then (if ((⟨#[65, 65, 65, 65, 65, 65, 65, 65]⟩ : ByteArray) ++ (strOfNums y221)).size + 3 ≤ 9223372036854775807 then ((signetrylaw15_BaseReads.f k1 (((⟨#[65, 65, 65, 65, 65, 65, 65, 65]⟩ : ByteArray) ++ (strOfNums y221)) ++ (⟨#[65, 65, 65]⟩ : ByteArray))).bind fun t229 => (if t229 = true then ((signetrylaw15_BaseReads.f k1 ((⟨#[65, 65, 61]⟩ : ByteArray) ++ (strOfNums y221))).bind fun t230 => (if t230 = true then ((signetrylaw15_BaseWrites.f k1 (([(x1_1) % 256] : List Int)) x1_1).bind fun t234 => (if t234 = true then ((signetrylaw15_BaseWrites.f k1 (([1, (x1_1) % 256] : List Int)) (wrap64 (-x1_1))).bind fun t238 => (if t238 = true then ((signetrylaw15_BaseWrites.f k1 (([1, 2, (x1_1) % 256, 3] : List Int)) (wrap64 (x1_1 * 3))).bind fun t242 => (if t242 = true then (signetrylaw15_BaseKnown.l0 k1 (wrap64 (x1_1 + 1))) else (none))) else (none))) else (none))) else (none))) else (none))) else (none)) else (none)) else (none))) else (none)) else (none))) else (none)) else (none))) else (none)) else (none)) else (none))) else (none)) else (none)) else (none)) = some r := H
          have A3 := Aside0.mk A30
          clear A30
          by_cases c4 : t224 = true
          · subst c4
            have H1 : (if 1 + (strOfNums y221).size ≤ 9223372036854775807 then (if ((⟨#[65]⟩ : ByteArray) ++ (strOfNums y221)).size + 2 ≤ 9223372036854775807 then ((signetrylaw15_BaseReads.f k1 (((⟨#[65]⟩ : ByteArray) ++ (strOfNums y221)) ++ (⟨#[61, 61]⟩ : ByteArray))).bind fun t225 => (if t225 = true then (if 2 + (strOfNums y221).size ≤ 9223372036854775807 then (if ((⟨#[65, 65]⟩ : ByteArray) ++ (strOfNums y221)).size + 1 ≤ 9223372036854775807 then ((signetrylaw15_BaseReads.f k1 (((⟨#[65, 65]⟩ : ByteArray) ++ (strOfNums y221)) ++ (⟨#[61]⟩ : ByteArray))).bind fun t226 => (if t226 = true then (if 3 + (strOfNums y221).size ≤ 9223372036854775807 then ((signetrylaw15_BaseReads.f k1 ((⟨#[65, 65, 65]⟩ : ByteArray) ++ (strOfNums y221))).bind fun t227 => (if t227 = true then (if 4 + (strOfNums y221).size ≤ 9223372036854775807 then ((signetrylaw15_BaseReads.f k1 ((⟨#[65, 65, 65, 65]⟩ : ByteArray) ++ (strOfNums y221))).bind fun t228 => (if t228 = true then (if 8 + (strOfNums y221).size ≤ 9223372036854775807 then (if ((⟨#[65, 65, 65, 65, 65, 65, 65, 65]⟩ : ByteArray) ++ (strOfNums y221)).size + 3 ≤ 9223372036854775807 then ((signetrylaw15_BaseReads.f k1 (((⟨#[65, 65, 65, 65, 65, 65, 65, 65]⟩ : ByteArray) ++ (strOfNums y221)) ++ (⟨#[65, 65, 65]⟩ : ByteArray))).bind fun t229 => (if t229 = true then ((signetrylaw15_BaseReads.f k1 ((⟨#[65, 65, 61]⟩ : ByteArray) ++ (strOfNums y221))).bind fun t230 => (if t230 = true then ((signetrylaw15_BaseWrites.f k1 (([(x1_1) % 256] : List Int)) x1_1).bind fun t234 => (if t234 = true then ((signetrylaw15_BaseWrites.f k1 (([1, (x1_1) % 256] : List Int)) (wrap64 (-x1_1))).bind fun t238 => (if t238 = true then ((signetrylaw15_BaseWrites.f k1 (([1, 2, (x1_1) % 256, 3] : List Int)) (wrap64 (x1_1 * 3))).bind fun t242 => (if t242 = true then (signetrylaw15_BaseKnown.l0 k1 (wrap64 (x1_1 + 1))) else (none))) else (none))) else (none))) else (none))) else (none))) else (none)) else (none)) else (none))) else (none)) else (none))) else (none)) else (none))) else (none)) else (none)) else (none))) else (none)) else (none)) = some r := by rw [if_pos rfl] at H; exact H
            clear H
            have H := H1
            clear H1
            by_cases c5 : 1 + (strOfNums y221).size ≤ 9223372036854775807
            · rw [if_pos c5] at H
              have c5b0 := eq_true c5
              have c5b1 : decide (1 + (strOfNums y221).size ≤ 9223372036854775807) = true := decide_eq_true c5
              try have c5b2 : (9223372036854775807 < 1 + (strOfNums y221).size) = False := eq_false (Nat.not_lt.2 c5)
              by_cases c6 : ((⟨#[65]⟩ : ByteArray) ++ (strOfNums y221)).size + 2 ≤ 9223372036854775807
              · rw [if_pos c6] at H
                have c6b0 := eq_true c6
                have c6b1 : decide (((⟨#[65]⟩ : ByteArray) ++ (strOfNums y221)).size + 2 ≤ 9223372036854775807) = true := decide_eq_true c6
                try have c6b2 : (9223372036854775807 < ((⟨#[65]⟩ : ByteArray) ++ (strOfNums y221)).size + 2) = False := eq_false (Nat.not_lt.2 c6)
                try have c6b3 : (9223372036854775807 < (⟨#[65]⟩ : ByteArray).size + (strOfNums y221).size + 2) = False := by rw [← ByteArray.size_append]; exact c6b2
                try have c6b4 : (9223372036854775807 < 1 + (strOfNums y221).size + 2) = False := c6b3
                replace H := Option.bind_eq_some_iff.mp H
                obtain ⟨t225, A70, H⟩ := H
                replace H : (if t225 = true then (if 2 + (strOfNums y221).size ≤ 9223372036854775807 then (if ((⟨#[65, 65]⟩ : ByteArray) ++ (strOfNums y221)).size + 1 ≤ 9223372036854775807 then ((signetrylaw15_BaseReads.f k1 (((⟨#[65, 65]⟩ : ByteArray) ++ (strOfNums y221)) ++ (⟨#[61]⟩ : ByteArray))).bind fun t226 => (if t226 = true then (if 3 + (strOfNums y221).size ≤ 9223372036854775807 then ((signetrylaw15_BaseReads.f k1 ((⟨#[65, 65, 65]⟩ : ByteArray) ++ (strOfNums y221))).bind fun t227 => (if t227 = true then (if 4 + (strOfNums y221).size ≤ 9223372036854775807 then ((signetrylaw15_BaseReads.f k1 ((⟨#[65, 65, 65, 65]⟩ : ByteArray) ++ (strOfNums y221))).bind fun t228 => (if t228 = true then (if 8 + (strOfNums y221).size ≤ 9223372036854775807 then (if ((⟨#[65, 65, 65, 65, 65, 65, 65, 65]⟩ : ByteArray) ++ (strOfNums y221)).size + 3 ≤ 9223372036854775807 then ((signetrylaw15_BaseReads.f k1 (((⟨#[65, 65, 65, 65, 65, 65, 65, 65]⟩ : ByteArray) ++ (strOfNums y221)) ++ (⟨#[65, 65, 65]⟩ : ByteArray))).bind fun t229 => (if t229 = true then ((signetrylaw15_BaseReads.f k1 ((⟨#[65, 65, 61]⟩ : ByteArray) ++ (strOfNums y221))).bind fun t230 => (if t230 = true then ((signetrylaw15_BaseWrites.f k1 (([(x1_1) % 256] : List Int)) x1_1).bind fun t234 => (if t234 = true then ((signetrylaw15_BaseWrites.f k1 (([1, (x1_1) % 256] : List Int)) (wrap64 (-x1_1))).bind fun t238 => (if t238 = true then ((signetrylaw15_BaseWrites.f k1 (([1, 2, (x1_1) % 256, 3] : List Int)) (wrap64 (x1_1 * 3))).bind fun t242 => (if t242 = true then (signetrylaw15_BaseKnown.l0 k1 (wrap64 (x1_1 + 1))) else (none))) else (none))) else (none))) else (none))) else (none))) else (none)) else (none)) else (none))) else (none)) else (none))) else (none)) else (none))) else (none)) else (none)) else (none)) = some r := H
                have A7 := Aside0.mk A70
                clear A70
                by_cases c8 : t225 = true
                · subst c8
                  have H1 : (if 2 + (strOfNums y221).size ≤ 9223372036854775807 then (if ((⟨#[65, 65]⟩ : ByteArray) ++ (strOfNums y221)).size + 1 ≤ 9223372036854775807 then ((signetrylaw15_BaseReads.f k1 (((⟨#[65, 65]⟩ : ByteArray) ++ (strOfNums y221)) ++ (⟨#[61]⟩ : ByteArray))).bind fun t226 => (if t226 = true then (if 3 + (strOfNums y221).size ≤ 9223372036854775807 then ((signetrylaw15_BaseReads.f k1 ((⟨#[65, 65, 65]⟩ : ByteArray) ++ (strOfNums y221))).bind fun t227 => (if t227 = true then (if 4 + (strOfNums y221).size ≤ 9223372036854775807 then ((signetrylaw15_BaseReads.f k1 ((⟨#[65, 65, 65, 65]⟩ : ByteArray) ++ (strOfNums y221))).bind fun t228 => (if t228 = true then (if 8 + (strOfNums y221).size ≤ 9223372036854775807 then (if ((⟨#[65, 65, 65, 65, 65, 65, 65, 65]⟩ : ByteArray) ++ (strOfNums y221)).size + 3 ≤ 9223372036854775807 then ((signetrylaw15_BaseReads.f k1 (((⟨#[65, 65, 65, 65, 65, 65, 65, 65]⟩ : ByteArray) ++ (strOfNums y221)) ++ (⟨#[65, 65, 65]⟩ : ByteArray))).bind fun t229 => (if t229 = true then ((signetrylaw15_BaseReads.f k1 ((⟨#[65, 65, 61]⟩ : ByteArray) ++ (strOfNums y221))).bind fun t230 => (if t230 = true then ((signetrylaw15_BaseWrites.f k1 (([(x1_1) % 256] : List Int)) x1_1).bind fun t234 => (if t234 = true then ((signetrylaw15_BaseWrites.f k1 (([1, (x1_1) % 256] : List Int)) (wrap64 (-x1_1))).bind fun t238 => (if t238 = true then ((signetrylaw15_BaseWrites.f k1 (([1, 2, (x1_1) % 256, 3] : List Int)) (wrap64 (x1_1 * 3))).bind fun t242 => (if t242 = true then (signetrylaw15_BaseKnown.l0 k1 (wrap64 (x1_1 + 1))) else (none))) else (none))) else (none))) else (none))) else (none))) else (none)) else (none)) else (none))) else (none)) else (none))) else (none)) else (none))) else (none)) else (none)) = some r := by rw [if_pos rfl] at H; exact H
                  clear H
                  have H := H1
                  clear H1
                  by_cases c9 : 2 + (strOfNums y221).size ≤ 9223372036854775807
                  · rw [if_pos c9] at H
                    have c9b0 := eq_true c9
                    have c9b1 : decide (2 + (strOfNums y221).size ≤ 9223372036854775807) = true := decide_eq_true c9
                    try have c9b2 : (9223372036854775807 < 2 + (strOfNums y221).size) = False := eq_false (Nat.not_lt.2 c9)
                    by_cases c10 : ((⟨#[65, 65]⟩ : ByteArray) ++ (strOfNums y221)).size + 1 ≤ 9223372036854775807
                    · rw [if_pos c10] at H
                      have c10b0 := eq_true c10
                      have c10b1 : decide (((⟨#[65, 65]⟩ : ByteArray) ++ (strOfNums y221)).size + 1 ≤ 9223372036854775807) = true := decide_eq_true c10
                      try have c10b2 : (9223372036854775807 < ((⟨#[65, 65]⟩ : ByteArray) ++ (strOfNums y221)).size + 1) = False := eq_false (Nat.not_lt.2 c10)
                      try have c10b3 : (9223372036854775807 < (⟨#[65, 65]⟩ : ByteArray).size + (strOfNums y221).size + 1) = False := by rw [← ByteArray.size_append]; exact c10b2
                      try have c10b4 : (9223372036854775807 < 2 + (strOfNums y221).size + 1) = False := c10b3
                      replace H := Option.bind_eq_some_iff.mp H
                      obtain ⟨t226, A110, H⟩ := H
                      replace H : (if t226 = true then (if 3 + (strOfNums y221).size ≤ 9223372036854775807 then ((signetrylaw15_BaseReads.f k1 ((⟨#[65, 65, 65]⟩ : ByteArray) ++ (strOfNums y221))).bind fun t227 => (if t227 = true then (if 4 + (strOfNums y221).size ≤ 9223372036854775807 then ((signetrylaw15_BaseReads.f k1 ((⟨#[65, 65, 65, 65]⟩ : ByteArray) ++ (strOfNums y221))).bind fun t228 => (if t228 = true then (if 8 + (strOfNums y221).size ≤ 9223372036854775807 then (if ((⟨#[65, 65, 65, 65, 65, 65, 65, 65]⟩ : ByteArray) ++ (strOfNums y221)).size + 3 ≤ 9223372036854775807 then ((signetrylaw15_BaseReads.f k1 (((⟨#[65, 65, 65, 65, 65, 65, 65, 65]⟩ : ByteArray) ++ (strOfNums y221)) ++ (⟨#[65, 65, 65]⟩ : ByteArray))).bind fun t229 => (if t229 = true then ((signetrylaw15_BaseReads.f k1 ((⟨#[65, 65, 61]⟩ : ByteArray) ++ (strOfNums y221))).bind fun t230 => (if t230 = true then ((signetrylaw15_BaseWrites.f k1 (([(x1_1) % 256] : List Int)) x1_1).bind fun t234 => (if t234 = true then ((signetrylaw15_BaseWrites.f k1 (([1, (x1_1) % 256] : List Int)) (wrap64 (-x1_1))).bind fun t238 => (if t238 = true then ((signetrylaw15_BaseWrites.f k1 (([1, 2, (x1_1) % 256, 3] : List Int)) (wrap64 (x1_1 * 3))).bind fun t242 => (if t242 = true then (signetrylaw15_BaseKnown.l0 k1 (wrap64 (x1_1 + 1))) else (none))) else (none))) else (none))) else (none))) else (none))) else (none)) else (none)) else (none))) else (none)) else (none))) else (none)) else (none)) = some r := H
                      have A11 := Aside0.mk A110
                      clear A110
                      by_cases c12 : t226 = true
                      · subst c12
                        have H1 : (if 3 + (strOfNums y221).size ≤ 9223372036854775807 then ((signetrylaw15_BaseReads.f k1 ((⟨#[65, 65, 65]⟩ : ByteArray) ++ (strOfNums y221))).bind fun t227 => (if t227 = true then (if 4 + (strOfNums y221).size ≤ 9223372036854775807 then ((signetrylaw15_BaseReads.f k1 ((⟨#[65, 65, 65, 65]⟩ : ByteArray) ++ (strOfNums y221))).bind fun t228 => (if t228 = true then (if 8 + (strOfNums y221).size ≤ 9223372036854775807 then (if ((⟨#[65, 65, 65, 65, 65, 65, 65, 65]⟩ : ByteArray) ++ (strOfNums y221)).size + 3 ≤ 9223372036854775807 then ((signetrylaw15_BaseReads.f k1 (((⟨#[65, 65, 65, 65, 65, 65, 65, 65]⟩ : ByteArray) ++ (strOfNums y221)) ++ (⟨#[65, 65, 65]⟩ : ByteArray))).bind fun t229 => (if t229 = true then ((signetrylaw15_BaseReads.f k1 ((⟨#[65, 65, 61]⟩ : ByteArray) ++ (strOfNums y221))).bind fun t230 => (if t230 = true then ((signetrylaw15_BaseWrites.f k1 (([(x1_1) % 256] : List Int)) x1_1).bind fun t234 => (if t234 = true then ((signetrylaw15_BaseWrites.f k1 (([1, (x1_1) % 256] : List Int)) (wrap64 (-x1_1))).bind fun t238 => (if t238 = true then ((signetrylaw15_BaseWrites.f k1 (([1, 2, (x1_1) % 256, 3] : List Int)) (wrap64 (x1_1 * 3))).bind fun t242 => (if t242 = true then (signetrylaw15_BaseKnown.l0 k1 (wrap64 (x1_1 + 1))) else (none))) else (none))) else (none))) else (none))) else (none))) else (none)) else (none)) else (none))) else (none)) else (none))) else (none)) = some r := by rw [if_pos rfl] at H; exact H
                        clear H
                        have H := H1
                        clear H1
                        by_cases c13 : 3 + (strOfNums y221).size ≤ 9223372036854775807
                        · rw [if_pos c13] at H
                          have c13b0 := eq_true c13
                          have c13b1 : decide (3 + (strOfNums y221).size ≤ 9223372036854775807) = true := decide_eq_true c13
                          try have c13b2 : (9223372036854775807 < 3 + (strOfNums y221).size) = False := eq_false (Nat.not_lt.2 c13)
                          replace H := Option.bind_eq_some_iff.mp H
                          obtain ⟨t227, A140, H⟩ := H
                          replace H : (if t227 = true then (if 4 + (strOfNums y221).size ≤ 9223372036854775807 then ((signetrylaw15_BaseReads.f k1 ((⟨#[65, 65, 65, 65]⟩ : ByteArray) ++ (strOfNums y221))).bind fun t228 => (if t228 = true then (if 8 + (strOfNums y221).size ≤ 9223372036854775807 then (if ((⟨#[65, 65, 65, 65, 65, 65, 65, 65]⟩ : ByteArray) ++ (strOfNums y221)).size + 3 ≤ 9223372036854775807 then ((signetrylaw15_BaseReads.f k1 (((⟨#[65, 65, 65, 65, 65, 65, 65, 65]⟩ : ByteArray) ++ (strOfNums y221)) ++ (⟨#[65, 65, 65]⟩ : ByteArray))).bind fun t229 => (if t229 = true then ((signetrylaw15_BaseReads.f k1 ((⟨#[65, 65, 61]⟩ : ByteArray) ++ (strOfNums y221))).bind fun t230 => (if t230 = true then ((signetrylaw15_BaseWrites.f k1 (([(x1_1) % 256] : List Int)) x1_1).bind fun t234 => (if t234 = true then ((signetrylaw15_BaseWrites.f k1 (([1, (x1_1) % 256] : List Int)) (wrap64 (-x1_1))).bind fun t238 => (if t238 = true then ((signetrylaw15_BaseWrites.f k1 (([1, 2, (x1_1) % 256, 3] : List Int)) (wrap64 (x1_1 * 3))).bind fun t242 => (if t242 = true then (signetrylaw15_BaseKnown.l0 k1 (wrap64 (x1_1 + 1))) else (none))) else (none))) else (none))) else (none))) else (none))) else (none)) else (none)) else (none))) else (none)) else (none)) = some r := H
                          have A14 := Aside0.mk A140
                          clear A140
                          by_cases c15 : t227 = true
                          · subst c15
                            have H1 : (if 4 + (strOfNums y221).size ≤ 9223372036854775807 then ((signetrylaw15_BaseReads.f k1 ((⟨#[65, 65, 65, 65]⟩ : ByteArray) ++ (strOfNums y221))).bind fun t228 => (if t228 = true then (if 8 + (strOfNums y221).size ≤ 9223372036854775807 then (if ((⟨#[65, 65, 65, 65, 65, 65, 65, 65]⟩ : ByteArray) ++ (strOfNums y221)).size + 3 ≤ 9223372036854775807 then ((signetrylaw15_BaseReads.f k1 (((⟨#[65, 65, 65, 65, 65, 65, 65, 65]⟩ : ByteArray) ++ (strOfNums y221)) ++ (⟨#[65, 65, 65]⟩ : ByteArray))).bind fun t229 => (if t229 = true then ((signetrylaw15_BaseReads.f k1 ((⟨#[65, 65, 61]⟩ : ByteArray) ++ (strOfNums y221))).bind fun t230 => (if t230 = true then ((signetrylaw15_BaseWrites.f k1 (([(x1_1) % 256] : List Int)) x1_1).bind fun t234 => (if t234 = true then ((signetrylaw15_BaseWrites.f k1 (([1, (x1_1) % 256] : List Int)) (wrap64 (-x1_1))).bind fun t238 => (if t238 = true then ((signetrylaw15_BaseWrites.f k1 (([1, 2, (x1_1) % 256, 3] : List Int)) (wrap64 (x1_1 * 3))).bind fun t242 => (if t242 = true then (signetrylaw15_BaseKnown.l0 k1 (wrap64 (x1_1 + 1))) else (none))) else (none))) else (none))) else (none))) else (none))) else (none)) else (none)) else (none))) else (none)) = some r := by rw [if_pos rfl] at H; exact H
                            clear H
                            have H := H1
                            clear H1
                            by_cases c16 : 4 + (strOfNums y221).size ≤ 9223372036854775807
                            · rw [if_pos c16] at H
                              have c16b0 := eq_true c16
                              have c16b1 : decide (4 + (strOfNums y221).size ≤ 9223372036854775807) = true := decide_eq_true c16
                              try have c16b2 : (9223372036854775807 < 4 + (strOfNums y221).size) = False := eq_false (Nat.not_lt.2 c16)
                              replace H := Option.bind_eq_some_iff.mp H
                              obtain ⟨t228, A170, H⟩ := H
                              replace H : (if t228 = true then (if 8 + (strOfNums y221).size ≤ 9223372036854775807 then (if ((⟨#[65, 65, 65, 65, 65, 65, 65, 65]⟩ : ByteArray) ++ (strOfNums y221)).size + 3 ≤ 9223372036854775807 then ((signetrylaw15_BaseReads.f k1 (((⟨#[65, 65, 65, 65, 65, 65, 65, 65]⟩ : ByteArray) ++ (strOfNums y221)) ++ (⟨#[65, 65, 65]⟩ : ByteArray))).bind fun t229 => (if t229 = true then ((signetrylaw15_BaseReads.f k1 ((⟨#[65, 65, 61]⟩ : ByteArray) ++ (strOfNums y221))).bind fun t230 => (if t230 = true then ((signetrylaw15_BaseWrites.f k1 (([(x1_1) % 256] : List Int)) x1_1).bind fun t234 => (if t234 = true then ((signetrylaw15_BaseWrites.f k1 (([1, (x1_1) % 256] : List Int)) (wrap64 (-x1_1))).bind fun t238 => (if t238 = true then ((signetrylaw15_BaseWrites.f k1 (([1, 2, (x1_1) % 256, 3] : List Int)) (wrap64 (x1_1 * 3))).bind fun t242 => (if t242 = true then (signetrylaw15_BaseKnown.l0 k1 (wrap64 (x1_1 + 1))) else (none))) else (none))) else (none))) else (none))) else (none))) else (none)) else (none)) else (none)) = some r := H
                              have A17 := Aside0.mk A170
                              clear A170
                              by_cases c18 : t228 = true
                              · subst c18
                                have H1 : (if 8 + (strOfNums y221).size ≤ 9223372036854775807 then (if ((⟨#[65, 65, 65, 65, 65, 65, 65, 65]⟩ : ByteArray) ++ (strOfNums y221)).size + 3 ≤ 9223372036854775807 then ((signetrylaw15_BaseReads.f k1 (((⟨#[65, 65, 65, 65, 65, 65, 65, 65]⟩ : ByteArray) ++ (strOfNums y221)) ++ (⟨#[65, 65, 65]⟩ : ByteArray))).bind fun t229 => (if t229 = true then ((signetrylaw15_BaseReads.f k1 ((⟨#[65, 65, 61]⟩ : ByteArray) ++ (strOfNums y221))).bind fun t230 => (if t230 = true then ((signetrylaw15_BaseWrites.f k1 (([(x1_1) % 256] : List Int)) x1_1).bind fun t234 => (if t234 = true then ((signetrylaw15_BaseWrites.f k1 (([1, (x1_1) % 256] : List Int)) (wrap64 (-x1_1))).bind fun t238 => (if t238 = true then ((signetrylaw15_BaseWrites.f k1 (([1, 2, (x1_1) % 256, 3] : List Int)) (wrap64 (x1_1 * 3))).bind fun t242 => (if t242 = true then (signetrylaw15_BaseKnown.l0 k1 (wrap64 (x1_1 + 1))) else (none))) else (none))) else (none))) else (none))) else (none))) else (none)) else (none)) = some r := by rw [if_pos rfl] at H; exact H
                                clear H
                                have H := H1
                                clear H1
                                by_cases c19 : 8 + (strOfNums y221).size ≤ 9223372036854775807
                                · rw [if_pos c19] at H
                                  have c19b0 := eq_true c19
                                  have c19b1 : decide (8 + (strOfNums y221).size ≤ 9223372036854775807) = true := decide_eq_true c19
                                  try have c19b2 : (9223372036854775807 < 8 + (strOfNums y221).size) = False := eq_false (Nat.not_lt.2 c19)
                                  by_cases c20 : ((⟨#[65, 65, 65, 65, 65, 65, 65, 65]⟩ : ByteArray) ++ (strOfNums y221)).size + 3 ≤ 9223372036854775807
                                  · rw [if_pos c20] at H
                                    have c20b0 := eq_true c20
                                    have c20b1 : decide (((⟨#[65, 65, 65, 65, 65, 65, 65, 65]⟩ : ByteArray) ++ (strOfNums y221)).size + 3 ≤ 9223372036854775807) = true := decide_eq_true c20
                                    try have c20b2 : (9223372036854775807 < ((⟨#[65, 65, 65, 65, 65, 65, 65, 65]⟩ : ByteArray) ++ (strOfNums y221)).size + 3) = False := eq_false (Nat.not_lt.2 c20)
                                    try have c20b3 : (9223372036854775807 < (⟨#[65, 65, 65, 65, 65, 65, 65, 65]⟩ : ByteArray).size + (strOfNums y221).size + 3) = False := by rw [← ByteArray.size_append]; exact c20b2
                                    try have c20b4 : (9223372036854775807 < 8 + (strOfNums y221).size + 3) = False := c20b3
                                    replace H := Option.bind_eq_some_iff.mp H
                                    obtain ⟨t229, A210, H⟩ := H
                                    replace H : (if t229 = true then ((signetrylaw15_BaseReads.f k1 ((⟨#[65, 65, 61]⟩ : ByteArray) ++ (strOfNums y221))).bind fun t230 => (if t230 = true then ((signetrylaw15_BaseWrites.f k1 (([(x1_1) % 256] : List Int)) x1_1).bind fun t234 => (if t234 = true then ((signetrylaw15_BaseWrites.f k1 (([1, (x1_1) % 256] : List Int)) (wrap64 (-x1_1))).bind fun t238 => (if t238 = true then ((signetrylaw15_BaseWrites.f k1 (([1, 2, (x1_1) % 256, 3] : List Int)) (wrap64 (x1_1 * 3))).bind fun t242 => (if t242 = true then (signetrylaw15_BaseKnown.l0 k1 (wrap64 (x1_1 + 1))) else (none))) else (none))) else (none))) else (none))) else (none)) = some r := H
                                    have A21 := Aside0.mk A210
                                    clear A210
                                    by_cases c22 : t229 = true
                                    · subst c22
                                      have H1 : ((signetrylaw15_BaseReads.f k1 ((⟨#[65, 65, 61]⟩ : ByteArray) ++ (strOfNums y221))).bind fun t230 => (if t230 = true then ((signetrylaw15_BaseWrites.f k1 (([(x1_1) % 256] : List Int)) x1_1).bind fun t234 => (if t234 = true then ((signetrylaw15_BaseWrites.f k1 (([1, (x1_1) % 256] : List Int)) (wrap64 (-x1_1))).bind fun t238 => (if t238 = true then ((signetrylaw15_BaseWrites.f k1 (([1, 2, (x1_1) % 256, 3] : List Int)) (wrap64 (x1_1 * 3))).bind fun t242 => (if t242 = true then (signetrylaw15_BaseKnown.l0 k1 (wrap64 (x1_1 + 1))) else (none))) else (none))) else (none))) else (none))) = some r := by rw [if_pos rfl] at H; exact H
                                      clear H
                                      have H := H1
                                      clear H1
                                      replace H := Option.bind_eq_some_iff.mp H
                                      obtain ⟨t230, A230, H⟩ := H
                                      replace H : (if t230 = true then ((signetrylaw15_BaseWrites.f k1 (([(x1_1) % 256] : List Int)) x1_1).bind fun t234 => (if t234 = true then ((signetrylaw15_BaseWrites.f k1 (([1, (x1_1) % 256] : List Int)) (wrap64 (-x1_1))).bind fun t238 => (if t238 = true then ((signetrylaw15_BaseWrites.f k1 (([1, 2, (x1_1) % 256, 3] : List Int)) (wrap64 (x1_1 * 3))).bind fun t242 => (if t242 = true then (signetrylaw15_BaseKnown.l0 k1 (wrap64 (x1_1 + 1))) else (none))) else (none))) else (none))) else (none)) = some r := H
                                      have A23 := Aside0.mk A230
                                      clear A230
                                      by_cases c24 : t230 = true
                                      · subst c24
                                        have H1 : ((signetrylaw15_BaseWrites.f k1 (([(x1_1) % 256] : List Int)) x1_1).bind fun t234 => (if t234 = true then ((signetrylaw15_BaseWrites.f k1 (([1, (x1_1) % 256] : List Int)) (wrap64 (-x1_1))).bind fun t238 => (if t238 = true then ((signetrylaw15_BaseWrites.f k1 (([1, 2, (x1_1) % 256, 3] : List Int)) (wrap64 (x1_1 * 3))).bind fun t242 => (if t242 = true then (signetrylaw15_BaseKnown.l0 k1 (wrap64 (x1_1 + 1))) else (none))) else (none))) else (none))) = some r := by rw [if_pos rfl] at H; exact H
                                        clear H
                                        have H := H1
                                        clear H1
                                        obtain ⟨y231, hy231⟩ : ∃ y_ : List Int, y_ = (([(x1_1) % 256] : List Int)) := ⟨_, rfl⟩
                                        replace H : ((signetrylaw15_BaseWrites.f k1 y231 x1_1).bind fun t234 => (if t234 = true then ((signetrylaw15_BaseWrites.f k1 (([1, (x1_1) % 256] : List Int)) (wrap64 (-x1_1))).bind fun t238 => (if t238 = true then ((signetrylaw15_BaseWrites.f k1 (([1, 2, (x1_1) % 256, 3] : List Int)) (wrap64 (x1_1 * 3))).bind fun t242 => (if t242 = true then (signetrylaw15_BaseKnown.l0 k1 (wrap64 (x1_1 + 1))) else (none))) else (none))) else (none))) = some r := by first | (rw [hy231]; with_reducible exact H) | (have H2_ := (Option.bind_some _ _).symm.trans H; rw [hy231]; with_reducible exact H2_) | (have H2_ := (Option.bind_some _ _).symm.trans H; with_reducible exact H2_) | with_reducible exact H | (rw [hy231]; exact H) | exact H
                                        have Ny231 := Aside0.mk hy231
                                        clear hy231
                                        replace H := Option.bind_eq_some_iff.mp H
                                        obtain ⟨t234, A250, H⟩ := H
                                        replace H : (if t234 = true then ((signetrylaw15_BaseWrites.f k1 (([1, (x1_1) % 256] : List Int)) (wrap64 (-x1_1))).bind fun t238 => (if t238 = true then ((signetrylaw15_BaseWrites.f k1 (([1, 2, (x1_1) % 256, 3] : List Int)) (wrap64 (x1_1 * 3))).bind fun t242 => (if t242 = true then (signetrylaw15_BaseKnown.l0 k1 (wrap64 (x1_1 + 1))) else (none))) else (none))) else (none)) = some r := H
                                        have A25 := Aside0.mk A250
                                        clear A250
                                        by_cases c26 : t234 = true
                                        · subst c26
                                          have H1 : ((signetrylaw15_BaseWrites.f k1 (([1, (x1_1) % 256] : List Int)) (wrap64 (-x1_1))).bind fun t238 => (if t238 = true then ((signetrylaw15_BaseWrites.f k1 (([1, 2, (x1_1) % 256, 3] : List Int)) (wrap64 (x1_1 * 3))).bind fun t242 => (if t242 = true then (signetrylaw15_BaseKnown.l0 k1 (wrap64 (x1_1 + 1))) else (none))) else (none))) = some r := by rw [if_pos rfl] at H; exact H
                                          clear H
                                          have H := H1
                                          clear H1
                                          obtain ⟨y235, hy235⟩ : ∃ y_ : List Int, y_ = (([1, (x1_1) % 256] : List Int)) := ⟨_, rfl⟩
                                          replace H : ((signetrylaw15_BaseWrites.f k1 y235 (wrap64 (-x1_1))).bind fun t238 => (if t238 = true then ((signetrylaw15_BaseWrites.f k1 (([1, 2, (x1_1) % 256, 3] : List Int)) (wrap64 (x1_1 * 3))).bind fun t242 => (if t242 = true then (signetrylaw15_BaseKnown.l0 k1 (wrap64 (x1_1 + 1))) else (none))) else (none))) = some r := by first | (rw [hy235]; with_reducible exact H) | (have H2_ := (Option.bind_some _ _).symm.trans H; rw [hy235]; with_reducible exact H2_) | (have H2_ := (Option.bind_some _ _).symm.trans H; with_reducible exact H2_) | with_reducible exact H | (rw [hy235]; exact H) | exact H
                                          have Ny235 := Aside0.mk hy235
                                          clear hy235
                                          replace H := Option.bind_eq_some_iff.mp H
                                          obtain ⟨t238, A270, H⟩ := H
                                          replace H : (if t238 = true then ((signetrylaw15_BaseWrites.f k1 (([1, 2, (x1_1) % 256, 3] : List Int)) (wrap64 (x1_1 * 3))).bind fun t242 => (if t242 = true then (signetrylaw15_BaseKnown.l0 k1 (wrap64 (x1_1 + 1))) else (none))) else (none)) = some r := H
                                          have A27 := Aside0.mk A270
                                          clear A270
                                          by_cases c28 : t238 = true
                                          · subst c28
                                            have H1 : ((signetrylaw15_BaseWrites.f k1 (([1, 2, (x1_1) % 256, 3] : List Int)) (wrap64 (x1_1 * 3))).bind fun t242 => (if t242 = true then (signetrylaw15_BaseKnown.l0 k1 (wrap64 (x1_1 + 1))) else (none))) = some r := by rw [if_pos rfl] at H; exact H
                                            clear H
                                            have H := H1
                                            clear H1
                                            obtain ⟨y239, hy239⟩ : ∃ y_ : List Int, y_ = (([1, 2, (x1_1) % 256, 3] : List Int)) := ⟨_, rfl⟩
                                            replace H : ((signetrylaw15_BaseWrites.f k1 y239 (wrap64 (x1_1 * 3))).bind fun t242 => (if t242 = true then (signetrylaw15_BaseKnown.l0 k1 (wrap64 (x1_1 + 1))) else (none))) = some r := by first | (rw [hy239]; with_reducible exact H) | (have H2_ := (Option.bind_some _ _).symm.trans H; rw [hy239]; with_reducible exact H2_) | (have H2_ := (Option.bind_some _ _).symm.trans H; with_reducible exact H2_) | with_reducible exact H | (rw [hy239]; exact H) | exact H
                                            have Ny239 := Aside0.mk hy239
                                            clear hy239
                                            replace H := Option.bind_eq_some_iff.mp H
                                            obtain ⟨t242, A290, H⟩ := H
                                            replace H : (if t242 = true then (signetrylaw15_BaseKnown.l0 k1 (wrap64 (x1_1 + 1))) else (none)) = some r := H
                                            have A29 := Aside0.mk A290
                                            clear A290
                                            by_cases c30 : t242 = true
                                            · subst c30
                                              have H1 : (signetrylaw15_BaseKnown.l0 k1 (wrap64 (x1_1 + 1))) = some r := by rw [if_pos rfl] at H; exact H
                                              clear H
                                              have H := H1
                                              clear H1
                                              have H' := Aside0.mk H
                                              clear H
                                              go_wp2_with (first | ((with_reducible refine gate_dst (N := 17) rfl ?_); (try (refine gate_guard (by rfl) ?_; dsimp only)); refine Kd.R_lit (Kd.int .u8) _ 5 ?hg (N := 17) ?hd (xs := ([(x1_1) % 256] : List Int)) (inner := [.int .u8 ((x1_1) % 256)]) (ok := fun _ => True) (okp := fun _ => True) ?hr ?hp (fun _ hk => hk) trivial (Below.refl _ _) (Nat.le_refl _) (by simp) ?_; (case hd => rfl); (case hg => rfl); (case hr => first | (go_simp; done) | (go_simp; rfl)); (case hp => exact (Reps.one (show Kd.M (Kd.int .u8) _ _ _ ((x1_1) % 256) [.int .u8 ((x1_1) % 256)] from rfl) (Reps.none _ _))); intro v222 w31 ho32 hb hg_ hnew_; clear hg_ hnew_; (first | rw [← Ny221.out] at ho32 | (simp only [Int.reduceToNat] at ho32; rw [← Ny221.out] at ho32)); have n0_ := Aside0.mk (Kd.R_lower ho32 (below_size (by repeat (first | (with_reducible first | exact HB.out | apply below_alloc | apply pw_below_drewN | apply below_drew1) | exact HB.out)))); have n1_ := Aside0.mk (below_step (by repeat (first | (with_reducible first | exact HB.out | apply below_alloc | apply pw_below_drewN | apply below_drew1) | exact HB.out)) hb); clear HB; have HO223 := n0_; have HB := n1_; clear n0_ n1_; clear hb ho32; have hcv33 := own_string (P := Try.prog) Try.underlying22 Try.underlying5 Try.underlying9 (Kd.own_of_R HO223.out)) | (go_at_call 4; (with_reducible refine (signetrylaw15_BaseReads.calls k1 ((strOfNums y221) ++ (⟨#[65, 61, 61]⟩ : ByteArray)) true _ A3.out).mono ?_); rintro e w34 ⟨rfl, hb⟩; have n0_ := Aside0.mk (Kd.R_below (by (with_reducible repeat (first | apply Kd.R_alloc | apply Kd.R_drewN | apply Kd.R_drew)); exact HO223.out) hb); have n1_ := Aside0.mk (below_step (by repeat (first | (with_reducible first | exact HB.out | apply below_alloc | apply pw_below_drewN | apply below_drew1) | exact HB.out)) hb); clear HO223; clear HB; have HO223 := n0_; have HB := n1_; clear n0_ n1_; (try clear hb); (try clear hb2); (try clear hk); (try clear hi)) | (go_at_call 4; (with_reducible refine (signetrylaw15_BaseReads.calls k1 (((⟨#[65]⟩ : ByteArray) ++ (strOfNums y221)) ++ (⟨#[61, 61]⟩ : ByteArray)) true _ A7.out).mono ?_); rintro e w35 ⟨rfl, hb⟩; have n0_ := Aside0.mk (Kd.R_below (by (with_reducible repeat (first | apply Kd.R_alloc | apply Kd.R_drewN | apply Kd.R_drew)); exact HO223.out) hb); have n1_ := Aside0.mk (below_step (by repeat (first | (with_reducible first | exact HB.out | apply below_alloc | apply pw_below_drewN | apply below_drew1) | exact HB.out)) hb); clear HO223; clear HB; have HO223 := n0_; have HB := n1_; clear n0_ n1_; (try clear hb); (try clear hb2); (try clear hk); (try clear hi)) | (go_at_call 4; (with_reducible refine (signetrylaw15_BaseReads.calls k1 (((⟨#[65, 65]⟩ : ByteArray) ++ (strOfNums y221)) ++ (⟨#[61]⟩ : ByteArray)) true _ A11.out).mono ?_); rintro e w36 ⟨rfl, hb⟩; have n0_ := Aside0.mk (Kd.R_below (by (with_reducible repeat (first | apply Kd.R_alloc | apply Kd.R_drewN | apply Kd.R_drew)); exact HO223.out) hb); have n1_ := Aside0.mk (below_step (by repeat (first | (with_reducible first | exact HB.out | apply below_alloc | apply pw_below_drewN | apply below_drew1) | exact HB.out)) hb); clear HO223; clear HB; have HO223 := n0_; have HB := n1_; clear n0_ n1_; (try clear hb); (try clear hb2); (try clear hk); (try clear hi)) | (go_at_call 4; (with_reducible refine (signetrylaw15_BaseReads.calls k1 ((⟨#[65, 65, 65]⟩ : ByteArray) ++ (strOfNums y221)) true _ A14.out).mono ?_); rintro e w37 ⟨rfl, hb⟩; have n0_ := Aside0.mk (Kd.R_below (by (with_reducible repeat (first | apply Kd.R_alloc | apply Kd.R_drewN | apply Kd.R_drew)); exact HO223.out) hb); have n1_ := Aside0.mk (below_step (by repeat (first | (with_reducible first | exact HB.out | apply below_alloc | apply pw_below_drewN | apply below_drew1) | exact HB.out)) hb); clear HO223; clear HB; have HO223 := n0_; have HB := n1_; clear n0_ n1_; (try clear hb); (try clear hb2); (try clear hk); (try clear hi)) | (go_at_call 4; (with_reducible refine (signetrylaw15_BaseReads.calls k1 ((⟨#[65, 65, 65, 65]⟩ : ByteArray) ++ (strOfNums y221)) true _ A17.out).mono ?_); rintro e w38 ⟨rfl, hb⟩; have n0_ := Aside0.mk (Kd.R_below (by (with_reducible repeat (first | apply Kd.R_alloc | apply Kd.R_drewN | apply Kd.R_drew)); exact HO223.out) hb); have n1_ := Aside0.mk (below_step (by repeat (first | (with_reducible first | exact HB.out | apply below_alloc | apply pw_below_drewN | apply below_drew1) | exact HB.out)) hb); clear HO223; clear HB; have HO223 := n0_; have HB := n1_; clear n0_ n1_; (try clear hb); (try clear hb2); (try clear hk); (try clear hi)) | (go_at_call 4; (with_reducible refine (signetrylaw15_BaseReads.calls k1 (((⟨#[65, 65, 65, 65, 65, 65, 65, 65]⟩ : ByteArray) ++ (strOfNums y221)) ++ (⟨#[65, 65, 65]⟩ : ByteArray)) true _ A21.out).mono ?_); rintro e w39 ⟨rfl, hb⟩; have n0_ := Aside0.mk (Kd.R_below (by (with_reducible repeat (first | apply Kd.R_alloc | apply Kd.R_drewN | apply Kd.R_drew)); exact HO223.out) hb); have n1_ := Aside0.mk (below_step (by repeat (first | (with_reducible first | exact HB.out | apply below_alloc | apply pw_below_drewN | apply below_drew1) | exact HB.out)) hb); clear HO223; clear HB; have HO223 := n0_; have HB := n1_; clear n0_ n1_; (try clear hb); (try clear hb2); (try clear hk); (try clear hi)) | (go_at_call 4; (with_reducible refine (signetrylaw15_BaseReads.calls k1 ((⟨#[65, 65, 61]⟩ : ByteArray) ++ (strOfNums y221)) true _ A23.out).mono ?_); rintro e w40 ⟨rfl, hb⟩; have n0_ := Aside0.mk (Kd.R_below (by (with_reducible repeat (first | apply Kd.R_alloc | apply Kd.R_drewN | apply Kd.R_drew)); exact HO223.out) hb); have n1_ := Aside0.mk (below_step (by repeat (first | (with_reducible first | exact HB.out | apply below_alloc | apply pw_below_drewN | apply below_drew1) | exact HB.out)) hb); clear HO223; clear HB; have HO223 := n0_; have HB := n1_; clear n0_ n1_; (try clear hb); (try clear hb2); (try clear hk); (try clear hi)) | ((with_reducible refine gate_dst (N := 65) rfl ?_); (try (refine gate_guard (by rfl) ?_; dsimp only)); refine Kd.R_lit (Kd.int .u8) _ 5 ?hg (N := 65) ?hd (xs := ([(x1_1) % 256] : List Int)) (inner := [.int .u8 ((x1_1) % 256)]) (ok := fun _ => True) (okp := fun _ => True) ?hr ?hp (fun _ hk => hk) trivial (Below.refl _ _) (Nat.le_refl _) (by simp) ?_; (case hd => rfl); (case hg => rfl); (case hr => first | (go_simp; done) | (go_simp; rfl)); (case hp => exact (Reps.one (show Kd.M (Kd.int .u8) _ _ _ ((x1_1) % 256) [.int .u8 ((x1_1) % 256)] from rfl) (Reps.none _ _))); intro v232 w41 ho42 hb hg_ hnew_; clear hg_ hnew_; (first | rw [← Ny231.out] at ho42 | (simp only [Int.reduceToNat] at ho42; rw [← Ny231.out] at ho42)); have n0_ := Aside0.mk (Kd.R_elder' (by (with_reducible repeat (first | apply Kd.R_alloc | apply Kd.R_drewN | apply Kd.R_drew)); exact HO223.out) (Kd.R_base ho42) hb); have n1_ := Aside0.mk (Kd.R_lower (Kd.R_new' ho42 (Kd.R_lt (by (with_reducible repeat (first | apply Kd.R_alloc | apply Kd.R_drewN | apply Kd.R_drew)); exact HO223.out))) (below_size (by repeat (first | (with_reducible first | exact HB.out | apply below_alloc | apply pw_below_drewN | apply below_drew1) | exact HB.out)))); have n2_ := Aside0.mk (below_step (by repeat (first | (with_reducible first | exact HB.out | apply below_alloc | apply pw_below_drewN | apply below_drew1) | exact HB.out)) hb); clear HO223; clear HB; have HO223 := n0_; have HO233 := n1_; have HB := n2_; clear n0_ n1_ n2_; clear hb ho42; obtain ⟨Ao43, co43, eo43⟩ := Kd.R_slice HO233.out; subst eo43) | (go_at_call 3; (with_reducible refine (signetrylaw15_BaseWrites.calls k1 _ _ y231 x1_1 true _ ?side1 ?side2 A25.out).mono ?_); (case side1 => repeat (first | exact (Kd.R_reads' HO233.out).2.2 | (with_reducible refine Kd.C_alloc ?_ _) | (with_reducible refine Kd.C_drewN ?_ _) | (with_reducible refine Kd.C_drew ?_))); (case side2 => exact (Kd.R_reads' HO233.out).2.1); rintro e w44 ⟨rfl, hb⟩; have n0_ := Aside0.mk (Kd.R_below (by (with_reducible repeat (first | apply Kd.R_alloc | apply Kd.R_drewN | apply Kd.R_drew)); exact HO223.out) hb); have n1_ := Aside0.mk (Kd.R_below (by (with_reducible repeat (first | apply Kd.R_alloc | apply Kd.R_drewN | apply Kd.R_drew)); exact HO233.out) hb); have n2_ := Aside0.mk (below_step (by repeat (first | (with_reducible first | exact HB.out | apply below_alloc | apply pw_below_drewN | apply below_drew1) | exact HB.out)) hb); clear HO223; clear HO233; clear HB; have HO223 := n0_; have HO233 := n1_; have HB := n2_; clear n0_ n1_ n2_; (try clear hb); (try clear hb2); (try clear hk); (try clear hi)) | ((with_reducible refine gate_dst (N := 73) rfl ?_); (try (refine gate_guard (by rfl) ?_; dsimp only)); refine Kd.R_lit (Kd.int .u8) _ 5 ?hg (N := 73) ?hd (xs := ([1, (x1_1) % 256] : List Int)) (inner := [.int .u8 1, .int .u8 ((x1_1) % 256)]) (ok := fun _ => True) (okp := fun _ => True) ?hr ?hp (fun _ hk => hk) trivial (Below.refl _ _) (Nat.le_refl _) (by simp) ?_; (case hd => rfl); (case hg => rfl); (case hr => first | (go_simp; done) | (go_simp; rfl)); (case hp => exact (Reps.one (show Kd.M (Kd.int .u8) _ _ _ 1 [.int .u8 1] from rfl) (Reps.one (show Kd.M (Kd.int .u8) _ _ _ ((x1_1) % 256) [.int .u8 ((x1_1) % 256)] from rfl) (Reps.none _ _)))); intro v236 w45 ho46 hb hg_ hnew_; clear hg_ hnew_; (first | rw [← Ny235.out] at ho46 | (simp only [Int.reduceToNat] at ho46; rw [← Ny235.out] at ho46)); have n0_ := Aside0.mk (Kd.R_elder' (by (with_reducible repeat (first | apply Kd.R_alloc | apply Kd.R_drewN | apply Kd.R_drew)); exact HO223.out) (Kd.R_base ho46) hb); have n1_ := Aside0.mk (Kd.R_elder' (by (with_reducible repeat (first | apply Kd.R_alloc | apply Kd.R_drewN | apply Kd.R_drew)); exact HO233.out) (Kd.R_base ho46) hb); have n2_ := Aside0.mk (Kd.R_lower (Kd.R_new' (Kd.R_new' ho46 (Kd.R_lt (by (with_reducible repeat (first | apply Kd.R_alloc | apply Kd.R_drewN | apply Kd.R_drew)); exact HO223.out))) (Kd.R_lt (by (with_reducible repeat (first | apply Kd.R_alloc | apply Kd.R_drewN | apply Kd.R_drew)); exact HO233.out))) (below_size (by repeat (first | (with_reducible first | exact HB.out | apply below_alloc | apply pw_below_drewN | apply below_drew1) | exact HB.out)))); have n3_ := Aside0.mk (below_step (by repeat (first | (with_reducible first | exact HB.out | apply below_alloc | apply pw_below_drewN | apply below_drew1) | exact HB.out)) hb); clear HO223; clear HO233; clear HB; have HO223 := n0_; have HO233 := n1_; have HO237 := n2_; have HB := n3_; clear n0_ n1_ n2_ n3_; clear hb ho46; obtain ⟨Ao47, co47, eo47⟩ := Kd.R_slice HO237.out; subst eo47) | (go_at_call 3; (with_reducible refine (signetrylaw15_BaseWrites.calls k1 _ _ y235 (wrap64 (-x1_1)) true _ ?side1 ?side2 A27.out).mono ?_); (case side1 => repeat (first | exact (Kd.R_reads' HO237.out).2.2 | (with_reducible refine Kd.C_alloc ?_ _) | (with_reducible refine Kd.C_drewN ?_ _) | (with_reducible refine Kd.C_drew ?_))); (case side2 => exact (Kd.R_reads' HO237.out).2.1); rintro e w48 ⟨rfl, hb⟩; have n0_ := Aside0.mk (Kd.R_below (by (with_reducible repeat (first | apply Kd.R_alloc | apply Kd.R_drewN | apply Kd.R_drew)); exact HO223.out) hb); have n1_ := Aside0.mk (Kd.R_below (by (with_reducible repeat (first | apply Kd.R_alloc | apply Kd.R_drewN | apply Kd.R_drew)); exact HO233.out) hb); have n2_ := Aside0.mk (Kd.R_below (by (with_reducible repeat (first | apply Kd.R_alloc | apply Kd.R_drewN | apply Kd.R_drew)); exact HO237.out) hb); have n3_ := Aside0.mk (below_step (by repeat (first | (with_reducible first | exact HB.out | apply below_alloc | apply pw_below_drewN | apply below_drew1) | exact HB.out)) hb); clear HO223; clear HO233; clear HO237; clear HB; have HO223 := n0_; have HO233 := n1_; have HO237 := n2_; have HB := n3_; clear n0_ n1_ n2_ n3_; (try clear hb); (try clear hb2); (try clear hk); (try clear hi)) | ((with_reducible refine gate_dst (N := 82) rfl ?_); (try (refine gate_guard (by rfl) ?_; dsimp only)); refine Kd.R_lit (Kd.int .u8) _ 5 ?hg (N := 82) ?hd (xs := ([1, 2, (x1_1) % 256, 3] : List Int)) (inner := [.int .u8 1, .int .u8 2, .int .u8 ((x1_1) % 256), .int .u8 3]) (ok := fun _ => True) (okp := fun _ => True) ?hr ?hp (fun _ hk => hk) trivial (Below.refl _ _) (Nat.le_refl _) (by simp) ?_; (case hd => rfl); (case hg => rfl); (case hr => first | (go_simp; done) | (go_simp; rfl)); (case hp => exact (Reps.one (show Kd.M (Kd.int .u8) _ _ _ 1 [.int .u8 1] from rfl) (Reps.one (show Kd.M (Kd.int .u8) _ _ _ 2 [.int .u8 2] from rfl) (Reps.one (show Kd.M (Kd.int .u8) _ _ _ ((x1_1) % 256) [.int .u8 ((x1_1) % 256)] from rfl) (Reps.one (show Kd.M (Kd.int .u8) _ _ _ 3 [.int .u8 3] from rfl) (Reps.none _ _)))))); intro v240 w49 ho50 hb hg_ hnew_; clear hg_ hnew_; (first | rw [← Ny239.out] at ho50 | (simp only [Int.reduceToNat] at ho50; rw [← Ny239.out] at ho50)); have n0_ := Aside0.mk (Kd.R_elder' (by (with_reducible repeat (first | apply Kd.R_alloc | apply Kd.R_drewN | apply Kd.R_drew)); exact HO223.out) (Kd.R_base ho50) hb); have n1_ := Aside0.mk (Kd.R_elder' (by (with_reducible repeat (first | apply Kd.R_alloc | apply Kd.R_drewN | apply Kd.R_drew)); exact HO233.out) (Kd.R_base ho50) hb); have n2_ := Aside0.mk (Kd.R_elder' (by (with_reducible repeat (first | apply Kd.R_alloc | apply Kd.R_drewN | apply Kd.R_drew)); exact HO237.out) (Kd.R_base ho50) hb); have n3_ := Aside0.mk (Kd.R_lower (Kd.R_new' (Kd.R_new' (Kd.R_new' ho50 (Kd.R_lt (by (with_reducible repeat (first | apply Kd.R_alloc | apply Kd.R_drewN | apply Kd.R_drew)); exact HO223.out))) (Kd.R_lt (by (with_reducible repeat (first | apply Kd.R_alloc | apply Kd.R_drewN | apply Kd.R_drew)); exact HO233.out))) (Kd.R_lt (by (with_reducible repeat (first | apply Kd.R_alloc | apply Kd.R_drewN | apply Kd.R_drew)); exact HO237.out))) (below_size (by repeat (first | (with_reducible first | exact HB.out | apply below_alloc | apply pw_below_drewN | apply below_drew1) | exact HB.out)))); have n4_ := Aside0.mk (below_step (by repeat (first | (with_reducible first | exact HB.out | apply below_alloc | apply pw_below_drewN | apply below_drew1) | exact HB.out)) hb); clear HO223; clear HO233; clear HO237; clear HB; have HO223 := n0_; have HO233 := n1_; have HO237 := n2_; have HO241 := n3_; have HB := n4_; clear n0_ n1_ n2_ n3_ n4_; clear hb ho50; obtain ⟨Ao51, co51, eo51⟩ := Kd.R_slice HO241.out; subst eo51) | (go_at_call 3; (with_reducible refine (signetrylaw15_BaseWrites.calls k1 _ _ y239 (wrap64 (x1_1 * 3)) true _ ?side1 ?side2 A29.out).mono ?_); (case side1 => repeat (first | exact (Kd.R_reads' HO241.out).2.2 | (with_reducible refine Kd.C_alloc ?_ _) | (with_reducible refine Kd.C_drewN ?_ _) | (with_reducible refine Kd.C_drew ?_))); (case side2 => exact (Kd.R_reads' HO241.out).2.1); rintro e w52 ⟨rfl, hb⟩; have n0_ := Aside0.mk (Kd.R_below (by (with_reducible repeat (first | apply Kd.R_alloc | apply Kd.R_drewN | apply Kd.R_drew)); exact HO223.out) hb); have n1_ := Aside0.mk (Kd.R_below (by (with_reducible repeat (first | apply Kd.R_alloc | apply Kd.R_drewN | apply Kd.R_drew)); exact HO233.out) hb); have n2_ := Aside0.mk (Kd.R_below (by (with_reducible repeat (first | apply Kd.R_alloc | apply Kd.R_drewN | apply Kd.R_drew)); exact HO237.out) hb); have n3_ := Aside0.mk (Kd.R_below (by (with_reducible repeat (first | apply Kd.R_alloc | apply Kd.R_drewN | apply Kd.R_drew)); exact HO241.out) hb); have n4_ := Aside0.mk (below_step (by repeat (first | (with_reducible first | exact HB.out | apply below_alloc | apply pw_below_drewN | apply below_drew1) | exact HB.out)) hb); clear HO223; clear HO233; clear HO237; clear HO241; clear HB; have HO223 := n0_; have HO233 := n1_; have HO237 := n2_; have HO241 := n3_; have HB := n4_; clear n0_ n1_ n2_ n3_ n4_; (try clear hb); (try clear hb2); (try clear hk); (try clear hi)))
                                              go_roundg k1
                                              case measure => have := HK1.out; omega
                                              case rel => exact ⟨(wrap64 (x1_1 + 1)), (by first | rfl | (simp; done) | (simp [*]; done)), H', ⟨by have := HK1.out; omega⟩, ⟨by repeat (first | (with_reducible first | exact HB.out | apply below_alloc | apply pw_below_drewN | apply below_drew1) | exact HB.out)⟩⟩
                                            · replace c30 := Bool.eq_false_iff.mpr c30
                                              subst c30
                                              have H1 : (none) = some r := by rw [if_neg (show ¬ (false = true) by decide)] at H; exact H
                                              clear H
                                              have H := H1
                                              clear H1
                                              exact absurd H (by simp)
                                          · replace c28 := Bool.eq_false_iff.mpr c28
                                            subst c28
                                            have H1 : (none) = some r := by rw [if_neg (show ¬ (false = true) by decide)] at H; exact H
                                            clear H
                                            have H := H1
                                            clear H1
                                            exact absurd H (by simp)
                                        · replace c26 := Bool.eq_false_iff.mpr c26
                                          subst c26
                                          have H1 : (none) = some r := by rw [if_neg (show ¬ (false = true) by decide)] at H; exact H
                                          clear H
                                          have H := H1
                                          clear H1
                                          exact absurd H (by simp)
                                      · replace c24 := Bool.eq_false_iff.mpr c24
                                        subst c24
                                        have H1 : (none) = some r := by rw [if_neg (show ¬ (false = true) by decide)] at H; exact H
                                        clear H
                                        have H := H1
                                        clear H1
                                        exact absurd H (by simp)
                                    · replace c22 := Bool.eq_false_iff.mpr c22
                                      subst c22
                                      have H1 : (none) = some r := by rw [if_neg (show ¬ (false = true) by decide)] at H; exact H
                                      clear H
                                      have H := H1
                                      clear H1
                                      exact absurd H (by simp)
                                  · rw [if_neg c20] at H
                                    exact absurd H (by simp)
                                · rw [if_neg c19] at H
                                  exact absurd H (by simp)
                              · replace c18 := Bool.eq_false_iff.mpr c18
                                subst c18
                                have H1 : (none) = some r := by rw [if_neg (show ¬ (false = true) by decide)] at H; exact H
                                clear H
                                have H := H1
                                clear H1
                                exact absurd H (by simp)
                            · rw [if_neg c16] at H
                              exact absurd H (by simp)
                          · replace c15 := Bool.eq_false_iff.mpr c15
                            subst c15
                            have H1 : (none) = some r := by rw [if_neg (show ¬ (false = true) by decide)] at H; exact H
                            clear H
                            have H := H1
                            clear H1
                            exact absurd H (by simp)
                        · rw [if_neg c13] at H
                          exact absurd H (by simp)
                      · replace c12 := Bool.eq_false_iff.mpr c12
                        subst c12
                        have H1 : (none) = some r := by rw [if_neg (show ¬ (false = true) by decide)] at H; exact H
                        clear H
                        have H := H1
                        clear H1
                        exact absurd H (by simp)
                    · rw [if_neg c10] at H
                      exact absurd H (by simp)
                  · rw [if_neg c9] at H
                    exact absurd H (by simp)
                · replace c8 := Bool.eq_false_iff.mpr c8
                  subst c8
                  have H1 : (none) = some r := by rw [if_neg (show ¬ (false = true) by decide)] at H; exact H
                  clear H
                  have H := H1
                  clear H1
                  exact absurd H (by simp)
              · rw [if_neg c6] at H
                exact absurd H (by simp)
            · rw [if_neg c5] at H
              exact absurd H (by simp)
          · replace c4 := Bool.eq_false_iff.mpr c4
            subst c4
            have H1 : (none) = some r := by rw [if_neg (show ¬ (false = true) by decide)] at H; exact H
            clear H
            have H := H1
            clear H1
            exact absurd H (by simp)
        · rw [if_neg c2] at H
          exact absurd H (by simp)
      · rw [if_neg c1] at H
        have c1b0 : decide (x1_1 < 256) = false := decide_eq_false c1
        clear c1
        obtain ⟨y243, hy243⟩ : ∃ y_ : List Int, y_ = (([(-9223372036854775808), (-1), 0, 1, 2, 3, 9007199254740991, 9007199254740992, 9223372036854775807] : List Int)) := ⟨_, rfl⟩
        replace H : (signetrylaw15_BaseKnown.l1 k1 y243 0) = some r := by first | (rw [hy243]; with_reducible exact H) | (have H2_ := (Option.bind_some _ _).symm.trans H; rw [hy243]; with_reducible exact H2_) | (have H2_ := (Option.bind_some _ _).symm.trans H; with_reducible exact H2_) | with_reducible exact H | (rw [hy243]; exact H) | exact H
        have Ny243 := Aside0.mk hy243
        clear hy243
        have H' := Aside0.mk H
        clear H
        go_wp2_with (first | ((with_reducible refine gate_dst (N := 88) rfl ?_); (try (refine gate_guard (by rfl) ?_; dsimp only)); refine Kd.R_lit (Kd.int .i64) _ 3 ?hg (N := 88) ?hd (xs := ([(-9223372036854775808), (-1), 0, 1, 2, 3, 9007199254740991, 9007199254740992, 9223372036854775807] : List Int)) (inner := [.int .i64 (-9223372036854775808), .int .i64 (-1), .int .i64 0, .int .i64 1, .int .i64 2, .int .i64 3, .int .i64 9007199254740991, .int .i64 9007199254740992, .int .i64 9223372036854775807]) (ok := fun _ => True) (okp := fun _ => True) ?hr ?hp (fun _ hk => hk) trivial (Below.refl _ _) (Nat.le_refl _) (by simp) ?_; (case hd => rfl); (case hg => rfl); (case hr => first | (go_simp; done) | (go_simp; rfl)); (case hp => exact (Reps.one (show Kd.M (Kd.int .i64) _ _ _ (-9223372036854775808) [.int .i64 (-9223372036854775808)] from rfl) (Reps.one (show Kd.M (Kd.int .i64) _ _ _ (-1) [.int .i64 (-1)] from rfl) (Reps.one (show Kd.M (Kd.int .i64) _ _ _ 0 [.int .i64 0] from rfl) (Reps.one (show Kd.M (Kd.int .i64) _ _ _ 1 [.int .i64 1] from rfl) (Reps.one (show Kd.M (Kd.int .i64) _ _ _ 2 [.int .i64 2] from rfl) (Reps.one (show Kd.M (Kd.int .i64) _ _ _ 3 [.int .i64 3] from rfl) (Reps.one (show Kd.M (Kd.int .i64) _ _ _ 9007199254740991 [.int .i64 9007199254740991] from rfl) (Reps.one (show Kd.M (Kd.int .i64) _ _ _ 9007199254740992 [.int .i64 9007199254740992] from rfl) (Reps.one (show Kd.M (Kd.int .i64) _ _ _ 9223372036854775807 [.int .i64 9223372036854775807] from rfl) (Reps.none _ _))))))))))); intro v244 w53 ho54 hb hg_ hnew_; clear hg_ hnew_; (first | rw [← Ny243.out] at ho54 | (simp only [Int.reduceToNat] at ho54; rw [← Ny243.out] at ho54)); have n0_ := Aside0.mk (Kd.R_lower ho54 (below_size (by repeat (first | (with_reducible first | exact HB.out | apply below_alloc | apply pw_below_drewN | apply below_drew1) | exact HB.out)))); have n1_ := Aside0.mk (below_step (by repeat (first | (with_reducible first | exact HB.out | apply below_alloc | apply pw_below_drewN | apply below_drew1) | exact HB.out)) hb); clear HB; have HO245 := n0_; have HB := n1_; clear n0_ n1_; clear hb ho54))
        go_loopg [4] k1 (fun kq v4 w' => ∃ (x4_2 : Int), v4 = .int .i64 x4_2 ∧ Aside0 (signetrylaw15_BaseKnown.l1 kq y243 x4_2 = some r) ∧ Aside0 (kq ≤ k1) ∧ Aside0 (Kd.R (Kd.int .i64) 3 w' w.heap.size (fun _ => True) v244 y243) ∧ Aside0 (Below w.heap.size w w'))
        case atStart => exact ⟨(0), (by first | rfl | (simp; done) | (simp [*]; done)), H', ⟨Nat.le_refl _⟩, ⟨by (with_reducible repeat (first | apply Kd.R_alloc | apply Kd.R_drewN | apply Kd.R_drew)); exact HO245.out⟩, ⟨by repeat (first | (with_reducible first | exact HB.out | apply below_alloc | apply pw_below_drewN | apply below_drew1) | exact HB.out)⟩⟩
        case round =>
          clear H'
          try clear c1
          try clear c1b0
          try clear c2
          try clear c2b0
          try clear c2b1
          try clear c2b2
          try clear p2
          try clear c3
          try clear hcv3
          try clear c4
          try clear c5
          try clear c5b0
          try clear c5b1
          try clear c5b2
          try clear c6
          try clear c6b0
          try clear c6b1
          try clear c6b2
          try clear p6
          try clear c8
          try clear c9
          try clear c9b0
          try clear c9b1
          try clear c9b2
          try clear c10
          try clear c10b0
          try clear c10b1
          try clear c10b2
          try clear c12
          try clear c13
          try clear c13b0
          try clear c13b1
          try clear c13b2
          try clear c15
          try clear c16
          try clear c16b0
          try clear c16b1
          try clear c16b2
          try clear c18
          try clear c19
          try clear c19b0
          try clear c19b1
          try clear c19b2
          try clear c20
          try clear c20b0
          try clear c20b1
          try clear c20b2
          try clear c22
          try clear c24
          try clear c26
          try clear c28
          try clear c30
          try clear hcv33
          obtain ⟨x4_2, rfl, HA, HK2, HO_3, HB⟩ := hrel
          cases gk with
          | zero => exact absurd HA.out (by simp [signetrylaw15_BaseKnown.l1])
          | succ k2 =>
            have H := HA.out
            clear HA
            simp only [signetrylaw15_BaseKnown.l1] at H
            by_cases c55 : x4_2 < (y243.length : Int)
            · rw [if_pos c55] at H
              have c55b0 : decide (x4_2 < (y243.length : Int)) = true := decide_eq_true c55
              clear c55
              by_cases c56 : 0 ≤ x4_2
              · rw [if_pos c56] at H
                have c56b0 : decide (0 ≤ x4_2) = true := decide_eq_true c56
                clear c56
                replace H := Option.bind_eq_some_iff.mp H
                obtain ⟨t247, A570, H⟩ := H
                replace H : (if t247 = true then (signetrylaw15_BaseKnown.l1 k2 y243 (wrap64 (x4_2 + 1))) else (none)) = some r := H
                have A57 := Aside0.mk A570
                clear A570
                by_cases c58 : t247 = true
                · subst c58
                  have H1 : (signetrylaw15_BaseKnown.l1 k2 y243 (wrap64 (x4_2 + 1))) = some r := by rw [if_pos rfl] at H; exact H
                  clear H
                  have H := H1
                  clear H1
                  have H' := Aside0.mk H
                  clear H
                  obtain ⟨Ao59, co59, eo59⟩ := Kd.R_slice HO_3.out
                  subst eo59
                  have p246 : 0 ≤ (x4_2 : Int) := of_decide_eq_true (by first | (with_reducible assumption) | assumption)
                  have q246 : x4_2 < (y243.length : Int) := of_decide_eq_true (by first | (with_reducible assumption) | assumption)
                  obtain ⟨ad246, e246, hx246_0⟩ := Kd.at_int (Kd.R_reads' HO_3.out).2.2 x4_2 p246 q246
                  cases e246
                  replace p246 := eq_true p246
                  replace q246 := eq_true q246
                  go_wp2_with (first | ((with_reducible refine gate_callee (f := 3) rfl ?_); refine goesL_ (some 99) rfl rfl Try.func3 (by kernel_rfl) rfl #[.slice none 0 0, .int .i64 (rd y243 x4_2)] rfl (by (try simp only [List.map_toArray, List.map_cons, List.map_nil]); first | done | rfl | (simp only [List.length_drop, List.length_take]; rfl)) ?_; (refine (signetrylaw15_BaseWrites.calls k2 _ _ ([] : List Int) (rd y243 x4_2) true _ ?side1 ?side2 A57.out).mono ?_); (case side1 => exact Kd.C_nil _ _); (case side2 => exact Nat.le_refl _); rintro e w60 ⟨rfl, hb⟩; refine ⟨_, rfl, ?_⟩; have n0_ := Aside0.mk (Kd.R_below (by (with_reducible repeat (first | apply Kd.R_alloc | apply Kd.R_drewN | apply Kd.R_drew)); exact HO_3.out) hb); have n1_ := Aside0.mk (below_step (by repeat (first | (with_reducible first | exact HB.out | apply below_alloc | apply pw_below_drewN | apply below_drew1) | exact HB.out)) hb); clear HO_3; clear HB; have HO_3 := n0_; have HB := n1_; clear n0_ n1_; (try clear hb); (try clear hb2); (try clear hk); (try clear hi)))
                  go_roundg k2
                  case measure => have := HK1.out; have := HK2.out; omega
                  case rel => exact ⟨(wrap64 (x4_2 + 1)), (by first | rfl | (simp; done) | (simp [*]; done)), H', ⟨by have := HK1.out; have := HK2.out; omega⟩, ⟨by (with_reducible repeat (first | apply Kd.R_alloc | apply Kd.R_drewN | apply Kd.R_drew)); exact HO_3.out⟩, ⟨by repeat (first | (with_reducible first | exact HB.out | apply below_alloc | apply pw_below_drewN | apply below_drew1) | exact HB.out)⟩⟩
                · replace c58 := Bool.eq_false_iff.mpr c58
                  subst c58
                  have H1 : (none) = some r := by rw [if_neg (show ¬ (false = true) by decide)] at H; exact H
                  clear H
                  have H := H1
                  clear H1
                  exact absurd H (by simp)
              · rw [if_neg c56] at H
                exact absurd H (by simp)
            · rw [if_neg c55] at H
              have c55b0 : decide (x4_2 < (y243.length : Int)) = false := decide_eq_false c55
              clear c55
              by_cases c61 : 2097156 ≤ 281474976710656
              · rw [if_pos c61] at H
                have c61b0 := eq_true c61
                have c61b1 : decide (2097156 ≤ 281474976710656) = true := decide_eq_true c61
                clear c61
                obtain ⟨y248, hy248⟩ : ∃ y_ : List Int, y_ = (List.replicate 2097156 0) := ⟨_, rfl⟩
                replace H : (signetrylaw15_BaseKnown.l2 k2 y248 0) = some r := by first | (rw [hy248]; with_reducible exact H) | (have H2_ := (Option.bind_some _ _).symm.trans H; rw [hy248]; with_reducible exact H2_) | (have H2_ := (Option.bind_some _ _).symm.trans H; with_reducible exact H2_) | with_reducible exact H | (rw [hy248]; exact H) | exact H
                have Ny248 := Aside0.mk hy248
                clear hy248
                have H' := Aside0.mk H
                clear H
                obtain ⟨Ao62, co62, eo62⟩ := Kd.R_slice HO_3.out
                subst eo62
                go_wp2_with (first | ((with_reducible refine gate_dst (N := 101) rfl ?_); (try (refine gate_guard (by rfl) ?_; dsimp only)); refine Kd.R_make (Kd.int .u8) _ 5 rfl (N := 101) rfl 22 _ _ rfl 2097156 rfl rfl Try.underlying22 (.int .u8 0) 1 info5 rfl (by decide) (by omega) 0 (ok := fun _ => True) (okp := fun _ => True) rfl (fun _ hk => hk) trivial (by omega) (by omega) (Below.refl _ _) (Nat.le_refl _) ?_; intro v249 w63 ho64 hb hg_ hnew_; clear hg_ hnew_; (first | rw [← Ny248.out] at ho64 | (simp only [Int.reduceToNat] at ho64; rw [← Ny248.out] at ho64)); have n0_ := Aside0.mk (Kd.R_below (by (with_reducible repeat (first | apply Kd.R_alloc | apply Kd.R_drewN | apply Kd.R_drew)); exact HO_3.out) hb); have n1_ := Aside0.mk (Kd.R_lower ho64 (below_size (by repeat (first | (with_reducible first | exact HB.out | apply below_alloc | apply pw_below_drewN | apply below_drew1) | exact HB.out)))); have n2_ := Aside0.mk (below_step (by repeat (first | (with_reducible first | exact HB.out | apply below_alloc | apply pw_below_drewN | apply below_drew1) | exact HB.out)) hb); clear HO_3; clear HB; have HO_3 := n0_; have HO250 := n1_; have HB := n2_; clear n0_ n1_ n2_; clear hb ho64))
                go_loopg [6] k2 (fun kq v6 w' => ∃ (x5_3 : List Int) (x6_3 : Int), v6 = .int .i64 x6_3 ∧ Aside0 (signetrylaw15_BaseKnown.l2 kq x5_3 x6_3 = some r) ∧ Aside0 (kq ≤ k2) ∧ Aside0 (Kd.R (Kd.int .u8) 5 w' w.heap.size (fun _ => True) v249 x5_3) ∧ Aside0 (Below w.heap.size w w'))
                case atStart => exact ⟨(y248), (0), (by first | rfl | (simp; done) | (simp [*]; done)), H', ⟨Nat.le_refl _⟩, ⟨by (with_reducible repeat (first | apply Kd.R_alloc | apply Kd.R_drewN | apply Kd.R_drew)); exact HO250.out⟩, ⟨by repeat (first | (with_reducible first | exact HB.out | apply below_alloc | apply pw_below_drewN | apply below_drew1) | exact HB.out)⟩⟩
                case round =>
                  clear H'
                  try clear c1
                  try clear c1b0
                  try clear c2
                  try clear c2b0
                  try clear c2b1
                  try clear c2b2
                  try clear p2
                  try clear q2
                  try clear hx2
                  try clear c3
                  try clear hcv3
                  try clear c4
                  try clear c5
                  try clear c5b0
                  try clear c5b1
                  try clear c5b2
                  try clear c6
                  try clear c6b0
                  try clear c6b1
                  try clear c6b2
                  try clear p6
                  try clear c8
                  try clear c9
                  try clear c9b0
                  try clear c9b1
                  try clear c9b2
                  try clear c10
                  try clear c10b0
                  try clear c10b1
                  try clear c10b2
                  try clear c12
                  try clear c13
                  try clear c13b0
                  try clear c13b1
                  try clear c13b2
                  try clear c15
                  try clear c16
                  try clear c16b0
                  try clear c16b1
                  try clear c16b2
                  try clear c18
                  try clear c19
                  try clear c19b0
                  try clear c19b1
                  try clear c19b2
                  try clear c20
                  try clear c20b0
                  try clear c20b1
                  try clear c20b2
                  try clear c22
                  try clear c24
                  try clear p24
                  try clear q24
                  try clear hx24
                  try clear c26
                  try clear c28
                  try clear c30
                  try clear hcv33
                  try clear c55
                  try clear c55b0
                  try clear c56
                  try clear c56b0
                  try clear c58
                  try clear c61
                  try clear c61b0
                  try clear c61b1
                  try clear p64
                  try clear hx246_0
                  try clear p2
                  try clear p246
                  try clear p6
                  try clear q246
                  obtain ⟨x5_3, x6_3, rfl, HA, HK3, HO_5, HB⟩ := hrel
                  cases gk with
                  | zero => exact absurd HA.out (by simp [signetrylaw15_BaseKnown.l2])
                  | succ k3 =>
                    have H := HA.out
                    clear HA
                    simp only [signetrylaw15_BaseKnown.l2] at H
                    by_cases c65 : x6_3 < (x5_3.length : Int)
                    · rw [if_pos c65] at H
                      have c65b0 : decide (x6_3 < (x5_3.length : Int)) = true := decide_eq_true c65
                      clear c65
                      by_cases c66 : 0 ≤ x6_3
                      · rw [if_pos c66] at H
                        have c66b0 : decide (0 ≤ x6_3) = true := decide_eq_true c66
                        clear c66
                        obtain ⟨y251, hy251⟩ : ∃ y_ : List Int, y_ = (x5_3.set (x6_3 : Int).toNat 65) := ⟨_, rfl⟩
                        replace H : (signetrylaw15_BaseKnown.l2 k3 y251 (wrap64 (x6_3 + 1))) = some r := by first | (rw [hy251]; with_reducible exact H) | (have H2_ := (Option.bind_some _ _).symm.trans H; rw [hy251]; with_reducible exact H2_) | (have H2_ := (Option.bind_some _ _).symm.trans H; with_reducible exact H2_) | with_reducible exact H | (rw [hy251]; exact H) | exact H
                        have Ny251 := Aside0.mk hy251
                        clear hy251
                        have H' := Aside0.mk H
                        clear H
                        obtain ⟨Ao68, co68, eo68⟩ := Kd.R_slice HO_5.out
                        subst eo68
                        have p67 : 0 ≤ (x6_3 : Int) := of_decide_eq_true (by first | (with_reducible assumption) | assumption)
                        have q67 : (x6_3 : Int) < ((x5_3.length : Int) : Int) := of_decide_eq_true (by first | (with_reducible assumption) | assumption)
                        obtain ⟨go67, co67, eo67, gb67, gl67, cl67, HG67⟩ := Kd.R_form HO_5.out (by omega)
                        (first | cases eo67 | (injection eo67 with ea_ en_ ec_; (first | subst ea_ | (injection ea_ with ea_; subst ea_)); subst ec_; clear en_))
                        have GB67 := Aside0.mk gb67
                        have GG67 := Aside0.mk HG67
                        clear gb67 gl67 HG67
                        obtain ⟨hx67_0, hf67_0⟩ := Kd.R_celln 0 HO_5.out (x6_3 : Int) p67 q67
                        replace p67 := eq_true p67
                        replace q67 := eq_true q67
                        have HP69 := Kd.R_putg HO_5.out (x6_3 : Int) 65
                        go_wp2_with (first | ((with_reducible refine gate_store (t := 5) (p := 110) rfl ?_); refine store_event (t := 5) (p := 110) (v := ?vo_w70) (w1 := (wr.setCell ⟨go67, (x6_3 : Int).toNat, none⟩ (.int .u8 65))) ?hg ?ho ?hn ?hr ?_; (case ho => rfl); (case hg => rfl); (case hn => rfl); (case hr => first | (go_simp; done) | (go_simp; rfl)); intro w70 hw; have hg : wr.grownBy w70 (some go67) := (by rw [hw]; exact HP69.2); have hp_ : Kd.R (Kd.int .u8) 5 w70 w.heap.size (fun _ => True) (.slice (some ⟨go67, 0, none⟩) x5_3.length co68) y251 := (by rw [hw, Ny251.out]; exact HP69.1); clear HP69; have n0_ := Aside0.mk (hp_); have n1_ := Aside0.mk ((by rw [hw]; exact below_set (HB.out) GB67.out : Below w.heap.size w w70)); clear HO_5; clear HB; have HO_5 := n0_; have HB := n1_; clear n0_ n1_; clear hg hw hp_))
                        go_roundg k3
                        case measure => have := HK1.out; have := HK2.out; have := HK3.out; omega
                        case rel => exact ⟨(y251), (wrap64 (x6_3 + 1)), (by first | rfl | (simp; done) | (simp [*]; done)), H', ⟨by have := HK1.out; have := HK2.out; have := HK3.out; omega⟩, ⟨by (with_reducible repeat (first | apply Kd.R_alloc | apply Kd.R_drewN | apply Kd.R_drew)); exact HO_5.out⟩, ⟨by repeat (first | (with_reducible first | exact HB.out | apply below_alloc | apply pw_below_drewN | apply below_drew1) | exact HB.out)⟩⟩
                      · rw [if_neg c66] at H
                        exact absurd H (by simp)
                    · rw [if_neg c65] at H
                      have c65b0 : decide (x6_3 < (x5_3.length : Int)) = false := decide_eq_false c65
                      clear c65
                      replace H := Option.bind_eq_some_iff.mp H
                      obtain ⟨⟨t252, t253⟩, A710, H⟩ := H
                      replace H : (if 4 ≤ (x5_3.length : Int) then ((base_Bytes.f (strOfNums (x5_3.drop 4))).bind fun bt260 => ((signetrylaw15_works.f).bind fun t264 => (if t264 = true then (if t253 = 5 then (if bt260.2 = 0 then (some ((bt260.1.length : Int) == 1572864)) else (none)) else (none)) else (none)))) else (none)) = some r := H
                      have A71 := Aside0.mk A710
                      clear A710
                      by_cases c72 : 4 ≤ (x5_3.length : Int)
                      · rw [if_pos c72] at H
                        have c72b0 := eq_true c72
                        have c72b1 : decide (4 ≤ (x5_3.length : Int)) = true := decide_eq_true c72
                        clear c72
                        obtain ⟨y256, hy256⟩ : ∃ y_ : List Int, y_ = (x5_3.drop 4) := ⟨_, rfl⟩
                        replace H : ((base_Bytes.f (strOfNums y256)).bind fun bt260 => ((signetrylaw15_works.f).bind fun t264 => (if t264 = true then (if t253 = 5 then (if bt260.2 = 0 then (some ((bt260.1.length : Int) == 1572864)) else (none)) else (none)) else (none)))) = some r := by first | (rw [hy256]; with_reducible exact H) | (have H2_ := (Option.bind_some _ _).symm.trans H; rw [hy256]; with_reducible exact H2_) | (have H2_ := (Option.bind_some _ _).symm.trans H; with_reducible exact H2_) | with_reducible exact H | (rw [hy256]; exact H) | exact H
                        have Ny256 := Aside0.mk hy256
                        clear hy256
                        replace H := Option.bind_eq_some_iff.mp H
                        obtain ⟨⟨t260, t261⟩, A730, H⟩ := H
                        replace H : ((signetrylaw15_works.f).bind fun t264 => (if t264 = true then (if t253 = 5 then (if t261 = 0 then (some ((t260.length : Int) == 1572864)) else (none)) else (none)) else (none))) = some r := H
                        have A73 := Aside0.mk A730
                        clear A730
                        replace H := Option.bind_eq_some_iff.mp H
                        obtain ⟨t264, A740, H⟩ := H
                        replace H : (if t264 = true then (if t253 = 5 then (if t261 = 0 then (some ((t260.length : Int) == 1572864)) else (none)) else (none)) else (none)) = some r := H
                        have A74 := Aside0.mk A740
                        clear A740
                        by_cases c75 : t264 = true
                        · subst c75
                          have H1 : (if t253 = 5 then (if t261 = 0 then (some ((t260.length : Int) == 1572864)) else (none)) else (none)) = some r := by rw [if_pos rfl] at H; exact H
                          clear H
                          have H := H1
                          clear H1
                          by_cases c76 : t253 = 5
                          · rw [if_pos c76] at H
                            have c76b0 : (t253 == 5) = true := beq_iff_eq.mpr c76
                            have c76b1 : (t253 != 5) = false := bne_eq_false_iff_eq.mpr c76
                            clear c76
                            by_cases c77 : t261 = 0
                            · rw [if_pos c77] at H
                              have c77b0 : (t261 == 0) = true := beq_iff_eq.mpr c77
                              have c77b1 : (t261 != 0) = false := bne_eq_false_iff_eq.mpr c77
                              clear c77
                              obtain rfl := Option.some.inj H
                              obtain ⟨Ao78, co78, eo78⟩ := Kd.R_slice HO_5.out
                              subst eo78
                              have hcv79 := own_string (P := Try.prog) Try.underlying22 Try.underlying5 Try.underlying9 (Kd.own_of_R HO_5.out)
                              go_wp2_with (first | ((with_reducible refine gate_callee (f := 17) rfl ?_); refine goesL_ (some 114) rfl rfl Try.func17 (by kernel_rfl) rfl #[.string (strOfNums x5_3)] rfl (by (try simp only [List.map_toArray, List.map_cons, List.map_nil]); first | done | rfl | (simp only [List.length_drop, List.length_take]; rfl)) ?_; (with_reducible refine (base_Bytes.calls (strOfNums x5_3) t252 t253 _ A71.out).mono ?_); rintro e w80 ⟨v254, rfl, ho0, hb⟩; refine ⟨_, rfl, ?_⟩; have n0_ := Aside0.mk (Kd.R_elder' (by (with_reducible repeat (first | apply Kd.R_alloc | apply Kd.R_drewN | apply Kd.R_drew)); exact HO_5.out) (Kd.R_base ho0) hb); have n1_ := Aside0.mk (Kd.R_lower (Kd.R_new' ho0 (Kd.R_lt (by (with_reducible repeat (first | apply Kd.R_alloc | apply Kd.R_drewN | apply Kd.R_drew)); exact HO_5.out))) (below_size (by repeat (first | (with_reducible first | exact HB.out | apply below_alloc | apply pw_below_drewN | apply below_drew1) | exact HB.out)))); have n2_ := Aside0.mk (below_step (by repeat (first | (with_reducible first | exact HB.out | apply below_alloc | apply pw_below_drewN | apply below_drew1) | exact HB.out)) hb); clear HO_5; clear HB; have HO_5 := n0_; have HO255 := n1_; have HB := n2_; clear n0_ n1_ n2_; (try clear hb); (try clear hb2); (try clear hk); (try clear hi); (try clear ho0); have q81 : (4 : Int) ≤ ((x5_3.length : Int) : Int) := of_decide_eq_true (by first | (with_reducible assumption) | assumption); obtain ⟨i081, hi081, _, hsz81, _⟩ := info_parts info5; have hroom81 : x5_3.length ≤ co78 := (Kd.R_reads' HO_5.out).2.1; have hC81 : Kd.C (Kd.int .u8) _ Ao78 x5_3.length x5_3 := (Kd.R_reads' HO_5.out).2.2; have hcut81 := cut_from (P := Try.prog) 22 5 .i64 Try.underlying22 hi081 1 hsz81 Ao78 x5_3.length co78 4 (by omega) q81; have hr81 := Kd.C_drop (m := (4 : Int).toNat) (c := co78) hC81 (by omega) hroom81; obtain ⟨A81, hA81⟩ : ∃ A1, A1 = (if co78 = (4 : Int).toNat then Ao78 else (Ao78 : Option Addr).map (·.add ((4 : Int).toNat * 1))) := ⟨_, rfl⟩; obtain ⟨c81, hc81⟩ : ∃ c1, c1 = co78 - (4 : Int).toNat := ⟨_, rfl⟩; have hy81 : y256.length = x5_3.length - (4 : Int).toNat := (by rw [Ny256.out, List.length_drop] <;> omega); rw [show (x5_3).drop (4 : Int).toNat = y256 from Ny256.out.symm] at hr81; replace hr81 : Kd.C (Kd.int .u8) _ A81 y256.length y256 := (by rw [hA81]; exact hr81); rw [← hy81, ← hA81, ← hc81] at hcut81; have HR259 := Aside0.mk hr81; have HC259 := Aside0.mk (show y256.length ≤ c81 from by rw [hy81, hc81]; exact Nat.sub_le_sub_right hroom81 _); clear hr81 hC81 hroom81 hi081 hsz81 hc81; have KY81 := Aside0.mk hy81; have KA81 := Aside0.mk hA81; clear hy81 hA81; have KL81 := Aside0.mk (show 4 ≤ x5_3.length from by omega); replace q81 := eq_true q81; have hcv82 := Kd.C_string (P := Try.prog) (A := A81) (c := c81) Try.underlying22 Try.underlying5 Try.underlying9 (by repeat (first | (with_reducible exact HR259.out) | (with_reducible refine Kd.C_alloc ?_ _) | (with_reducible refine Kd.C_drewN ?_ _) | (with_reducible refine Kd.C_drew ?_) | exact HR259.out))) | ((with_reducible refine gate_callee (f := 17) rfl ?_); refine goesL_ (some 121) rfl rfl Try.func17 (by kernel_rfl) rfl #[.string (strOfNums y256)] rfl (by (try simp only [List.map_toArray, List.map_cons, List.map_nil]); first | done | rfl | (simp only [List.length_drop, List.length_take]; rfl)) ?_; (with_reducible refine (base_Bytes.calls (strOfNums y256) t260 t261 _ A73.out).mono ?_); rintro e w83 ⟨v262, rfl, ho0, hb⟩; refine ⟨_, rfl, ?_⟩; have n0_ := Aside0.mk (Kd.R_elder' (by (with_reducible repeat (first | apply Kd.R_alloc | apply Kd.R_drewN | apply Kd.R_drew)); exact HO_5.out) (Kd.R_base ho0) hb); have n1_ := Aside0.mk (Kd.R_elder' (by (with_reducible repeat (first | apply Kd.R_alloc | apply Kd.R_drewN | apply Kd.R_drew)); exact HO255.out) (Kd.R_base ho0) hb); have n2_ := Aside0.mk (Kd.R_lower (Kd.R_new' (Kd.R_new' ho0 (Kd.R_lt (by (with_reducible repeat (first | apply Kd.R_alloc | apply Kd.R_drewN | apply Kd.R_drew)); exact HO_5.out))) (Kd.R_lt (by (with_reducible repeat (first | apply Kd.R_alloc | apply Kd.R_drewN | apply Kd.R_drew)); exact HO255.out))) (below_size (by repeat (first | (with_reducible first | exact HB.out | apply below_alloc | apply pw_below_drewN | apply below_drew1) | exact HB.out)))); have n3_ := Aside0.mk (Kd.C_below (by repeat (first | (with_reducible exact HR259.out) | (with_reducible refine Kd.C_alloc ?_ _) | (with_reducible refine Kd.C_drewN ?_ _) | (with_reducible refine Kd.C_drew ?_) | exact HR259.out)) hb); have n4_ := Aside0.mk (below_step (by repeat (first | (with_reducible first | exact HB.out | apply below_alloc | apply pw_below_drewN | apply below_drew1) | exact HB.out)) hb); clear HO_5; clear HO255; clear HR259; clear HB; have HO_5 := n0_; have HO255 := n1_; have HO263 := n2_; have HR259 := n3_; have HB := n4_; clear n0_ n1_ n2_ n3_ n4_; (try clear hb); (try clear hb2); (try clear hk); (try clear hi); (try clear ho0)) | (go_at_call 16; (with_reducible refine (signetrylaw15_works.calls  true _ A74.out).mono ?_); rintro e w84 ⟨rfl, hb⟩; have n0_ := Aside0.mk (Kd.R_below (by (with_reducible repeat (first | apply Kd.R_alloc | apply Kd.R_drewN | apply Kd.R_drew)); exact HO_5.out) hb); have n1_ := Aside0.mk (Kd.R_below (by (with_reducible repeat (first | apply Kd.R_alloc | apply Kd.R_drewN | apply Kd.R_drew)); exact HO255.out) hb); have n2_ := Aside0.mk (Kd.R_below (by (with_reducible repeat (first | apply Kd.R_alloc | apply Kd.R_drewN | apply Kd.R_drew)); exact HO263.out) hb); have n3_ := Aside0.mk (Kd.C_below (by repeat (first | (with_reducible exact HR259.out) | (with_reducible refine Kd.C_alloc ?_ _) | (with_reducible refine Kd.C_drewN ?_ _) | (with_reducible refine Kd.C_drew ?_) | exact HR259.out)) hb); have n4_ := Aside0.mk (below_step (by repeat (first | (with_reducible first | exact HB.out | apply below_alloc | apply pw_below_drewN | apply below_drew1) | exact HB.out)) hb); clear HO_5; clear HO255; clear HO263; clear HR259; clear HB; have HO_5 := n0_; have HO255 := n1_; have HO263 := n2_; have HR259 := n3_; have HB := n4_; clear n0_ n1_ n2_ n3_ n4_; (try clear hb); (try clear hb2); (try clear hk); (try clear hi); obtain ⟨Ao85, co85, eo85⟩ := Kd.R_slice HO263.out; subst eo85))
                              go_ret
                              exact ⟨by first | rfl | (simp [errW_none, errW_some] <;> rfl) | (simp [*, errW_none, errW_some] <;> rfl), by repeat (first | (with_reducible first | exact HB.out | apply below_alloc | apply pw_below_drewN | apply below_drew1) | exact HB.out)⟩
                            · rw [if_neg c77] at H
                              exact absurd H (by simp)
                          · rw [if_neg c76] at H
                            exact absurd H (by simp)
                        · replace c75 := Bool.eq_false_iff.mpr c75
                          subst c75
                          have H1 : (none) = some r := by rw [if_neg (show ¬ (false = true) by decide)] at H; exact H
                          clear H
                          have H := H1
                          clear H1
                          exact absurd H (by simp)
                      · rw [if_neg c72] at H
                        exact absurd H (by simp)
              · rw [if_neg c61] at H
                exact absurd H (by simp)

/-- THE ONE PURE STATEMENT of signetrylaw15_BaseKnown: yours. -/
def signetrylaw15_BaseKnown.Pure : Prop := ∃ k, signetrylaw15_BaseKnown.f k  = some true
theorem signetrylaw15_BaseKnown.walk (P : signetrylaw15_BaseKnown.Pure)  (w : World)  :
    Calls Try.prog 10 #[] w fun e w' => e = .returned (.bool true) ∧ Below w.heap.size w w' := by
  obtain ⟨k, h⟩ := P  
  refine (signetrylaw15_BaseKnown.calls k  true w h).mono ?_
  rintro e w' ⟨rfl, hd⟩
  exact ⟨rfl, hd⟩

end Go.Proofs.Ytbgncppjoaihlaa.PAll
