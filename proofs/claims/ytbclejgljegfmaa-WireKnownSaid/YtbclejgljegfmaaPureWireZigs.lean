/-
  WireZigs: Zig and Zag undo each other, for all numbers; what lies nearer to zero is the smaller number.
-/
import Derived.Test.YtbclejgljegfmaaLZigs
import Derived.Test.YtbclejgljegfmaaPlainNum
namespace Go.Proofs.Ytbclejgljegfmaa.Pure
open Go.RowKit Go.Proofs.Ytbclejgljegfmaa.PAll Go.Proofs.Ytbclejgljegfmaa.Plain Go.Proofs.YtbclejgljegfmaaW.PrintWords Go.Proofs.YtbclejgljegfmaaW.PrintLast Go.Proofs.YtbclejgljegfmaaW.PrintMore Go.Proofs.Ytbclejgljegfmaa.Hand

/-- How far from zero, as the statement tells it. -/
def far (a : Int) : Int := if a < 0 then -(a + 1) else a
theorem zg_half (a : Int) : zg a / 2 = far a := by unfold zg far; split <;> split <;> omega
theorem zg_odd {a : Int} (h0 : -9223372036854775808 ≤ a) (h1 : a ≤ 9223372036854775807) : (((Int.tmod (zg a) 2) == 1) == (decide (a < 0))) = true := by
 have := zg_in h0 h1
 rw [Int.tmod_eq_emod_of_nonneg this.1]
 unfold zg
 split
 ·rw [decide_eq_false (by omega), beq_iff_eq, beq_eq_false_iff_ne]
  omega
 ·rw [decide_eq_true (by omega), beq_iff_eq, beq_iff_eq]
  omega

theorem zigs_j2 {a b : Int} (a0 : -9223372036854775808 ≤ a) (a1 : a ≤ 9223372036854775807) (b0 : -9223372036854775808 ≤ b) (b1 : b ≤ 9223372036854775807) (k : Nat) : ae.j2 (k + 1) a b (far a) (far b) = some true := by
 have za := zg_in a0 a1
 have zb' := zg_in b0 b1
 have hd : far a = far b → IntKind.u64.wrap (mx (zg a) (zg b) - mn (zg a) (zg b)) ≤ 1 := by
  intro h
  have h0 : 0 ≤ mx (zg a) (zg b) - mn (zg a) (zg b) ∧ mx (zg a) (zg b) - mn (zg a) (zg b) ≤ 1 := by
   unfold mx mn far at *
   unfold zg
   repeat' split
   all_goals (first | omega | (repeat' split at h) <;> omega)
  rw [wu64 h0.1 (by omega)]
  exact h0.2
 simp only [ae.j2]
 rw [zig_f a0 a1, zig_f b0 b1]
 simp only [Option.bind_some, zg_odd a0 a1, if_true, ac.f]
 by_cases h : far a ≥ far b
 case pos =>
  rw [if_pos h]
  by_cases he : far a = far b
  case neg =>
   rw [if_neg he]
  rw [if_pos he, if_pos (hd he)]
 rw [if_neg h, if_pos (by unfold far at h; unfold zg; (repeat' split at h) <;> (repeat' split) <;> omega), if_neg (by omega)]
theorem WireZigs : ae.Pure := by
 intro a b n ha hb hn
 obtain ⟨a0, a1⟩ := i64_of ha
 obtain ⟨b0, b1⟩ := i64_of hb
 obtain ⟨n0, n1⟩ := u64_of hn
 have za := zg_in a0 a1
 have zb' := zg_in b0 b1
 refine ⟨3, ?_⟩
 unfold ae.f
 rw [zig_f a0 a1]
 simp only [Option.bind_some]
 rw [zag_f za.1 za.2]
 simp only [Option.bind_some, zg_zb, if_true]
 rw [zag_f n0 n1]
 simp only [Option.bind_some]
 have nb := zb_in n0 n1
 rw [zig_f nb.1 nb.2]
 simp only [Option.bind_some, zb_zg n0]
 simp only [ae.j0]
 rw [if_neg (by simp), zig_f a0 a1, zig_f b0 b1]
 simp only [Option.bind_some]
 rw [Int.tdiv_eq_ediv_of_nonneg za.1, Int.tdiv_eq_ediv_of_nonneg zb'.1, zg_half, zg_half]
 have fa : ∀ x : Int, -9223372036854775808 ≤ x → x ≤ 9223372036854775807 → 0 ≤ far x ∧ far x < 2 ^ 63 := by
  intro x _ _
  unfold far
  split <;> omega
 have fa1 := fa a a0 a1
 have fb1 := fa b b0 b1
 rw [wu64 (x := far a) (by omega) (by omega), wu64 (x := far b) (by omega) (by omega)]
 have e : ∀ x : Int, -9223372036854775808 ≤ x → x < 0 → IntKind.u64.wrap (wrap64 (-(wrap64 (x + 1)))) = far x := by
  intro x h0 h1
  rw [w64 (x := x + 1) (by omega) (by omega), w64 (by omega) (by omega), wu64 (by omega) (by omega)]
  unfold far
  rw [if_pos h1]
 have hj : (if a < 0 then ae.j1 2 a b (IntKind.u64.wrap (wrap64 (-(wrap64 (a + 1))))) (far b) else ae.j1 2 a b (far a) (far b)) = ae.j1 2 a b (far a) (far b) := by
  split
  ·rw [e a a0 (by assumption)]
  ·rfl
 rw [hj]
 simp only [ae.j1]
 have hj : (if b < 0 then ae.j2 1 a b (far a) (IntKind.u64.wrap (wrap64 (-(wrap64 (b + 1))))) else ae.j2 1 a b (far a) (far b)) = ae.j2 1 a b (far a) (far b) := by
  split
  ·rw [e b b0 (by assumption)]
  ·rfl
 rw [hj]
 exact zigs_j2 a0 a1 b0 b1 0
end Go.Proofs.Ytbclejgljegfmaa.Pure
