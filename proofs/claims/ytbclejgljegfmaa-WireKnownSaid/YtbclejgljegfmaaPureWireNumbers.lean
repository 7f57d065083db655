/-
  WireNumbers: Var, Size, Zig and Zag answer as the chapter says, of all numbers; Var takes nothing behind the bytes it was given.
-/
import Derived.Test.YtbclejgljegfmaaAp
import Derived.Test.YtbclejgljegfmaaLNumbers
import Derived.Test.YtbclejgljegfmaaPlainNum
namespace Go.Proofs.Ytbclejgljegfmaa.Pure
open Go.RowKit Go.Proofs.Ytbclejgljegfmaa.PAll Go.Proofs.Ytbclejgljegfmaa.Plain Go.Proofs.YtbclejgljegfmaaW.PrintWords Go.Proofs.YtbclejgljegfmaaW.PrintLast Go.Proofs.YtbclejgljegfmaaW.PrintMore Go.Proofs.Ytbclejgljegfmaa.Hand

theorem kQ (k : Nat) (l0 l v : List Int) (a1 a2 z n s : Int) (m : Nat) (hm : mn (l0.length : Int) 40 = (m : Int)) (hm1 : m ≤ l0.length) (hl : l = l0.take m) (hlen : l.length = m) (hs : m ≤ 40)
    (e1 : wire_Var.f l a1 = some (l ++ v)) (e2 : aj.f k l a1 = some (l ++ v)) (e3 : wire_Size.f a1 = some s) (e4 : aA.f k a1 = some s)
    (e5 : wire_Zig.f a2 = some z) (e6 : az.f a2 = some z) (e7 : wire_Zag.f a1 = some n) (e8 : au.f a1 = some n) : bs.f k l0 a1 a2 = some true := by
  unfold bs.f
  rw [hm, if_pos (by omega), if_pos (by omega), Int.toNat_natCast, ← hl, copy_f (by omega)]
  rw [Option.bind_some, Option.bind_some, if_pos (by rw [hlen]; show m + 3 < _; omega), Option.bind_some]
  rw [if_pos (by omega), if_pos (by rw [List.length_append]; omega), Int.toNat_natCast, List.take_left, Option.bind_some]
  have h3 : (l ++ [7, 7, 7] : List Int).length = m + 3 := by rw [List.length_append, hlen]; rfl
  have ht : (l ++ [7, 7, 7] : List Int).take (m + 3) = l ++ [7, 7, 7] := List.take_of_length_le (by omega)
  have hd : (l ++ [7, 7, 7] : List Int).drop l.length = [7, 7, 7] := List.drop_left ..
  rw [e1, Option.bind_some, e2, Option.bind_some, eq_refl_f, Option.bind_some, if_pos rfl, w64 (by omega) (by omega), if_pos (by omega), if_pos (by omega), show ((l.length : Int) + 3).toNat = m + 3 by omega, ht, Option.bind_some]
  rw [if_pos (by omega), hd, eq_refl_f, Option.bind_some, if_pos rfl, eq_refl_f, Option.bind_some, if_pos rfl]
  rw [e3, Option.bind_some, e4, Option.bind_some, if_pos rfl, e5, Option.bind_some, e6, Option.bind_some, if_pos rfl, e7, Option.bind_some, e8, Option.bind_some, if_pos rfl]
  rfl
theorem WireNumbers : bs.Pure := by
 intro l0 a1 a2 _ _ _ h1 h2
 obtain ⟨u0, u1⟩ := u64_of h1
 obtain ⟨i0, i1⟩ := i64_of h2
 obtain ⟨m, hm, hm1, hm2⟩ : ∃ m : Nat, mn (l0.length : Int) 40 = (m : Int) ∧ m ≤ l0.length ∧ m ≤ 40 := by
  unfold mn
  split
  ·exact ⟨40, rfl, by omega, by omega⟩
  ·exact ⟨l0.length, rfl, by omega, by omega⟩
 have hlen : (l0.take m).length = m := p170z
 exact ⟨10, kQ 10 l0 (l0.take m) (vr 9 a1) a1 a2 (zg a2) (zb a1) _ m hm hm1 rfl hlen hm2
  (by rw [wire_Var.f, if_pos ⟨by omega, by simp [isU64]; omega⟩]) (rvar_f (by omega) u0 u1 10 (by omega)) (size_f u0 u1) (rsize_f u0 u1 10 (by omega)) (zig_f i0 i1) (rzig_f i0 i1) (zag_f u0 u1) (rzag_f u0 u1)⟩
end Go.Proofs.Ytbclejgljegfmaa.Pure
