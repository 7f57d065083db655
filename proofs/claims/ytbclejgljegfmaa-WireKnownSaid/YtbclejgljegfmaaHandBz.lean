/-
  A record of 2^20 bytes: what Make, Check and Bytes answer. A literal '[]Rec{r}': a row of one record, as a step.
-/
import Derived.Test.YtbclejgljegfmaaAp
import Derived.Test.YtbclejgljegfmaaGC
import Derived.Test.YtbclejgljegfmaaGP
import Derived.Test.YtbclejgljegfmaaHandBytes
import Derived.Test.YtbclejgljegfmaaHandChk
section
namespace Go.Proofs.Ytbclejgljegfmaa.Hand
open Go.RowKit Go.Proofs.Ytbclejgljegfmaa.PAll Go.Proofs.YtbclejgljegfmaaW.PrintWords Go.Proofs.YtbclejgljegfmaaW.PrintLast Go.Proofs.YtbclejgljegfmaaW.PrintMore
set_option linter.unusedVariables false

theorem zeros_isB (n : Nat) : isB (List.replicate n (0 : Int)) = true := by
  simp only [isB, List.all_eq_true, Bool.and_eq_true, decide_eq_true_eq]
  intro x hx
  rw [List.eq_of_mem_replicate hx]
  omega
def bigR (Z : List Int) : List Int := 10 :: 128 :: 128 :: 64 :: Z
theorem rdn_tag (r : List Int) : rdn (10 :: r) 0 0 = (10, 1, 0) := by simp [rdn]
theorem rdn_len (r : List Int) : rdn (128 :: 128 :: 64 :: r) 0 0 = (1048576, 3, 0) := by simp [rdn]
theorem nxt_big {Z : List Int} (hZ : Z.length = 1048576) : nxt (bigR Z) = (1, 2, 0, Z, bigR Z, 1048580, 0) := by
  have hb : body 2 (128 :: 128 :: 64 :: Z) = (0, Z, 1048579, 0) := by
    unfold body
    rw [if_neg (by decide), if_neg (by decide), if_pos rfl, rdn_len]
    simp only
    rw [if_neg (by decide), if_neg (by decide), if_neg (by simp only [List.length_cons, hZ]; omega)]
    simp only [List.drop_succ_cons, List.drop_zero]
    rw [List.take_of_length_le (by omega)]
    rfl
  unfold nxt bigR
  rw [rdn_tag]
  simp only
  rw [if_neg (by decide), if_neg (by decide), show ((10 : Int) % 8) = 2 from rfl, show ((10 : Int) / 8) = 1 from rfl, List.drop_succ_cons, List.drop_zero, hb]
  simp only
  rw [if_neg (by decide), List.take_of_length_le (by simp only [List.length_cons]; omega)]
  rfl
theorem make_big (k : Nat) {Z : List Int} (hZ : Z.length = 1048576) : wire_Make.f (k + 1) 1 2 0 Z = some (1, 2, 0, Z, bigR Z, 0) := by
  have e1 : wire_Var.f ([] : List Int) (Go.bits .or .u64 (IntKind.u64.wrap ((IntKind.u64.wrap (1)) * 8)) (IntKind.u64.wrap (Go.bits .and .i64 2 7))) = some [10] := p162z
  have e2 : wire_Var.f [10] (IntKind.u64.wrap ((1048576 : Nat) : Int)) = some [10, 128, 128, 64] := p162z
  have e3 : aG.f Z = some Z := if_pos (by omega)
  rw [wire_Make.f, if_neg (by decide), show decide ((1 : Int) > 536870911) = false from by decide, wire_Make.j0, if_neg (by decide), e1, Option.bind_some, if_neg (by decide), if_neg (by decide), if_pos rfl, if_neg (by omega), e3, Option.bind_some, hZ, e2, Option.bind_some, if_pos (by simp only [List.length_cons, List.length_nil]; omega)]
  rfl
theorem make_long (k : Nat) {Z : List Int} (hZ : Z.length = 1048577) : wire_Make.f (k + 1) 1 2 0 Z = some (0, 0, 0, [], [], 5) := by
  have e1 : wire_Var.f ([] : List Int) (Go.bits .or .u64 (IntKind.u64.wrap ((IntKind.u64.wrap (1)) * 8)) (IntKind.u64.wrap (Go.bits .and .i64 2 7))) = some [10] := p162z
  rw [wire_Make.f, if_neg (by decide), show decide ((1 : Int) > 536870911) = false from by decide, wire_Make.j0, if_neg (by decide), e1, Option.bind_some, if_neg (by decide), if_neg (by decide), if_pos rfl, if_pos (by omega)]
theorem big_isRec {Z : List Int} (hZ : Z.length = 1048576) (hB : isB Z = true) : isRec ⟨1, 2, 0, Z, bigR Z⟩ = true := by
  have h2 : isB (bigR Z) = true := by
    unfold bigR isB
    simp only [List.all_cons]
    rw [show (Z.all fun x => decide (0 ≤ x) && decide (x ≤ 255)) = true from hB]
    rfl
  unfold isRec
  simp only
  rw [hB, h2, decide_eq_true (by omega), decide_eq_true (by unfold bigR; simp only [List.length_cons]; omega)]
  rfl
theorem big_chk {Z : List Int} (hZ : Z.length = 1048576) : chk ⟨1, 2, 0, Z, bigR Z⟩ = 0 := by
  unfold chk
  have hl : ((bigR Z).length : Int) = 1048580 := by unfold bigR; simp only [List.length_cons, hZ]; rfl
  simp only
  rw [nxt_big hZ, hl, if_pos rfl]
theorem bytes_big {Z : List Int} (hZ : Z.length = 1048576) (hB : isB Z = true) : dM.f [⟨1, 2, 0, Z, bigR Z⟩] = some ([], 5) := by
  unfold dM.f
  have hl : (bigR Z).length = 1048580 := by unfold bigR; simp only [List.length_cons, hZ]
  rw [if_pos ⟨by simp only [List.all_cons, List.all_nil, Bool.and_true]; exact big_isRec hZ hB, by simp⟩, if_pos (by simp only [List.all_cons, List.all_nil, Bool.and_true, big_chk hZ]; rfl), if_pos (by simp only [List.flatMap_cons, List.flatMap_nil, List.append_nil]; omega)]
theorem check_big {Z : List Int} (hZ : Z.length = 1048576) (hB : isB Z = true) (k : Nat) (hk : 2097157 ≤ k) : bq.f k 1 2 0 Z (bigR Z) = some 0 := by
  have hl : (bigR Z).length = 1048580 := by unfold bigR; simp only [List.length_cons, hZ]
  have := check_f (big_isRec hZ hB) k (by show Z.length + (bigR Z).length + 1 ≤ k; omega)
  rw [big_chk hZ] at this
  exact this
theorem jE {k : Nat} {Z : List Int} {a b c : Int} {d e : List Int} {g : Int} (hZ : Z = List.replicate 1048576 0) (h : wire_Make.f k 1 2 0 Z = some (a, b, c, d, e, g)) : dM.f [⟨a, b, c, d, e⟩] = some ([], 5) := by
  have hl : Z.length = 1048576 := by rw [hZ, List.length_replicate]
  have hB : isB Z = true := by rw [hZ]; exact zeros_isB _
  cases k with
  | zero =>
    rw [wire_Make.f, if_neg (by decide)] at h
    simp [wire_Make.j0] at h
  | succ k =>
    rw [make_big k hl] at h
    simp only [Option.some.injEq, Prod.mk.injEq] at h
    obtain ⟨rfl, rfl, rfl, rfl, rfl, rfl⟩ := h
    exact bytes_big hl hB
theorem kX : ∃ (hS t224 ie t239 t242 gw dX : List Int) (fl : List S33), wire_Var.f [18] 1048577 = some hS ∧ wire_Next.f hS = some (0, 0, 0, t224, ie, 0, 5) ∧
 wire_Make.f 1 1 2 0 (List.replicate 1048577 0) = some (0, 0, 0, t239, t242, 5) ∧ wire_Make.f 1 1 2 0 (List.replicate 1048576 0) = some (1, 2, 0, gw, dX, 0) ∧ aN.f 1 (List.replicate 1048577 0) = some (fl, 5) ∧
 bq.f 3000000 1 2 0 gw dX = some 0 ∧ bq.f 1 0 0 0 ([] : List Int) ([] : List Int) = some 2 := by
 obtain ⟨Z, hZ⟩ : ∃ Z : List Int, Z = List.replicate 1048576 0 := ⟨_, rfl⟩
 obtain ⟨Y, hY⟩ : ∃ Y : List Int, Y = List.replicate 1048577 0 := ⟨_, rfl⟩
 have zl : Z.length = 1048576 := by rw [hZ, List.length_replicate]
 have yl : Y.length = 1048577 := by rw [hY, List.length_replicate]
 have zB : isB Z = true := by rw [hZ]; exact zeros_isB _
 rw [← hZ, ← hY]
 refine ⟨[18, 129, 128, 64], [], [], [], [], Z, bigR Z, [], p162z, p16z, make_long 0 yl, make_big 0 zl, ?_, check_big zl zB 3000000 p162z, ?_⟩
 ·unfold aN.f
  rw [if_pos (by omega)]
 ·unfold bq.f
  rw [show wire_Next.f ([] : List Int) = some (0, 0, 0, [], [], 0, 3) from p16z, Option.bind_some]
  simp only
  rw [if_neg (by decide)]
end Go.Proofs.Ytbclejgljegfmaa.Hand
end
section
namespace Go.Proofs.Ytbclejgljegfmaa.Hand
open Go.RowKit Go.Proofs.Ytbclejgljegfmaa.PAll Go.Proofs.YtbclejgljegfmaaW.PrintWords Go.Proofs.YtbclejgljegfmaaW.PrintLast Go.Proofs.YtbclejgljegfmaaW.PrintMore
set_option linter.unusedVariables false

theorem row1_C {W : World} {x : S33} {A3 A4 : Option Addr} {c3 c4 : Nat} (l3 : x.f3.length ≤ c3) (g3 : Kd.C (Kd.int .u8) W A3 x.f3.length x.f3) (l4 : x.f4.length ≤ c4) (g4 : Kd.C (Kd.int .u8) W A4 x.f4.length x.f4) :
 Kd.C k33 (W.alloc (.cells #[.int .i64 x.f0, .int .i64 x.f1, .int .u64 x.f2, .slice A3 x.f3.length c3, .slice A4 x.f4.length c4] 33)) (some ⟨W.heap.size, 0, none⟩) 1 [x] := by
 have hb := below_alloc (Below.refl W.heap.size W) (.cells #[.int .i64 x.f0, .int .i64 x.f1, .int .u64 x.f2, .slice A3 x.f3.length c3, .slice A4 x.f4.length c4] 33)
 refine ⟨rfl, by decide, fun _ => ⟨_, rfl, ?_⟩⟩
 intro j p hp
 rcases j with _ | j
 ·simp only [List.getElem?_cons_zero, Option.some.injEq] at hp
  subst hp
  refine ⟨_, rfl, k33_mk _ x l3 (Kd.C_below g3 hb) l4 (Kd.C_below g4 hb), ?_⟩
  intro i u hu
  have hn := blk_new W (.cells #[.int .i64 x.f0, .int .i64 x.f1, .int .u64 x.f2, .slice A3 x.f3.length c3, .slice A4 x.f4.length c4] 33)
  have h2 := blk_cell hn i
  rw [Nat.zero_mul, Nat.zero_add]
  have e : Addr.add ⟨W.heap.size, 0, none⟩ i = ⟨W.heap.size, i, none⟩ := by
   unfold Addr.add
   split
   ·rename_i h0
    rw [h0]
   ·simp
  rw [e, h2]
  simpa using hu
 ·simp at hp
theorem kY {P : Program} {ops : Array Oper} {rest : List Oper} {o : Oper} {a : Act} {Q : Exit → Act → World → Prop} {W : World} (hgd : o.guard = none) {N : Tmp} (_hd : o.dst = some N) {x : S33} {A3 A4 : Option Addr} {c3 c4 : Nat} (l3 : x.f3.length ≤ c3) (g3 : Kd.C (Kd.int .u8) W A3 x.f3.length x.f3) (l4 : x.f4.length ≤ c4) (g4 : Kd.C (Kd.int .u8) W A4 x.f4.length x.f4)
    (hrun : (execOp a.eval o).run P W = .ok (.value (.slice (some ⟨W.heap.size, 0, none⟩) 1 1)) (W.alloc (.cells #[.int .i64 x.f0, .int .i64 x.f1, .int .u64 x.f2, .slice A3 x.f3.length c3, .slice A4 x.f4.length c4] 33)))
    (h : ∀ g w1, Kd.C k33 w1 (some ⟨g, 0, none⟩) 1 [x] → Below W.heap.size W w1 → wpList P ops Q rest (a.put o.dst (.slice (some ⟨g, 0, none⟩) 1 1)) w1) : wpList P ops Q (o :: rest) a W :=
  Kd.event_run hgd hrun (h _ _ (row1_C l3 g3 l4 g4) (below_alloc (Below.refl _ _) _))
end Go.Proofs.Ytbclejgljegfmaa.Hand
end
