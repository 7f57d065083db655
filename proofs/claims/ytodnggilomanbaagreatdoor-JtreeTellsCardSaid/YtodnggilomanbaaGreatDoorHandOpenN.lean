/-
  A node that came in, as a tree of lists. No walk.
-/
import Derived.Test.YtodnggilomanbaaGreatDoorAp
import Derived.Test.YtodnggilomanbaaGreatDoorHandSame
import Derived.ChangeSame
import Derived.ChangeSlices
import Derived.SliceStrings
import Derived.Deep.Slices
set_option maxRecDepth 100000
namespace Go.Proofs.YtodnggilomanbaaGreatDoor.Hand
open Go.ChangeShapes Go.WideShapes Go.Deep Go.RowKit Go.Proofs.YtodnggilomanbaaGreatDoorW.PrintWords Go.Proofs.YtodnggilomanbaaGreatDoorW.PrintLast Go.Proofs.YtodnggilomanbaaGreatDoorW.PrintMore Go.Proofs.YtodnggilomanbaaGreatDoor.PAll
set_option linter.unusedVariables false
set_option linter.unusedSimpArgs false

theorem list_of {α : Type} {P : Nat → α → Prop} : ∀ n : Nat, (∀ i, i < n → ∃ x, P i x) → ∃ l : List α, l.length = n ∧ ∀ i x, l[i]? = some x → P i x
 | 0, _ => ⟨[], rfl, fun i x h => by simp at h⟩
 | n + 1, h => by
  obtain ⟨l, h1, h2⟩ := list_of n (fun i hi => h i (by omega))
  obtain ⟨x, hx⟩ := h n (by omega)
  refine ⟨l ++ [x], by simp [h1], fun i y hy => ?_⟩
  rcases Nat.lt_or_ge i l.length with hi | hi
  ·rw [List.getElem?_append_left hi] at hy
   exact h2 i y hy
  ·rw [List.getElem?_append_right hi] at hy
   have hi2 : i = l.length := by
    rcases Nat.eq_or_lt_of_le hi with h | h
    ·exact h.symm
    ·rw [List.getElem?_eq_none (by simp; omega)] at hy
     cases hy
   subst hi2
   simp at hy
   subst hy
   rw [h1]
   exact hx
section
variable {H : Type} {enc : TypeId × Value → H} {w : World} {base : Nat} {held : Bool}
theorem open_strs {fuel : Nat} {v : Value} {y : DataW H × List MemPlace} (h : DataW.trod enc Tryz.prog w base (fun _ => true) held fuel 22 [v] = some y) :
 ∃ (A : Option Addr) (c : Nat) (l : List ByteArray), v = .slice A l.length c ∧ l.length ≤ c ∧ Kd.string.C w A l.length l := by
 rcases open_strings Tryz.underlying22 Tryz.underlying9 p12z h with ⟨hcs, _⟩ | ⟨a, len, cap, ss, hcs, _, hl, hm, hs, _, hcell, _⟩
 ·simp only [List.cons.injEq, and_true] at hcs
  exact ⟨none, 0, [], hcs, Nat.le_refl _, Kd.C_nil _ _⟩
 ·simp only [List.cons.injEq, and_true] at hcs
  subst hcs
  have hsl : ss.length = cap := hs
  have hlt : (ss.take len).length = len := by rw [List.length_take]; omega
  refine ⟨some a, cap, ss.take len, by rw [hlt], by omega, rfl, by rw [hlt]; unfold maxLen at hm; omega, fun _ => ⟨a, rfl, fun j p hp => ?_⟩⟩
  have hj : j < len := by
   have := (List.getElem?_eq_some_iff.1 hp).1
   omega
  rw [List.getElem?_take, if_pos hj] at hp
  have hc := hcell j (by omega)
  rw [List.getD_eq_getElem?_getD, hp] at hc
  refine ⟨[.string p], rfl, rfl, fun i u hu => ?_⟩
  rcases i with _ | i
  ·cases hu
   show w.cell? (a.add (j * 1 + 0)) = _
   rw [show j * 1 + 0 = j by omega]
   exact hc
  ·simp at hu
theorem gp (fuel : Nat) : ∀ (cs : List Value) (x : DataW H × List MemPlace), DataW.trod enc Tryz.prog w base (fun _ => true) held fuel 28 cs = some x →
 ∃ (n : S28) (A2 : Option Addr) (c2 : Nat) (A3 : Option Addr) (c3 : Nat), cs = [.int .i64 n.f0, .string n.f1, .slice A2 n.f2.length c2, .slice A3 n.f3.length c3] ∧ (n.f2.length ≤ c2 ∧ Kd.string.C w A2 n.f2.length n.f2) ∧ (n.f3.length ≤ c3 ∧ k28.C w A3 n.f3.length n.f3) := by
 induction fuel using Nat.strongRecOn with
 | _ fuel ih =>
  intro cs x h
  obtain ⟨xs, m, rfl, _, hlen, hxl, hf⟩ := DataW.trod_struct Tryz.underlying28 h
  have h4 : cs.length = 4 := hlen.trans p12z
  have hx4 : xs.length = 4 := hxl
  obtain ⟨v0, v1, v2, v3, rfl⟩ : ∃ v0 v1 v2 v3, cs = [v0, v1, v2, v3] := by
   match cs, h4 with
   | [v0, v1, v2, v3], _ => exact ⟨v0, v1, v2, v3, rfl⟩
  obtain ⟨y0, y1, y2, y3, rfl⟩ : ∃ y0 y1 y2 y3, xs = [y0, y1, y2, y3] := by
   match xs, hx4 with
   | [y0, y1, y2, y3], _ => exact ⟨y0, y1, y2, y3, rfl⟩
  have t0 : DataW.trod enc Tryz.prog w base (fun _ => true) held m 3 [v0] = some y0 := hf 0 _ rfl
  have t1 : DataW.trod enc Tryz.prog w base (fun _ => true) held m 9 [v1] = some y1 := hf 1 _ rfl
  have t2 : DataW.trod enc Tryz.prog w base (fun _ => true) held m 22 [v2] = some y2 := hf 2 _ rfl
  have t3 : DataW.trod enc Tryz.prog w base (fun _ => true) held m 26 [v3] = some y3 := hf 3 _ rfl
  obtain ⟨n0, e0, _⟩ := DataW.trod_int Tryz.underlying3 t0
  obtain ⟨n1, e1, _⟩ := DataW.trod_string Tryz.underlying9 t1
  simp only [List.cons.injEq, and_true] at e0 e1
  subst e0 e1
  obtain ⟨A2, c2, l2, rfl, q2, g2⟩ := open_strs t2
  rcases DataW.trod_slice Tryz.underlying26 t3 with ⟨e3, _⟩ | ⟨a, len, cap, elems, rest, n, rfl, e3, _, _, hl, hm, hel, hi, _⟩
  ·simp only [List.cons.injEq, and_true] at e3
   subst e3
   exact ⟨⟨n0, n1, l2, []⟩, A2, c2, none, 0, rfl, ⟨q2, g2⟩, ⟨Nat.le_refl _, Kd.C_nil _ _⟩⟩
  ·simp only [List.cons.injEq, and_true] at e3
   subst e3
   have hC : Tryz.prog.cellsOf 28 = 4 := p12z
   rw [hC] at hi
   have hP : ∀ i, i < len → ∃ r : S28, ∃ c, c.length = 4 ∧ k28.K w r c ∧ ∀ j u, c[j]? = some u → w.cell? (a.add (i * 4 + j)) = some u := by
    intro i hlt
    have h1 := hi i hlt
    rw [List.getElem?_eq_getElem (by omega)] at h1
    obtain ⟨cs', hc, ht⟩ := Option.bind_eq_some_iff.1 h1
    obtain ⟨r, B2, d2, B3, d3, rfl, ⟨q2', g2'⟩, ⟨q3', g3'⟩⟩ := ih n (by omega) cs' _ ht
    obtain ⟨_, hcl, hat⟩ := World.cells?_some hc
    refine ⟨r, _, rfl, k28_mk w r q2' g2' q3' g3', fun j u hu => ?_⟩
    have hj : j < 4 := (List.getElem?_eq_some_iff.1 hu).1
    rw [← hu, ← hat j hj, Go.Deep.add_add]
   obtain ⟨l, h1, h2⟩ := list_of len hP
   subst h1
   refine ⟨⟨n0, n1, l2, l⟩, A2, c2, some a, cap, rfl, ⟨q2, g2⟩, ⟨hl, rfl, by unfold maxLen at hm; show l.length ≤ _; omega, fun _ => ⟨a, rfl, fun j p hp => ?_⟩⟩⟩
   obtain ⟨c, q1, q3, q4⟩ := h2 j p hp
   exact ⟨c, q1, q3, q4⟩
theorem open_node {v : Value} {cs : Array Value} {x : DataW H × List MemPlace} (hv : v = .agg cs) (h : ∃ fuel, DataW.trod enc Tryz.prog w base (fun _ => true) held fuel 28 v.cells.toList = some x) :
    ∃ (n : S28) (A2 : Option Addr) (c2 : Nat) (A3 : Option Addr) (c3 : Nat), v = nodeV n A2 c2 A3 c3 ∧ (n.f2.length ≤ c2 ∧ Kd.string.C w A2 n.f2.length n.f2) ∧ (n.f3.length ≤ c3 ∧ k28.C w A3 n.f3.length n.f3) := by
  subst hv
  obtain ⟨fuel, hf⟩ := h
  obtain ⟨n, A2, c2, A3, c3, e, h2, h3⟩ := gp fuel _ _ hf
  obtain ⟨L⟩ := cs
  have hL : (Value.cells (.agg ⟨L⟩)).toList = L := rfl
  rw [hL] at e
  subst e
  exact ⟨n, A2, c2, A3, c3, rfl, h2, h3⟩
end
end Go.Proofs.YtodnggilomanbaaGreatDoor.Hand
