/-
  WireBack: records that Make made are told again by Split out of the bytes that Bytes made of them (40 at most).
-/
import Derived.Test.YtbclejgljegfmaaLBack
import Derived.Test.YtbclejgljegfmaaPlainMade
import Derived.Test.YtbclejgljegfmaaPlainSame
import Derived.Test.YtbclejgljegfmaaHandOpen
namespace Go.Proofs.Ytbclejgljegfmaa.Pure
open Go.RowKit Go.Proofs.Ytbclejgljegfmaa.PAll Go.Proofs.Ytbclejgljegfmaa.Plain Go.Proofs.YtbclejgljegfmaaW.PrintWords Go.Proofs.YtbclejgljegfmaaW.PrintLast Go.Proofs.YtbclejgljegfmaaW.PrintMore Go.Proofs.Ytbclejgljegfmaa.Hand

/-- What is known of a row that came in. -/
structure CameRow (x : S45) : Prop where
  n2 : (Lit.int .u64 x.f2).wf = true
  b3 : ∀ y ∈ x.f3, (Lit.int .u8 y).wf = true
theorem flat_le100 : ∀ l : List S33, (∀ r ∈ l, r.f4.length ≤ 100) → (l.flatMap S33.f4).length ≤ 100 * l.length
  | [], _ => by simp
  | r :: l, h => by
    rw [List.flatMap_cons, List.length_append, List.length_cons]
    have := flat_le100 l (fun x hx => h x (List.mem_cons_of_mem _ hx))
    have := h r List.mem_cons_self
    omega
theorem flat_isB : ∀ l : List S33, (∀ r ∈ l, Right r) → isB (l.flatMap S33.f4) = true
  | [], _ => rfl
  | r :: l, h => by
    rw [List.flatMap_cons]
    exact isB_append.2 ⟨(isRec_parts (h r List.mem_cons_self).1).2.1, flat_isB l (fun x hx => h x (List.mem_cons_of_mem _ hx))⟩
theorem back_j1 (l : List S45) (acc : List S33) (i : Int) (hl : acc.length ≤ 40) (hr : ∀ r ∈ acc, Right r ∧ r.f4.length ≤ 100) (k : Nat) (hk : 5000 ≤ k) : signetrylaw01_WireBack.j1 k l acc i false = some true := by
  obtain ⟨k, rfl⟩ : ∃ q, k = q + 1 := ⟨k - 1, by omega⟩
  have hall : acc.all isRec = true := List.all_eq_true.2 (fun r h => (hr r h).1.1)
  have hchk : acc.all (fun r => decide (chk r = 0)) = true := List.all_eq_true.2 (fun r h => decide_eq_true (right_chk (hr r h).1))
  have hfl := flat_le100 acc (fun r h => (hr r h).2)
  have hB : wire_Bytes.f acc = some (acc.flatMap S33.f4, 0) := by
    rw [wire_Bytes.f, if_pos ⟨hall, by omega⟩, if_pos hchk, if_neg (show ¬ ((acc.flatMap S33.f4).length > 1048576) by omega)]
  have hiB := flat_isB acc (fun r h => (hr r h).1)
  have hS : split (acc.flatMap S33.f4) = (acc, 0) := by
    unfold split
    rw [if_neg (by omega), spl_back acc _ [] (fun r h => (hr r h).1) (by omega)]
    rfl
  simp only [signetrylaw01_WireBack.j1]
  rw [if_neg (by simp), hB, Option.bind_some, wsplit_f hiB (by omega) k (by omega), Option.bind_some, hS, hB, Option.bind_some]
  simp only [if_true]
  rw [sames_f acc (by omega) k (by omega), Option.bind_some, if_pos rfl, eq_refl_f]
  rfl
theorem rd45_eq (l : List S45) (i : Nat) (h : i < l.length) : l[i]? = some (rd_T45 l (i : Int)) := by
  simp [rd_T45, List.getD_eq_getElem?_getD, List.getElem?_eq_getElem h]
theorem back_l0 (l : List S45) (hl : ∀ x ∈ l, CameRow x) (d : Nat) : ∀ (k i : Nat) (acc : List S33), 40 - i = d → i ≤ 40 → acc.length = i → (∀ r ∈ acc, Right r ∧ r.f4.length ≤ 100) → 2 * d + 5010 ≤ k → signetrylaw01_WireBack.l0 k l acc i = some true := by
  induction d with
  | zero =>
    intro k i acc hd hi ha hr hk
    obtain ⟨k, rfl⟩ : ∃ q, k = q + 1 := ⟨k - 1, by omega⟩
    have hj := back_j1 l acc i (by omega) hr k (by omega)
    simp only [signetrylaw01_WireBack.l0]
    by_cases h : (i : Int) < (l.length : Int)
    · rw [if_pos h, decide_eq_false (by omega), hj]
    · rw [if_neg h, hj]
  | succ d ih =>
    intro k i acc hd hi ha hr hk
    obtain ⟨k, rfl⟩ : ∃ q, k = q + 2 := ⟨k - 2, by omega⟩
    have hj := back_j1 l acc i (by omega) hr (k + 1) (by omega)
    simp only [signetrylaw01_WireBack.l0]
    by_cases h : i < l.length
    · have hx := rd45_eq l i h
      have hc := hl _ (List.mem_of_getElem? hx)
      rw [if_pos (by omega), decide_eq_true (show (i : Int) < 40 by omega)]
      simp only [signetrylaw01_WireBack.j1]
      generalize rd_T45 l (i : Int) = x at *
      obtain ⟨u0, u1⟩ := u64_of hc.n2
      obtain ⟨r, hm, hR, hR1⟩ := made_f x.f0 x.f1 x.f2 x.f3 x.f4 u0 u1 (isB_of hc.b3) k (by omega)
      rw [if_pos trivial, if_pos (by omega), if_pos (by omega), hm, Option.bind_some]
      simp only [if_true]
      rw [if_pos (by omega), w64 (by omega) (by omega)]
      refine ih k (i + 1) _ (by omega) (by omega) (by simp [ha]) ?_ (by omega)
      intro y hy
      rcases List.mem_append.1 hy with hy | hy
      · exact hr y hy
      · obtain rfl := List.mem_singleton.1 hy
        exact ⟨hR, hR1⟩
    · rw [if_neg (by omega), hj]
theorem WireBack (l : List S45) (hl : ∀ x ∈ l, CameRow x) : signetrylaw01_WireBack.f 6000 l = some true := by
  unfold signetrylaw01_WireBack.f
  rw [signetrylaw01_works.f, Option.bind_some, if_pos rfl]
  exact back_l0 l hl 40 6000 0 [] rfl (by omega) rfl (by simp) (by omega)
end Go.Proofs.Ytbclejgljegfmaa.Pure
namespace Go.Proofs.Ytbclejgljegfmaa.Hand
open Go.ChangeShapes Go.WideShapes Go.Deep Go.RowKit Go.Proofs.YtbclejgljegfmaaW.PrintWords Go.Proofs.YtbclejgljegfmaaW.PrintLast Go.Proofs.YtbclejgljegfmaaW.PrintMore Go.Proofs.Ytbclejgljegfmaa.PAll
set_option linter.unusedVariables false
set_option linter.unusedSimpArgs false
theorem open_rows {H : Type} {enc : TypeId × Value → H} {w : World} {base : Nat} {held : Bool} {fuel : Nat} {cs : List Value} {x : DataW H × List MemPlace} (h : DataW.trod enc Try.prog w base (fun _ => true) held fuel 59 cs = some x) :
    ∃ (A : Option Addr) (c : Nat) (l : List S45), cs = [.slice A l.length c] ∧ l.length ≤ c ∧ c ≤ maxLen ∧ Kd.C k45 w A l.length l ∧ ∀ r ∈ l, Pure.CameRow r := by
  rcases open_slice_fields Try.underlying59 Try.underlying45 (by kernel_rfl) (by kernel_rfl) h with ⟨rfl, _⟩ | ⟨a, len, cap, m, D, Pl, rfl, _, hl, hm, hmm, _, hf⟩
  · exact ⟨none, 0, [], rfl, Nat.le_refl _, by simp [maxLen], Kd.C_nil _ _, by simp⟩
  · have hmc : m = cap := by rw [hmm]; rfl
    have hP : ∀ i, i < len → ∃ r : S45, Pure.CameRow r ∧ ∃ c, c.length = 5 ∧ k45.K w r c ∧ ∀ j u, c[j]? = some u → w.cell? (a.add (i * 5 + j)) = some u := by
      intro i hi
      obtain ⟨ys, n, _, _, _, hj⟩ := hf i (by omega)
      obtain ⟨v0, y0, k0, _, t0⟩ := hj 0 _ rfl
      obtain ⟨v1, y1, k1, _, t1⟩ := hj 1 _ rfl
      obtain ⟨v2, y2, k2, _, t2⟩ := hj 2 _ rfl
      obtain ⟨v3, y3, k3, _, t3⟩ := hj 3 _ rfl
      obtain ⟨v4, y4, k4, _, t4⟩ := hj 4 _ rfl
      obtain ⟨n0, e0, _, w0⟩ := DataW.trod_int Try.underlying3 t0
      obtain ⟨n1, e1, _, w1⟩ := DataW.trod_int Try.underlying3 t1
      obtain ⟨n2, e2, _, w2⟩ := DataW.trod_int Try.underlying23 t2
      obtain ⟨n4, e4, _, w4⟩ := DataW.trod_int Try.underlying3 t4
      simp only [List.cons.injEq, and_true] at e0 e1 e2 e4
      subst e0 e1 e2 e4
      obtain ⟨A3, c3, l3, rfl, q3, g3, u3⟩ := open_bytes t3
      refine ⟨⟨n0, n1, n2, l3, n4⟩, ⟨w2, u3⟩, _, ?_, k45_mk w ⟨n0, n1, n2, l3, n4⟩ q3 g3, ?_⟩
      · rfl
      · intro j u hu
        rcases j with _ | _ | _ | _ | _ | j
        · cases hu; exact k0
        · cases hu; exact k1
        · cases hu; exact k2
        · cases hu; exact k3
        · cases hu; exact k4
        · simp at hu
    obtain ⟨l, h1, h2⟩ := list_of len hP
    subst h1
    refine ⟨some a, cap, l, rfl, hl, hm, ⟨rfl, by unfold maxLen at hm; omega, fun _ => ⟨a, rfl, fun j p hp => ?_⟩⟩, fun r hr => ?_⟩
    · obtain ⟨_, c, q1, q2, q3⟩ := h2 j p hp
      exact ⟨c, q1, q2, q3⟩
    · obtain ⟨i, hi, rfl⟩ := List.mem_iff_getElem.1 hr
      exact (h2 i _ (List.getElem?_eq_getElem hi)).1
end Go.Proofs.Ytbclejgljegfmaa.Hand
