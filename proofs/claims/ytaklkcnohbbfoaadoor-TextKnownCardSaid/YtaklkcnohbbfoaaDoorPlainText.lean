/-
  Plain words of the text chapter: no walk.
-/
import Derived.Test.YtaklkcnohbbfoaaDoorGW
namespace Go.Proofs.YtaklkcnohbbfoaaDoor.Pure
open Go.RowKit Go.Proofs.YtaklkcnohbbfoaaDoor.PAll Go.Proofs.YtaklkcnohbbfoaaDoorW.PrintWords Go.Proofs.YtaklkcnohbbfoaaDoorW.PrintLast Go.Proofs.YtaklkcnohbbfoaaDoorW.PrintMore Go.Proofs.YtaklkcnohbbfoaaDoor.Hand
set_option linter.unusedVariables false
set_option linter.unusedSimpArgs false
set_option maxRecDepth 1000000 in
theorem works_at : signetrylaw02_works.f 60 = some true := by decide +kernel
theorem leO_le {α : Type} {f : Nat → Option α} (m : ∀ k, LeO (f k) (f (k + 1))) {a b : Nat} (h : a ≤ b) : LeO (f a) (f b) := by
  induction h with
  | refl => exact LeO.refl _
  | step _ ih => exact LeO.trans ih (m _)
theorem works_up {k : Nat} (h : 60 ≤ k) : signetrylaw02_works.f k = some true := leO_le signetrylaw02_works.mono h _ works_at
theorem w64 {x : Int} (h0 : -9223372036854775808 ≤ x) (h1 : x ≤ 9223372036854775807) : wrap64 x = x := by unfold wrap64; omega
theorem u8_of {x : Int} (h : (Lit.int .u8 x).wf = true) : 0 ≤ x ∧ x ≤ 255 := by
  have h : (decide (0 ≤ x) && decide (x ≤ 255)) = true := h
  simpa using h
theorem i64_of {x : Int} (h : (Lit.int .i64 x).wf = true) : -9223372036854775808 ≤ x ∧ x ≤ 9223372036854775807 := by
  have h : (decide (-9223372036854775808 ≤ x) && decide (x ≤ 9223372036854775807)) = true := h
  simpa using h
theorem isBy_of {l : List Int} (h : ∀ x ∈ l, (Lit.int .u8 x).wf = true) : isBy l = true := by
  simp only [isBy, List.all_eq_true, Bool.and_eq_true, decide_eq_true_eq]
  intro x hx
  exact u8_of (h x hx)
theorem isBy_take {l : List Int} (h : isBy l = true) (n : Nat) : isBy (l.take n) = true := List.all_eq_true.2 fun x hx => List.all_eq_true.1 h x (List.mem_of_mem_take hx)
theorem isBy_drop {l : List Int} (h : isBy l = true) (n : Nat) : isBy (l.drop n) = true := List.all_eq_true.2 fun x hx => List.all_eq_true.1 h x (List.mem_of_mem_drop hx)
theorem isBy_mem {l : List Int} (h : isBy l = true) {x : Int} (hx : x ∈ l) : 0 ≤ x ∧ x ≤ 255 := by
  have := List.all_eq_true.1 h x hx
  simpa using this
theorem isBy_bytesOf (s : ByteArray) : isBy (bytesOf s) = true := by
  refine List.all_eq_true.2 fun x hx => ?_
  simp only [bytesOf, List.mem_map] at hx
  obtain ⟨b, _, rfl⟩ := hx
  have := b.toNat_lt
  simp
  omega
theorem mn_nat (n m : Nat) : mn (n : Int) (m : Int) = ((min n m : Nat) : Int) := by
  unfold mn
  split <;> omega
theorem copy_f {l : List Int} (h : l.length < 140737488355328) : signetryref00_CopyBytes.f l = some l := by
  unfold signetryref00_CopyBytes.f
  rw [if_pos (by simpa using h)]
  rfl
theorem eq_refl_f (l : List Int) : signetryref00_EqBytes.f l l = some true := by simp [signetryref00_EqBytes.f]
theorem rd_cons {l : List Int} {i : Nat} {c : Int} {u : List Int} (h : l.drop i = c :: u) : rd l (i : Int) = c ∧ l.drop (i + 1) = u ∧ i < l.length := rd_drop h
theorem bt_cons {s : ByteArray} {i : Nat} {c : Int} {u : List Int} (h : (bytesOf s).drop i = c :: u) : bt s (i : Int) = c ∧ (bytesOf s).drop (i + 1) = u ∧ i < s.size := by
  obtain ⟨h1, h2, h3⟩ := rd_drop h
  rw [bytesOf_length] at h3
  refine ⟨?_, h2, h3⟩
  rw [bt_getD]
  simpa [rd] using h1
theorem drop_nil {s : ByteArray} {i : Nat} (h : (bytesOf s).drop i = []) : s.size ≤ i := by
  have := List.drop_eq_nil_iff.1 h
  rwa [bytesOf_length] at this
theorem u8s_bytesOf (s : ByteArray) : u8s (bytesOf s) = s.data.toList := by
  rw [u8s, bytesOf, List.map_map]
  conv => rhs; rw [← List.map_id s.data.toList]
  refine List.map_congr_left fun x _ => ?_
  simp
theorem bytesOf_str {l : List Int} (h : isBy l = true) : bytesOf (strOfNums l) = l := by
  have e : (strOfNums l).data.toList = u8s l := rfl
  rw [bytesOf, e, u8s, List.map_map]
  conv => rhs; rw [← List.map_id l]
  refine List.map_congr_left fun x hx => ?_
  obtain ⟨h0, h1⟩ := isBy_mem h hx
  simp only [Function.comp, id]
  rw [UInt8.toNat_ofNat']
  omega
theorem bytesOf_inj {s t : ByteArray} (h : bytesOf s = bytesOf t) : s = t := by
  have e : s.data.toList = t.data.toList := by rw [← u8s_bytesOf, ← u8s_bytesOf, h]
  cases s; cases t
  simp only at e
  congr 1
  exact Array.toList_inj.1 e
end Go.Proofs.YtaklkcnohbbfoaaDoor.Pure
