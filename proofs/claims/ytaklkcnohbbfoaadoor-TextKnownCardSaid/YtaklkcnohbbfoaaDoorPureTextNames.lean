/-
  TextNames: the plain law.
-/
import Derived.Test.YtaklkcnohbbfoaaDoorLNames
import Derived.Test.YtaklkcnohbbfoaaDoorPlainText
namespace Go.Proofs.YtaklkcnohbbfoaaDoor.Pure
open Go.RowKit Go.Proofs.YtaklkcnohbbfoaaDoor.PAll Go.Proofs.YtaklkcnohbbfoaaDoorW.PrintWords Go.Proofs.YtaklkcnohbbfoaaDoorW.PrintLast Go.Proofs.YtaklkcnohbbfoaaDoorW.PrintMore Go.Proofs.YtaklkcnohbbfoaaDoor.Hand
set_option linter.unusedVariables false
set_option linter.unusedSimpArgs false

def isDg (c : Int) : Bool := decide (48 ≤ c) && decide (c ≤ 57)
def isLt (c : Int) : Bool := (decide (97 ≤ c) && decide (c ≤ 122)) || (decide (65 ≤ c) && decide (c ≤ 90)) || decide (c = 95)
def idC (c : Int) : Bool := isLt c || isDg c
def idI (l : List Int) : Bool := decide (1 ≤ l.length) && decide (l.length ≤ 32) && !isDg (l.getD 0 0) && l.all idC
theorem letter_tab : ∀ c : Fin 256, text_letter.f ((c.val : Nat) : Int) = some (isLt ((c.val : Nat) : Int)) := by decide +kernel
theorem letter_f {c : Int} (h0 : 0 ≤ c) (h1 : c ≤ 255) : text_letter.f c = some (isLt c) := by
  have := letter_tab ⟨c.toNat, by omega⟩
  simp only at this
  rwa [show ((c.toNat : Nat) : Int) = c from Int.toNat_of_nonneg h0] at this
theorem digit_f (c : Int) : text_digit.f c = some (isDg c) := by
  unfold text_digit.f isDg
  split
  · rename_i h; rw [show decide (48 ≤ c) = true by simpa using h]; rfl
  · rename_i h; rw [show decide (48 ≤ c) = false by simpa using h]; rfl
theorem rdigit_f (c : Int) : signetryref02_digit.f c = some (isDg c) := digit_f c
theorem small_f (c : Int) : signetryref02_small.f c = some (decide (97 ≤ c) && decide (c ≤ 122)) := by
  unfold signetryref02_small.f
  split
  · rename_i h; rw [show decide (97 ≤ c) = true by simpa using h]; rfl
  · rename_i h; rw [show decide (97 ≤ c) = false by simpa using h]; rfl
theorem great_f (c : Int) : signetryref02_great.f c = some (decide (65 ≤ c) && decide (c ≤ 90)) := by
  unfold signetryref02_great.f
  split
  · rename_i h; rw [show decide (65 ≤ c) = true by simpa using h]; rfl
  · rename_i h; rw [show decide (65 ≤ c) = false by simpa using h]; rfl
theorem tId_loop (l : List Int) (hB : isBy l = true) (hl : l.length ≤ 1099511627776) : ∀ (u : List Int) (i k : Nat), l.drop i = u → i ≤ l.length → text_IsIdent.l0 (u.length + 1 + k) l (l.length : Int) (i : Int) = some (u.all idC)
  | [], i, k, hu, hi => by
    have := List.drop_eq_nil_iff.1 hu
    rw [show ([] : List Int).length + 1 + k = k + 1 by simp; omega, text_IsIdent.l0, if_neg (by omega)]
    rfl
  | c :: u, i, k, hu, hi => by
    obtain ⟨h1, h2, h3⟩ := rd_cons hu
    obtain ⟨b0, b1⟩ := isBy_mem (isBy_drop hB i) (show c ∈ l.drop i by rw [hu]; simp)
    have ih := tId_loop l hB hl u (i + 1) k h2 (by omega)
    have hw : wrap64 ((i : Int) + 1) = ((i + 1 : Nat) : Int) := by rw [w64 (by omega) (by omega)]; omega
    rw [show (c :: u).length + 1 + k = (u.length + 1 + k) + 1 by simp; omega, text_IsIdent.l0, if_pos (by omega), if_pos (by omega), if_pos (by omega), h1, letter_f b0 b1, Option.bind_some, hw, ih, digit_f, Option.bind_some]
    rw [List.all_cons, idC]
    cases isLt c <;> cases isDg c <;> simp
theorem tId {s : ByteArray} {k : Nat} (hs : s.size ≤ 1099511627776) (hk : s.size + 3 ≤ k) : text_IsIdent.f k s = some (idI (bytesOf s)) := by
  have hl := bytesOf_length s
  obtain ⟨q, rfl⟩ : ∃ q, k = q + 1 := ⟨k - 1, by omega⟩
  unfold text_IsIdent.f idI
  rw [hl]
  by_cases h0 : s.size = 0
  · rw [if_pos (by rw [ByteArray.toList_eq]; exact List.eq_nil_of_length_eq_zero (by rw [data_length]; exact h0)), text_IsIdent.j0, if_pos rfl, show decide (1 ≤ s.size) = false from decide_eq_false (by omega)]
    rfl
  · rw [if_neg (toList_ne (by omega))]
    by_cases h32 : (s.size : Int) > 32
    · rw [if_pos h32, text_IsIdent.j0, if_pos rfl, show decide (s.size ≤ 32) = false by simp; omega]
      simp
    · rw [if_neg h32, if_pos (by omega), digit_f, Option.bind_some, text_IsIdent.j0]
      have e0 : bt s 0 = (bytesOf s).getD 0 0 := bt_getD s 0
      rw [e0, show decide (1 ≤ s.size) = true from decide_eq_true (by omega), show decide (s.size ≤ 32) = true by simp; omega]
      cases hd : isDg ((bytesOf s).getD 0 0)
      · rw [if_neg (by simp), show gosem_bytesOf.f s = some (bytesOf s) by unfold gosem_bytesOf.f; rw [if_pos (by omega)], Option.bind_some]
        have := tId_loop (bytesOf s) (isBy_bytesOf s) (by omega) (bytesOf s) 0 (q - (s.size + 1)) (by simp) (by omega)
        rw [hl, show s.size + 1 + (q - (s.size + 1)) = q by omega] at this
        rw [hl]
        rw [show ((0 : Nat) : Int) = 0 from rfl] at this
        rw [this]
        simp
      · rw [if_pos rfl]
        simp
theorem rId_loop (s : ByteArray) (hs : s.size ≤ 1099511627776) : ∀ (u : List Int) (i k : Nat), (bytesOf s).drop i = u → 0 < i → i ≤ s.size → signetryref02_IsIdent.l0 (u.length + 1 + k) s (i : Int) = some (u.all idC && decide (s.size ≤ 32))
  | [], i, k, hu, hi, hi2 => by
    have := drop_nil hu
    rw [show ([] : List Int).length + 1 + k = k + 1 by simp; omega, signetryref02_IsIdent.l0, if_neg (by omega), if_pos (by omega)]
    simp
    omega
  | c :: u, i, k, hu, hi, hi2 => by
    obtain ⟨h1, h2, h3⟩ := bt_cons hu
    have ih := rId_loop s hs u (i + 1) k h2 (by omega) (by omega)
    have hw : wrap64 ((i : Int) + 1) = ((i + 1 : Nat) : Int) := by rw [w64 (by omega) (by omega)]; omega
    rw [show (c :: u).length + 1 + k = (u.length + 1 + k) + 1 by simp; omega, signetryref02_IsIdent.l0, if_pos (by omega), if_pos (by omega), h1, small_f, great_f, rdigit_f, Option.bind_some, Option.bind_some, Option.bind_some, hw, ih, if_neg (show ¬ (i : Int) = 0 by omega)]
    rw [List.all_cons, idC, isLt]
    by_cases e1 : (decide (97 ≤ c) && decide (c ≤ 122)) = true
    · rw [if_pos e1, e1]; simp
    · rw [if_neg e1, Bool.eq_false_iff.2 e1]
      by_cases e2 : (decide (65 ≤ c) && decide (c ≤ 90)) = true
      · rw [if_pos e2, e2]; simp
      · rw [if_neg e2, Bool.eq_false_iff.2 e2]
        by_cases e3 : c = 95
        · rw [if_pos e3, decide_eq_true e3]; simp
        · rw [if_neg e3, decide_eq_false e3]
          cases isDg c <;> simp
theorem rId {s : ByteArray} {k : Nat} (hs : s.size ≤ 1099511627776) (hk : s.size + 1 ≤ k) : signetryref02_IsIdent.f k s = some (idI (bytesOf s)) := by
  have hl := bytesOf_length s
  unfold signetryref02_IsIdent.f idI
  rw [hl]
  rcases hu : bytesOf s with _ | ⟨c, u⟩
  · have h0 : s.size = 0 := by rw [← hl, hu]; rfl
    obtain ⟨q, rfl⟩ : ∃ q, k = q + 1 := ⟨k - 1, by omega⟩
    rw [signetryref02_IsIdent.l0, if_neg (by omega), if_neg (by omega), show decide (1 ≤ s.size) = false from decide_eq_false (by omega)]
    rfl
  · obtain ⟨h1, h2, h3⟩ := bt_cons (s := s) (i := 0) (c := c) (u := u) (by simpa using hu)
    have hlen : u.length + 1 = s.size := by rw [← hl, hu]; rfl
    obtain ⟨q, rfl⟩ : ∃ q, k = (u.length + 1 + q) + 1 := ⟨k - (u.length + 2), by omega⟩
    have ih := rId_loop s hs u 1 q h2 (by omega) (by omega)
    have hw : wrap64 (0 + 1) = ((1 : Nat) : Int) := by rw [w64 (by omega) (by omega)]; rfl
    rw [show ((0 : Nat) : Int) = 0 from rfl] at h1
    rw [signetryref02_IsIdent.l0, if_pos (by omega), if_pos (by omega), h1, small_f, great_f, rdigit_f, Option.bind_some, Option.bind_some, hw, ih, if_pos rfl, show decide (1 ≤ s.size) = true from decide_eq_true (by omega)]
    simp only [List.getD_cons_zero, List.all_cons, idC, isLt]
    by_cases e1 : (decide (97 ≤ c) && decide (c ≤ 122)) = true
    · have hnd : isDg c = false := by simp only [isDg, Bool.and_eq_true, decide_eq_true_eq] at e1 ⊢; simp; omega
      rw [if_pos e1, e1, hnd]; cases u.all idC <;> cases decide (s.size ≤ 32) <;> rfl
    · rw [if_neg e1, Bool.eq_false_iff.2 e1]
      by_cases e2 : (decide (65 ≤ c) && decide (c ≤ 90)) = true
      · have hnd : isDg c = false := by simp only [isDg, Bool.and_eq_true, decide_eq_true_eq] at e2 ⊢; simp; omega
        rw [if_pos e2, e2, hnd]; cases u.all idC <;> cases decide (s.size ≤ 32) <;> rfl
      · rw [if_neg e2, Bool.eq_false_iff.2 e2]
        by_cases e3 : c = 95
        · have hnd : isDg c = false := by subst e3; rfl
          rw [if_pos e3, decide_eq_true e3, hnd]; cases u.all idC <;> cases decide (s.size ≤ 32) <;> rfl
        · rw [if_neg e3, decide_eq_false e3]
          cases isDg c <;> cases u.all idC <;> cases decide (s.size ≤ 32) <;> rfl

/-! ### IsFull -/
def putH (cur : List Int) : List (List Int) → List (List Int)
  | [] => [cur]
  | h :: t => (cur ++ h) :: t
def seg : List Int → List (List Int)
  | [] => [[]]
  | c :: u => if c = 46 then [] :: seg u else putH [c] (seg u)
theorem seg_ne (u : List Int) : seg u ≠ [] := by
  cases u with
  | nil => simp [seg]
  | cons c u =>
    unfold seg
    split
    · simp
    · cases seg u <;> simp [putH]
theorem putH_putH (a b : List Int) (l : List (List Int)) (h : l ≠ []) : putH a (putH b l) = putH (a ++ b) l := by
  cases l with
  | nil => exact absurd rfl h
  | cons x t => simp [putH]
/-- What the reference tells of a cut-off beginning and the rest. -/
def rf (cur : List Int) : List Int → Bool
  | [] => idI cur
  | c :: u => if c = 46 then idI cur && rf [] u else rf (cur ++ [c]) u
theorem rf_seg : ∀ (u cur : List Int), rf cur u = (putH cur (seg u)).all idI
  | [], cur => by simp [rf, seg, putH]
  | c :: u, cur => by
    unfold rf seg
    split
    · rw [rf_seg u []]
      have h := seg_ne u
      rcases hs : seg u with _ | ⟨x, t⟩
      · exact absurd hs h
      · simp [putH]
    · rw [rf_seg u (cur ++ [c]), putH_putH _ _ _ (seg_ne u)]
theorem extract_snoc (s : ByteArray) (a i : Nat) (c : Int) (u : List Int) (ha : a ≤ i) (h : (bytesOf s).drop i = c :: u) : bytesOf (s.extract a (i + 1)) = bytesOf (s.extract a i) ++ [c] := by
  obtain ⟨h1, h2, h3⟩ := rd_drop h
  rw [bytesOf_extract, bytesOf_extract, List.take_add_one, List.getElem?_eq_getElem h3]
  have e : (bytesOf s)[i] = c := by
    rw [List.drop_eq_getElem_cons h3] at h
    exact (List.cons.inj h).1
  rw [e, List.drop_append_of_le_length (by rw [List.length_take]; omega)]
  simp
theorem rFull_loop (s : ByteArray) (hs : s.size ≤ 1099511627776) (k : Nat) (hk : s.size + 1 ≤ k) : ∀ (u : List Int) (a i : Nat), (bytesOf s).drop i = u → a ≤ i → i ≤ s.size →
    signetryref02_IsFull.l0 (2 * u.length + 3 + k) s (a : Int) (i : Int) = some (rf (bytesOf (s.extract a i)) u && decide (s.size ≤ 128))
  | [], a, i, hu, ha, hi => by
    have := drop_nil hu
    obtain rfl : i = s.size := by omega
    rw [show 2 * ([] : List Int).length + 3 + k = (k + 1) + 1 + 1 by simp; omega, signetryref02_IsFull.l0, if_pos (by omega), if_pos rfl, signetryref02_IsFull.j1, if_pos rfl, if_pos (by omega), if_pos (by omega), if_pos (by omega)]
    have hz : (s.extract a s.size).size ≤ s.size := by rw [ByteArray.size_extract]; omega
    rw [Int.toNat_natCast, Int.toNat_natCast, rId (by omega) (by omega), Option.bind_some, rf, w64 (by omega) (by omega)]
    cases hid : idI (bytesOf (s.extract a s.size))
    · rw [if_neg (by simp)]
      simp
    · rw [if_pos rfl, signetryref02_IsFull.l0, if_neg (by omega)]
      simp
      omega
  | c :: u, a, i, hu, ha, hi => by
    obtain ⟨h1, h2, h3⟩ := bt_cons hu
    have hw : wrap64 ((i : Int) + 1) = ((i + 1 : Nat) : Int) := by rw [w64 (by omega) (by omega)]; omega
    rw [show 2 * (c :: u).length + 3 + k = (2 * u.length + 3 + k) + 1 + 1 by simp; omega, signetryref02_IsFull.l0, if_pos (by omega), if_neg (by omega), if_pos (by omega), if_pos (by omega), h1, signetryref02_IsFull.j1, rf]
    by_cases hc : c = 46
    · rw [if_pos (by simpa using hc), if_pos hc, if_pos (by omega), if_pos (by omega), if_pos (by omega), Int.toNat_natCast, Int.toNat_natCast]
      have hz : (s.extract a i).size ≤ s.size := by rw [ByteArray.size_extract]; omega
      rw [rId (by omega) (by omega), Option.bind_some, hw]
      cases hid : idI (bytesOf (s.extract a i))
      · rw [if_neg (by simp)]
        simp
      · rw [if_pos rfl, rFull_loop s hs k hk u (i + 1) (i + 1) h2 (Nat.le_refl _) (by omega)]
        have e : bytesOf (s.extract (i + 1) (i + 1)) = [] := by
          refine List.eq_nil_of_length_eq_zero ?_
          rw [bytesOf_length, ByteArray.size_extract]
          omega
        rw [e]
        simp
    · rw [if_neg (by simpa using hc), if_neg hc, hw, rFull_loop s hs k hk u a (i + 1) h2 (by omega) (by omega), extract_snoc s a i c u ha hu]
theorem rFull {s : ByteArray} {k : Nat} (hs : s.size ≤ 1099511627776) (hk : 3 * s.size + 4 ≤ k) : signetryref02_IsFull.f k s = some ((seg (bytesOf s)).all idI && decide (s.size ≤ 128)) := by
  unfold signetryref02_IsFull.f
  have hl := bytesOf_length s
  have := rFull_loop s hs (k - (2 * s.size + 3)) (by omega) (bytesOf s) 0 0 (by simp) (Nat.le_refl _) (Nat.zero_le _)
  rw [hl, show 2 * s.size + 3 + (k - (2 * s.size + 3)) = k by omega] at this
  rw [show ((0 : Nat) : Int) = 0 from rfl] at this
  rw [this, rf_seg]
  have e : bytesOf (s.extract 0 0) = [] := by
    refine List.eq_nil_of_length_eq_zero ?_
    rw [bytesOf_length, ByteArray.size_extract]
    omega
  rw [e]
  have h := seg_ne (bytesOf s)
  rcases hs2 : seg (bytesOf s) with _ | ⟨x, t⟩
  · exact absurd hs2 h
  · simp [putH]
/-- Split at a byte, over lists of bytes. -/
def segB : List UInt8 → List (List UInt8)
  | [] => [[]]
  | c :: u => if c = 46 then [] :: segB u else match segB u with
    | [] => [[c]]
    | h :: t => (c :: h) :: t
theorem indexByte_in : ∀ {u : List UInt8}, (46 : UInt8) ∈ u → 0 ≤ Lib.indexByte u 46
  | b :: u, h => by
    unfold Lib.indexByte
    by_cases hb : b = 46
    · simp [hb]
    · have ih := indexByte_in (u := u) (by
        rcases List.mem_cons.1 h with e | e
        · exact absurd e.symm hb
        · exact e)
      rw [if_neg (by simpa using hb), if_neg (by simp; omega)]
      omega
theorem split_seg : ∀ l : List UInt8, Lib.splitK [46] 0 (l.count 46) l = segB l
  | [] => rfl
  | c :: u => by
    have ih := split_seg u
    unfold segB
    by_cases hc : c = 46
    · subst hc
      rw [if_pos rfl, List.count_cons_self, Lib.splitK, Lib.index_one, Lib.indexByte]
      simp only [beq_self_eq_true, if_true]
      rw [← ih]
      simp
    · rw [if_neg hc, List.count_cons_of_ne (by simpa using hc), ← ih]
      rcases hk : u.count 46 with _ | q
      · rfl
      · have hin : (46 : UInt8) ∈ u := List.count_pos_iff.1 (by omega)
        rw [Lib.splitK, Lib.splitK, Lib.index_one, Lib.index_one, Lib.indexByte]
        have hb : (c == 46) = false := by simpa using hc
        rw [hb]
        have hge : Lib.indexByte u 46 ≠ -1 := by
          intro e
          have := indexByte_in hin
          omega
        have h0 := Lib.indexByte_ge u 46
        have hne : (Lib.indexByte u 46 == -1) = false := by simpa using hge
        rw [hne]
        simp only [Bool.false_eq_true, if_false]
        have hne2 : (Lib.indexByte u 46 + 1 == -1) = false := by simp; omega
        rw [hne2]
        simp only [Bool.false_eq_true, if_false]
        have e1 : (Lib.indexByte u 46 + 1).toNat = (Lib.indexByte u 46).toNat + 1 := by omega
        rw [e1]
        simp [Nat.add_right_comm]
theorem segB_seg : ∀ l : List UInt8, (segB l).map (fun d => d.map fun b => (b.toNat : Int)) = seg (l.map fun b => (b.toNat : Int))
  | [] => rfl
  | c :: u => by
    have ih := segB_seg u
    unfold segB
    rw [List.map_cons, seg]
    by_cases hc : c = 46
    · subst hc
      rw [if_pos rfl, if_pos (by rfl), List.map_cons, ih]
      rfl
    · have hc2 : ¬ ((c.toNat : Int) = 46) := fun e => hc (by
        have : c.toNat = 46 := by omega
        exact UInt8.toNat_inj.1 this)
      rw [if_neg hc, if_neg hc2, ← ih]
      rcases segB u with _ | ⟨h, t⟩
      · rfl
      · simp [putH]
theorem pieces_seg (s : ByteArray) : (pieces s).map bytesOf = seg (bytesOf s) := by
  have h1 := Lib.splitB_data dot 0 (Lib.countB s dot) s
  have h2 : Lib.countB s dot = s.data.toList.count 46 := Lib.count_one 46 s.data.toList
  have h3 : dot.data.toList = [46] := rfl
  rw [h3, h2, split_seg] at h1
  have h4 := segB_seg s.data.toList
  rw [← h1, List.map_map] at h4
  rw [pieces, h2]
  exact h4
theorem seg_len : ∀ (l : List Int) (x : List Int), x ∈ seg l → x.length ≤ l.length
  | [], x, h => by simp [seg] at h; simp [h]
  | c :: u, x, h => by
    unfold seg at h
    split at h
    · rcases List.mem_cons.1 h with rfl | h
      · simp
      · have := seg_len u x h
        simp
        omega
    · have hs := seg_len u
      rcases hq : seg u with _ | ⟨y, t⟩
      · rw [hq] at h
        simp [putH] at h
        simp [h]
      · rw [hq] at h hs
        simp only [putH, List.mem_cons] at h
        rcases h with rfl | h
        · have := hs y (by simp)
          simp
          omega
        · have := hs x (by simp [h])
          simp
          omega
theorem full_all : ∀ ps : List ByteArray, (∀ p ∈ ps, p.size ≤ 128) → full ps = some ((ps.map bytesOf).all idI)
  | [], _ => rfl
  | p :: r, h => by
    have h1 := h p (by simp)
    rw [full, tId (by omega) (by omega), Option.bind_some, full_all r (fun q hq => h q (by simp [hq]))]
    cases hid : idI (bytesOf p)
    · simp [hid]
    · simp [hid]
theorem tFull (s : ByteArray) : text_IsFull.f s = some ((seg (bytesOf s)).all idI && decide (s.size ≤ 128)) := by
  unfold text_IsFull.f
  split
  · rename_i h
    rw [decide_eq_false (show ¬ s.size ≤ 128 by omega), Bool.and_false]
  · rename_i h
    rw [decide_eq_true (show s.size ≤ 128 by omega), Bool.and_true, full_all, pieces_seg]
    intro p hp
    have h2 : bytesOf p ∈ seg (bytesOf s) := by rw [← pieces_seg]; exact List.mem_map_of_mem hp
    have := seg_len _ _ h2
    rw [bytesOf_length, bytesOf_length] at this
    omega
/-! ### Key -/
theorem rKey_loop (s : ByteArray) (hs : s.size ≤ 1099511627776) : ∀ (u : List Int) (i k : Nat) (acc : List Int) (up : Bool), (bytesOf s).drop i = u → i ≤ s.size → acc.length ≤ i →
    signetryref02_Key.l0 (u.length + 1 + k) s acc up (i : Int) = some (strOfNums (acc ++ ky up u))
  | [], i, k, acc, up, hu, hi, ha => by
    have := drop_nil hu
    rw [show ([] : List Int).length + 1 + k = k + 1 by simp; omega, signetryref02_Key.l0, if_neg (by omega), ky, List.append_nil]
  | c :: u, i, k, acc, up, hu, hi, ha => by
    obtain ⟨h1, h2, h3⟩ := bt_cons hu
    obtain ⟨b0, b1⟩ := isBy_mem (isBy_drop (isBy_bytesOf s) i) (show c ∈ (bytesOf s).drop i by rw [hu]; simp)
    have hw : wrap64 ((i : Int) + 1) = ((i + 1 : Nat) : Int) := by rw [w64 (by omega) (by omega)]; omega
    rw [show (c :: u).length + 1 + k = (u.length + 1 + k) + 1 by simp; omega, signetryref02_Key.l0, if_pos (by omega), if_pos (by omega), h1, hw, ky]
    by_cases h95 : c = 95
    · rw [if_pos h95, if_pos h95, rKey_loop s hs u (i + 1) k acc true h2 (by omega) (by omega)]
    · rw [if_neg h95, if_neg h95, small_f, Option.bind_some]
      have hlen : ∀ x : Int, (acc ++ [x]).length ≤ i + 1 := fun x => by simp; omega
      cases up
      · rw [if_neg (by simp), if_pos (by omega), rKey_loop s hs u (i + 1) k (acc ++ [c]) false h2 (by omega) (hlen c), if_neg (by simp)]
        simp
      · rw [if_pos rfl]
        by_cases hsm : 97 ≤ c ∧ c ≤ 122
        · rw [if_pos (by simpa using hsm), if_pos (by omega), rKey_loop s hs u (i + 1) k (acc ++ [(((c - 97) % 256) + 65) % 256]) false h2 (by omega) (hlen _), if_pos ⟨rfl, hsm⟩]
          rw [show (((c - 97) % 256) + 65) % 256 = c - 32 by omega]
          simp
        · rw [if_neg (by simpa using hsm), if_pos (by omega), rKey_loop s hs u (i + 1) k (acc ++ [c]) false h2 (by omega) (hlen c), if_neg (fun h => hsm h.2)]
          simp
theorem rKey {s : ByteArray} {k : Nat} (hs : s.size ≤ 1099511627776) (hk : s.size + 1 ≤ k) : signetryref02_Key.f k s = some (strOfNums (ky false (bytesOf s))) := by
  unfold signetryref02_Key.f
  have hl := bytesOf_length s
  have := rKey_loop s hs (bytesOf s) 0 (k - (s.size + 1)) [] false (by simp) (Nat.zero_le _) (Nat.zero_le _)
  rw [hl, show s.size + 1 + (k - (s.size + 1)) = k by omega] at this
  rw [show ((0 : Nat) : Int) = 0 from rfl] at this
  rw [this, List.nil_append]
theorem TextNames : signetrylaw02_TextNames.Pure := by
  intro a0 _
  refine ⟨1000, ?_⟩
  unfold signetrylaw02_TextNames.f
  have hm : mn (a0.size : Int) 300 = ((min a0.size 300 : Nat) : Int) := mn_nat a0.size 300
  rw [hm, if_pos (by omega), if_pos (by omega), Int.toNat_natCast]
  obtain ⟨t, ht⟩ : ∃ t, a0.extract 0 (min a0.size 300) = t := ⟨_, rfl⟩
  have hz : t.size ≤ 300 := by rw [← ht, ByteArray.size_extract]; omega
  rw [ht, tId (by omega) (by omega), rId (by omega) (by omega), Option.bind_some, Option.bind_some, if_pos (by simp), tFull, rFull (by omega) (by omega), Option.bind_some, Option.bind_some, if_pos (by simp)]
  rw [show text_Key.f t = some (strOfNums (ky false (bytesOf t))) by unfold text_Key.f; rw [if_pos (by omega)], rKey (by omega) (by omega), Option.bind_some, Option.bind_some, if_pos rfl, works_up (by omega)]
  rfl
end Go.Proofs.YtaklkcnohbbfoaaDoor.Pure
