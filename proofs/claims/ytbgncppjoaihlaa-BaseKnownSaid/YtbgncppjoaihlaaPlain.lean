/-
  What Text and Bytes compute, as plain laws: reading what was written gives it back; lengths; joins.
-/
import Derived.Test.YtbgncppjoaihlaaHandBytes
namespace Go.Proofs.Ytbgncppjoaihlaa.Hand
open Go.RowKit Go.Proofs.YtbgncppjoaihlaaW.PrintWords

theorem lt_num : ∀ q : Fin 64, tbUpto 64 (lt (q.1 : Int)).toNat = (q.1 : Int) + 1 := by decide
theorem lt_tb {q : Int} (h0 : 0 ≤ q) (h1 : q < 64) : 0 < tbUpto 64 (lt q).toNat ∧ tnum (lt q).toNat = q := by
  have h := lt_num ⟨q.toNat, by omega⟩
  simp only at h
  rw [Int.toNat_of_nonneg h0] at h
  unfold tnum
  omega
theorem pad_tb : tbUpto 64 (61 : Int).toNat = 0 := by decide
theorem coll_letter {q : Int} (h0 : 0 ≤ q) (h1 : q < 64) (r : List Int) (st : List Int × Int × Nat) : collB (lt q :: r) st = collB r (stepB st q) := by
  rw [collB, if_pos (lt_tb h0 h1).1, (lt_tb h0 h1).2]
theorem coll_pad (r : List Int) (st : List Int × Int × Nat) : collB (61 :: r) st = st := by
  rw [collB, if_neg (by rw [pad_tb]; omega)]
theorem step0 (L : List Int) (nn x : Int) : stepB (L, nn, 0) x = (L, nn * 64 + x, 6) := rfl
theorem step6 (L : List Int) (nn x : Int) : stepB (L, nn, 6) x = (L ++ [(nn * 64 + x) / 16 % 256], (nn * 64 + x) % 16, 4) := rfl
theorem step4 (L : List Int) (nn x : Int) : stepB (L, nn, 4) x = (L ++ [(nn * 64 + x) / 4 % 256], (nn * 64 + x) % 4, 2) := rfl
theorem step2 (L : List Int) (nn x : Int) : stepB (L, nn, 2) x = (L ++ [(nn * 64 + x) / 1 % 256], (nn * 64 + x) % 1, 0) := rfl
theorem isB_cons {a : Int} {l : List Int} (h : isB (a :: l) = true) : 0 ≤ a ∧ a ≤ 255 ∧ isB l = true := by
  unfold isB at *
  simp only [List.all_cons, Bool.and_eq_true, decide_eq_true_eq] at h
  exact ⟨h.1.1, h.1.2, h.2⟩
theorem isB_of {l : List Int} (h : ∀ x ∈ l, (Lit.int .u8 x).wf = true) : isB l = true := by
  unfold isB
  rw [List.all_eq_true]
  intro x hx
  exact h x hx
theorem isB_take {l : List Int} (h : isB l = true) (n : Nat) : isB (l.take n) = true := by
  unfold isB at *
  rw [List.all_eq_true] at *
  exact fun x hx => h x (List.mem_of_mem_take hx)
theorem isB_append {a b : List Int} (h : isB a = true) (k : isB b = true) : isB (a ++ b) = true := by
  unfold isB at *
  rw [List.all_append, h, k]
  rfl
theorem coll_enc : ∀ (n : Nat) (l : List Int), l.length ≤ n → isB l = true → ∀ L, (collB (enc l) (L, 0, 0)).1 = L ++ l := by
  intro n
  induction n with
  | zero =>
    intro l hl _ L
    obtain rfl := List.eq_nil_of_length_eq_zero (by omega : l.length = 0)
    simp [enc, collB]
  | succ n ih =>
    intro l hl hb L
    match l, hl, hb with
    | [], _, _ => simp [enc, collB]
    | [a], _, hb =>
      obtain ⟨h0, h1, _⟩ := isB_cons hb
      simp only [enc]
      rw [coll_letter (by omega) (by omega), step0, coll_letter (by omega) (by omega), step6, coll_pad]
      simp only [List.append_cancel_left_eq, List.cons.injEq, and_true]
      omega
    | [a, b], _, hb =>
      obtain ⟨h0, h1, hb⟩ := isB_cons hb
      obtain ⟨h2, h3, _⟩ := isB_cons hb
      simp only [enc]
      rw [coll_letter (by omega) (by omega), step0, coll_letter (by omega) (by omega), step6, coll_letter (by omega) (by omega), step4, coll_pad]
      simp only [List.append_assoc, List.append_cancel_left_eq, List.cons_append, List.nil_append, List.cons.injEq, and_true]
      omega
    | a :: b :: c :: r, hl, hb =>
      obtain ⟨h0, h1, hb⟩ := isB_cons hb
      obtain ⟨h2, h3, hb⟩ := isB_cons hb
      obtain ⟨h4, h5, hb⟩ := isB_cons hb
      simp only [enc]
      rw [coll_letter (by omega) (by omega), step0, coll_letter (by omega) (by omega), step6, coll_letter (by omega) (by omega), step4, coll_letter (by omega) (by omega), step2]
      have e : (((0 * 64 + a / 4) * 64 + (a % 4 * 16 + b / 16)) % 16 * 64 + (b % 16 * 4 + c / 64)) % 4 * 64 + c % 64 = c := by omega
      rw [e, Int.emod_one, ih r (by simp only [List.length_cons] at hl; omega) hb]
      simp only [List.append_assoc, List.append_cancel_left_eq, List.cons_append, List.nil_append, List.cons.injEq, and_true]
      omega
theorem dec_enc {l : List Int} (h : isB l = true) : (collB (enc l) ([], 0, 0)).1 = l := by
  rw [coll_enc _ l (Nat.le_refl _) h]
  rfl
theorem enc_len : ∀ (n : Nat) (l : List Int), l.length ≤ n → (enc l).length = (l.length + 2) / 3 * 4 := by
  intro n
  induction n with
  | zero =>
    intro l hl
    obtain rfl := List.eq_nil_of_length_eq_zero (by omega : l.length = 0)
    rfl
  | succ n ih =>
    intro l hl
    match l, hl with
    | [], _ => rfl
    | [a], _ => simp [enc]
    | [a, b], _ => simp [enc]
    | a :: b :: c :: r, hl =>
      simp only [List.length_cons] at hl
      simp only [enc, List.length_cons]
      rw [ih r (by omega)]
      omega
theorem enc_length (l : List Int) : (enc l).length = (l.length + 2) / 3 * 4 := enc_len _ l (Nat.le_refl _)
theorem enc_join : ∀ (n : Nat) (a b : List Int), a.length ≤ n → 3 ∣ a.length → enc (a ++ b) = enc a ++ enc b := by
  intro n
  induction n with
  | zero =>
    intro a b hl _
    obtain rfl := List.eq_nil_of_length_eq_zero (by omega : a.length = 0)
    rfl
  | succ n ih =>
    intro a b hl hd
    match a, hl, hd with
    | [], _, _ => rfl
    | [x], _, hd => simp at hd
    | [x, y], _, hd => simp at hd
    | x :: y :: z :: r, hl, hd =>
      simp only [List.length_cons] at hl hd
      simp only [List.cons_append, enc]
      rw [ih r b (by omega) (by omega)]
theorem enc_bytes {l : List Int} : bytesOf (strOfNums (enc l)) = enc l := bytesOf_strOfNums fun x hx => by
  have := enc_range _ _ (Nat.le_refl _) x hx
  omega
theorem enc_size (l : List Int) : (strOfNums (enc l)).size = (l.length + 2) / 3 * 4 := by rw [← bytesOf_length, enc_bytes, enc_length]
theorem bytes_inj {s t : ByteArray} (h : bytesOf s = bytesOf t) : s = t := by rw [← strOfNums_bytes s, h, strOfNums_bytes]
/-- What is written is read as it was. -/
theorem bytes_text {l : List Int} (h : isB l = true) (hl : l.length ≤ 1000000) : base_Bytes.f (strOfNums (enc l)) = some (l, 0) := by
  rw [base_Bytes.f, if_neg (by rw [enc_size]; omega), enc_bytes, dec_enc h, if_pos rfl]
/-- What is read: all are bytes. -/
theorem coll_isB : ∀ (l : List Int) (L : List Int) (nn : Int) (mm : Nat), isB L = true → isB (collB l (L, nn, mm)).1 = true := by
  intro l
  induction l with
  | nil => intro L nn mm h; exact h
  | cons c r ih =>
    intro L nn mm h
    rw [collB]
    split
    · unfold stepB
      split
      · exact ih _ _ _ h
      · refine ih _ _ _ (isB_append h ?_)
        unfold isB
        simp
        omega
    · exact h
theorem coll_len : ∀ (l : List Int) (L : List Int) (nn : Int) (mm : Nat), (collB l (L, nn, mm)).1.length ≤ L.length + l.length := by
  intro l
  induction l with
  | nil => intro L nn mm; simp [collB]
  | cons c r ih =>
    intro L nn mm
    rw [collB]
    split
    · unfold stepB
      split
      · exact Nat.le_trans (ih _ _ _) (by simp)
      · refine Nat.le_trans (ih _ _ _) (by simp; omega)
    · simp
theorem eqBytes {a b : List Int} (h : a = b) : ((strOfNums a).toList == (strOfNums b).toList) = true := by rw [h]; simp
theorem eqBytes_iff {a b : List Int} (ha : isB a = true) (hb : isB b = true) : ((strOfNums a).toList == (strOfNums b).toList) = true ↔ a = b := by
  have hr : ∀ l, isB l = true → bytesOf (strOfNums l) = l := fun l h => bytesOf_strOfNums fun x hx => by
    unfold isB at h
    rw [List.all_eq_true] at h
    have := h x hx
    simp only [Bool.and_eq_true, decide_eq_true_eq] at this
    omega
  constructor
  · intro h
    have h := eq_of_beq h
    have : bytesOf (strOfNums a) = bytesOf (strOfNums b) := by
      unfold bytesOf
      rw [← ByteArray.toList_eq, h, ByteArray.toList_eq]
    rwa [hr a ha, hr b hb] at this
  · exact eqBytes
end Go.Proofs.Ytbgncppjoaihlaa.Hand
