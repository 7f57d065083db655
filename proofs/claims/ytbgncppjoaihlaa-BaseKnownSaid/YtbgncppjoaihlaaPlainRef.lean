/-
  The document's answers of layer 15, as plain laws: Text is enc; the chapter's texts are as it says.
-/
import Derived.Test.YtbgncppjoaihlaaPAllx2
import Derived.Test.YtbgncppjoaihlaaPlain
namespace Go.Proofs.Ytbgncppjoaihlaa.Ref
set_option linter.unusedSimpArgs false
open Go.RowKit Go.Proofs.Ytbgncppjoaihlaa.PAll Go.Proofs.YtbgncppjoaihlaaW.PrintWords Go.Proofs.YtbgncppjoaihlaaW.PrintLast Go.Proofs.YtbgncppjoaihlaaW.PrintMore Go.Proofs.Ytbgncppjoaihlaa.Hand

theorem w64 {n : Int} (h : -9223372036854775808 ≤ n) (h' : n < 9223372036854775808) : wrap64 n = n := by unfold wrap64; omega
theorem tdiv_pos {n m : Int} (h : 0 ≤ n) : Int.tdiv n m = n / m := Int.tdiv_eq_ediv_of_nonneg h
theorem tmod_pos {n m : Int} (h : 0 ≤ n) : Int.tmod n m = n % m := Int.tmod_eq_emod_of_nonneg h
theorem leO_le {α : Type} {f : Nat → Option α} (m : ∀ k, LeO (f k) (f (k + 1))) {a b : Nat} (h : a ≤ b) : LeO (f a) (f b) := by
  induction h with
  | refl => exact LeO.refl _
  | step _ ih => exact LeO.trans ih (m _)
theorem works_true : signetrylaw15_works.f = some true := by kernel_rfl
theorem bt_lt (x : Int) : bt letters x = lt x := rfl
theorem letters_eq : (⟨#[65, 66, 67, 68, 69, 70, 71, 72, 73, 74, 75, 76, 77, 78, 79, 80, 81, 82, 83, 84, 85, 86, 87, 88, 89, 90, 97, 98, 99, 100, 101, 102, 103, 104, 105, 106, 107, 108, 109, 110, 111, 112, 113, 114, 115, 116, 117, 118, 119, 120, 121, 122, 48, 49, 50, 51, 52, 53, 54, 55, 56, 57, 43, 47]⟩ : ByteArray) = letters := rfl
theorem rd_app (p l : List Int) (j : Nat) : rd (p ++ l) ((p.length : Int) + (j : Int)) = l.getD j 0 := by
  unfold rd
  rw [show ((p.length : Int) + (j : Int)).toNat = p.length + j by omega, List.getD_eq_getElem?_getD, List.getElem?_append_right (by omega), Nat.add_sub_cancel_left, List.getD_eq_getElem?_getD]

theorem l1_in (k : Nat) (x0 x3 : List Int) (i n j : Int) (hj : j < 3) (hj0 : 0 ≤ j) (h0 : 0 ≤ i) (h : i + j < x0.length) (hl : x0.length ≤ 1099511627776) (hn : 0 ≤ n ∧ n < 65536) (hr : 0 ≤ rd x0 (i + j) ∧ rd x0 (i + j) ≤ 255) :
    signetryref15_Text.l1 (k + 1) x0 x3 i n j = signetryref15_Text.l1 k x0 x3 i (256 * n + rd x0 (i + j)) (j + 1) := by
  rw [signetryref15_Text.l1, if_pos hj]
  rw [w64 (n := i + j) (by omega) (by omega), if_pos h, if_pos (by omega)]
  rw [w64 (n := 256 * n) (by omega) (by omega), w64 (n := rd x0 (i + j)) (by omega) (by omega), w64 (n := 256 * n + rd x0 (i + j)) (by omega) (by omega), w64 (n := j + 1) (by omega) (by omega)]
theorem l1_out (k : Nat) (x0 x3 : List Int) (i n j : Int) (hj : j < 3) (hj0 : 0 ≤ j) (h0 : 0 ≤ i) (h : x0.length ≤ i + j) (hi : i ≤ 1099511627776) (hn : 0 ≤ n ∧ n < 65536) :
    signetryref15_Text.l1 (k + 1) x0 x3 i n j = signetryref15_Text.l1 k x0 x3 i (256 * n) (j + 1) := by
  rw [signetryref15_Text.l1, if_pos hj]
  rw [w64 (n := i + j) (by omega) (by omega), if_neg (by omega)]
  rw [w64 (n := 256 * n) (by omega) (by omega), w64 (n := j + 1) (by omega) (by omega)]
def quadR (n : Int) (c d : Bool) : List Int := [lt (n / 262144), lt (n / 4096 % 64), if c then 61 else lt (n / 64 % 64), if d then 61 else lt (n % 64)]
theorem l1_end (k : Nat) (x0 x3 : List Int) (i n : Int) (h0 : 0 ≤ i) (hi : i ≤ 1099511627776) (hn : 0 ≤ n ∧ n < 16777216) (hl : x3.length + 4 < 140737488355328) :
    signetryref15_Text.l1 (k + 1) x0 x3 i n 3 = signetryref15_Text.l0 k x0 (x3 ++ quadR n (decide (x0.length ≤ i + 1)) (decide (x0.length ≤ i + 2))) (i + 3) := by
  rw [signetryref15_Text.l1, if_neg (by omega)]
  simp only [letters_eq, bt_lt]
  rw [tdiv_pos hn.1, tdiv_pos hn.1, tdiv_pos hn.1]
  rw [w64 (n := n / 262144) (by omega) (by omega), w64 (n := n / 4096) (by omega) (by omega), w64 (n := n / 64) (by omega) (by omega)]
  rw [tmod_pos (n := n / 4096) (by omega), tmod_pos (n := n / 64) (by omega), tmod_pos hn.1]
  rw [w64 (n := i + 1) (by omega) (by omega), w64 (n := i + 2) (by omega) (by omega), w64 (n := i + 3) (by omega) (by omega)]
  rw [if_pos (by omega), if_pos (by omega), if_pos (by omega), if_pos (by omega), if_pos (by omega), if_pos (by omega), if_pos (by omega), if_pos (by omega)]
  simp only [Option.bind_some]
  by_cases h1 : (x0.length : Int) ≤ i + 1
  · have h2 : (x0.length : Int) ≤ i + 2 := by omega
    rw [if_pos h1, if_pos (by simp), if_pos h2, if_pos (by simp)]
    simp only [decide_eq_true h1, decide_eq_true h2]
    rw [if_pos (by simp; omega)]
    simp [quadR]
  · rw [if_neg h1]
    by_cases h2 : (x0.length : Int) ≤ i + 2
    · rw [if_pos h2, if_pos (by simp)]
      simp only [decide_eq_false h1, decide_eq_true h2]
      rw [if_pos (by simp; omega)]
      simp [quadR]
    · rw [if_neg h2]
      simp only [decide_eq_false h1, decide_eq_false h2]
      rw [if_pos (by simp; omega)]
      simp [quadR]
theorem l0_more (k : Nat) (x0 x3 : List Int) (i : Int) (h : i < x0.length) : signetryref15_Text.l0 (k + 1) x0 x3 i = signetryref15_Text.l1 k x0 x3 i 0 0 := by
  rw [signetryref15_Text.l0, if_pos h]
theorem l0_end (k : Nat) (x0 x3 : List Int) (i : Int) (h : ¬ i < x0.length) : signetryref15_Text.l0 (k + 1) x0 x3 i = some (strOfNums x3) := by
  rw [signetryref15_Text.l0, if_neg h]
theorem ref_text_at : ∀ (n : Nat) (pre l acc : List Int), l.length ≤ n → isB l = true → (pre ++ l).length ≤ 1099511627700 → acc.length + 4 * l.length + 4 < 140737488355328 →
    ∃ k, signetryref15_Text.l0 k (pre ++ l) acc (pre.length : Int) = some (strOfNums (acc ++ enc l)) := by
  intro n
  induction n with
  | zero =>
    intro pre l acc hl _ _ _
    obtain rfl := List.eq_nil_of_length_eq_zero (by omega : l.length = 0)
    refine ⟨1, ?_⟩
    rw [l0_end _ _ _ _ (by simp only [List.length_append, List.length_cons, List.length_nil]; omega), enc, List.append_nil]
  | succ n ih =>
    intro pre l acc hl hb hp ha
    match l, hl, hb, hp, ha with
    | [], _, _, _, _ =>
      refine ⟨1, ?_⟩
      rw [l0_end _ _ _ _ (by simp only [List.length_append, List.length_cons, List.length_nil]; omega), enc, List.append_nil]
    | [a], _, hb, hp, ha =>
      obtain ⟨h0, h1, _⟩ := isB_cons hb
      simp only [List.length_append, List.length_cons, List.length_nil] at hp ha
      refine ⟨6, ?_⟩
      have r0 : rd (pre ++ [a]) ((pre.length : Int) + 0) = a := rd_app pre [a] 0
      rw [l0_more _ _ _ _ (by simp only [List.length_append, List.length_cons, List.length_nil]; omega), l1_in _ _ _ _ _ _ (by omega) (by omega) (by omega) (by simp only [List.length_append, List.length_cons, List.length_nil]; omega) (by simp only [List.length_append, List.length_cons, List.length_nil]; omega) (by omega) (by rw [r0]; omega), r0]
      rw [l1_out _ _ _ _ _ _ (by omega) (by omega) (by omega) (by simp only [List.length_append, List.length_cons, List.length_nil]; omega) (by omega) (by omega), l1_out _ _ _ _ _ _ (by omega) (by omega) (by omega) (by simp only [List.length_append, List.length_cons, List.length_nil]; omega) (by omega) (by omega)]
      rw [show (0 : Int) + 1 + 1 + 1 = 3 by omega, l1_end _ _ _ _ _ (by omega) (by omega) (by omega) (by omega), l0_end _ _ _ _ (by simp only [List.length_append, List.length_cons, List.length_nil]; omega)]
      congr 3
      simp [quadR, enc]
      refine ⟨by congr 1; omega, by congr 1; omega⟩
    | [a, b], _, hb, hp, ha =>
      obtain ⟨h0, h1, hb⟩ := isB_cons hb
      obtain ⟨h2, h3, _⟩ := isB_cons hb
      simp only [List.length_append, List.length_cons, List.length_nil] at hp ha
      refine ⟨6, ?_⟩
      have r0 : rd (pre ++ [a, b]) ((pre.length : Int) + 0) = a := rd_app pre [a, b] 0
      have r1 : rd (pre ++ [a, b]) ((pre.length : Int) + (0 + 1)) = b := rd_app pre [a, b] 1
      rw [l0_more _ _ _ _ (by simp only [List.length_append, List.length_cons, List.length_nil]; omega), l1_in _ _ _ _ _ _ (by omega) (by omega) (by omega) (by simp only [List.length_append, List.length_cons, List.length_nil]; omega) (by simp only [List.length_append, List.length_cons, List.length_nil]; omega) (by omega) (by rw [r0]; omega), r0]
      rw [l1_in _ _ _ _ _ _ (by omega) (by omega) (by omega) (by simp only [List.length_append, List.length_cons, List.length_nil]; omega) (by simp only [List.length_append, List.length_cons, List.length_nil]; omega) (by omega) (by rw [r1]; omega), r1]
      rw [l1_out _ _ _ _ _ _ (by omega) (by omega) (by omega) (by simp only [List.length_append, List.length_cons, List.length_nil]; omega) (by omega) (by omega)]
      rw [show (0 : Int) + 1 + 1 + 1 = 3 by omega, l1_end _ _ _ _ _ (by omega) (by omega) (by omega) (by omega), l0_end _ _ _ _ (by simp only [List.length_append, List.length_cons, List.length_nil]; omega)]
      congr 3
      simp [quadR, enc]
      refine ⟨by congr 1; omega, by congr 1; omega, by congr 1; omega⟩
    | a :: b :: c :: r, hl, hb, hp, ha =>
      obtain ⟨h0, h1, hb⟩ := isB_cons hb
      obtain ⟨h2, h3, hb⟩ := isB_cons hb
      obtain ⟨h4, h5, hb⟩ := isB_cons hb
      simp only [List.length_append, List.length_cons] at hp ha hl
      have r0 : rd (pre ++ a :: b :: c :: r) ((pre.length : Int) + 0) = a := rd_app pre (a :: b :: c :: r) 0
      have r1 : rd (pre ++ a :: b :: c :: r) ((pre.length : Int) + (0 + 1)) = b := rd_app pre (a :: b :: c :: r) 1
      have r2 : rd (pre ++ a :: b :: c :: r) ((pre.length : Int) + (0 + 1 + 1)) = c := rd_app pre (a :: b :: c :: r) 2
      obtain ⟨q, hq⟩ : ∃ q, q = quadR (256 * (256 * (256 * 0 + a) + b) + c) (decide (((pre ++ a :: b :: c :: r).length : Int) ≤ (pre.length : Int) + 1)) (decide (((pre ++ a :: b :: c :: r).length : Int) ≤ (pre.length : Int) + 2)) := ⟨_, rfl⟩
      obtain ⟨k, hk⟩ := ih (pre ++ [a, b, c]) r (acc ++ q) (by omega) hb (by simp; omega) (by rw [hq]; simp [quadR]; omega)
      refine ⟨k + 5, ?_⟩
      rw [l0_more _ _ _ _ (by simp only [List.length_append, List.length_cons, List.length_nil]; omega), l1_in _ _ _ _ _ _ (by omega) (by omega) (by omega) (by simp only [List.length_append, List.length_cons, List.length_nil]; omega) (by simp only [List.length_append, List.length_cons, List.length_nil]; omega) (by omega) (by rw [r0]; omega), r0]
      rw [l1_in _ _ _ _ _ _ (by omega) (by omega) (by omega) (by simp only [List.length_append, List.length_cons, List.length_nil]; omega) (by simp only [List.length_append, List.length_cons, List.length_nil]; omega) (by omega) (by rw [r1]; omega), r1]
      rw [l1_in _ _ _ _ _ _ (by omega) (by omega) (by omega) (by simp only [List.length_append, List.length_cons, List.length_nil]; omega) (by simp only [List.length_append, List.length_cons, List.length_nil]; omega) (by omega) (by rw [r2]; omega), r2]
      rw [show (0 : Int) + 1 + 1 + 1 = 3 by omega, l1_end _ _ _ _ _ (by omega) (by omega) (by omega) (by omega), ← hq]
      rw [show pre ++ a :: b :: c :: r = pre ++ [a, b, c] ++ r by simp, show (pre.length : Int) + 3 = ((pre ++ [a, b, c]).length : Int) by simp, hk]
      congr 2
      rw [List.append_assoc, enc]
      congr 1
      rw [hq]
      simp [quadR]
      refine ⟨by congr 1; omega, by congr 1; omega, ?_, ?_⟩
      · rw [if_neg (by omega)]
        congr 1; omega
      · rw [if_neg (by omega)]
        congr 1; omega
theorem ref_text {l : List Int} (h : isB l = true) (hl : l.length ≤ 1099511627700) : ∃ K, ∀ k, K ≤ k → signetryref15_Text.f k l = some (strOfNums (enc l)) := by
  obtain ⟨K, hK⟩ := ref_text_at l.length [] l [] (Nat.le_refl _) h (by simpa using hl) (by simp; omega)
  exact ⟨K, fun k hk => leO_le (signetryref15_Text.mono l) hk _ hK⟩

theorem ref_number_at : ∀ c : Fin 256, signetryref15_number.f 66 (c.1 : Int) = some (tnum c.1) := by decide +kernel
theorem ref_number {c : Int} (h0 : 0 ≤ c) (h1 : c ≤ 255) {k : Nat} (hk : 66 ≤ k) : signetryref15_number.f k c = some (tnum c.toNat) := by
  have h := ref_number_at ⟨c.toNat, by omega⟩
  simp only [Int.toNat_of_nonneg h0] at h
  exact leO_le (signetryref15_number.mono c) hk _ h
theorem shl1 (n : Nat) (hn : n ≤ 20) : shl .i64 1 (n : Int) = 2 ^ n := by
  have : ∀ n : Fin 21, shl .i64 1 (n.1 : Int) = 2 ^ n.1 := by decide +kernel
  exact this ⟨n, by omega⟩
theorem shrn (x : Int) (n : Nat) (hn : n ≤ 20) : shr .i64 x (n : Int) = x / 2 ^ n := by
  unfold shr
  rw [Int.toNat_natCast, Nat.min_eq_left (show n ≤ IntKind.i64.bits from Nat.le_trans hn (by decide))]
theorem mn_cut (n : Nat) {m : Int} (h : 0 ≤ m) : 0 ≤ mn (n : Int) m ∧ mn (n : Int) m ≤ (n : Int) ∧ mn (n : Int) m ≤ m := by
  unfold mn
  split <;> omega
theorem size_some (a : Int) : ∃ z, base_Size.f a = some z := by
  unfold base_Size.f
  split
  · exact ⟨_, rfl⟩
  · split
    · exact ⟨_, rfl⟩
    · exact ⟨_, rfl⟩
theorem size_of (n : Nat) (h : n ≤ 1000000) : base_Size.f (n : Int) = some (((n + 2) / 3 * 4 : Nat) : Int) := by
  rw [base_Size.f, if_neg (by omega), if_neg (by omega), w64 (n := (n : Int) + 2) (by omega) (by omega), tdiv_pos (by omega), w64 (n := ((n : Int) + 2) / 3) (by omega) (by omega), w64 (by omega) (by omega)]
  simp
theorem bytes_some (s : ByteArray) : ∃ d z, base_Bytes.f s = some (d, z) := by
  unfold base_Bytes.f
  split
  · exact ⟨_, _, rfl⟩
  · split
    · exact ⟨_, _, rfl⟩
    · exact ⟨_, _, rfl⟩
theorem strOfNums_join (a b : List Int) : strOfNums (a ++ b) = strOfNums a ++ strOfNums b := by
  apply ByteArray.ext
  rw [ByteArray.data_append]
  simp [strOfNums]
end Go.Proofs.Ytbgncppjoaihlaa.Ref
