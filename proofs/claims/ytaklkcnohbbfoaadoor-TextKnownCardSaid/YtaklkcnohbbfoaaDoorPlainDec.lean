/-
  The decoder and the reference's first rune agree. No walk.
-/
import Derived.Test.YtaklkcnohbbfoaaDoorPlainRune
import Derived.Test.YtaklkcnohbbfoaaDoorPlainEsc
namespace Go.Proofs.YtaklkcnohbbfoaaDoor.Pure
open Go.RowKit Go.Lib Go.Proofs.YtaklkcnohbbfoaaDoor.PAll Go.Proofs.YtaklkcnohbbfoaaDoorW.PrintWords Go.Proofs.YtaklkcnohbbfoaaDoorW.PrintLast Go.Proofs.YtaklkcnohbbfoaaDoorW.PrintMore Go.Proofs.YtaklkcnohbbfoaaDoor.Hand
set_option linter.unusedVariables false
set_option linter.unusedSimpArgs false

def isBad (l : List Int) : Prop := (decodeL (u8s l)).1 = 65533 ∧ (decodeL (u8s l)).2 = 1
instance (l : List Int) : Decidable (isBad l) := by unfold isBad; exact inferInstance
theorem u8_getD {l : List Int} (hB : isBy l = true) (i : Nat) : ((u8s l).getD i 0).toNat = (l.getD i 0).toNat := by
  by_cases h : i < l.length
  · have hm := isBy_mem hB (List.getElem_mem h)
    rw [List.getD_eq_getElem?_getD, List.getD_eq_getElem?_getD, List.getElem?_eq_getElem (by rw [u8s_len]; exact h), List.getElem?_eq_getElem h]
    simp only [Option.getD_some, u8s, List.getElem_map]
    exact toNat_of hm.1 (by omega)
  · rw [List.getD_eq_getElem?_getD, List.getD_eq_getElem?_getD, List.getElem?_eq_none (by rw [u8s_len]; omega), List.getElem?_eq_none (by omega)]
    rfl
theorem dec_of {l : List Int} (hB : isBy l = true) : decodeL (u8s l) = decodeN l.length (l.getD 0 0).toNat (l.getD 1 0).toNat (l.getD 2 0).toNat (l.getD 3 0).toNat := by
  rw [decodeL_N, u8s_len, u8_getD hB, u8_getD hB, u8_getD hB, u8_getD hB]
theorem dec_shape {l : List Int} {d : Nat × Nat} (hB : isBy l = true) (hne : l ≠ []) (hd : decodeN l.length (l.getD 0 0).toNat (l.getD 1 0).toNat (l.getD 2 0).toNat (l.getD 3 0).toNat = d) (hg : ¬ (d.1 = 65533 ∧ d.2 = 1)) :
    isRn (d.1 : Int) = true ∧ ∃ rest, l = encodeRuneZ (d.1 : Int) ++ rest ∧ (encodeRuneZ (d.1 : Int)).length = d.2 := by
  rcases l with _ | ⟨b0, l1⟩
  · exact absurd rfl hne
  obtain ⟨p0, q0⟩ := isBy_mem hB (show b0 ∈ b0 :: l1 by simp)
  have hB1 : isBy l1 = true := isBy_drop hB 1
  unfold decodeN at hd
  simp only [List.getD_cons_zero, List.getD_cons_succ, List.length_cons] at hd
  split at hd
  · subst hd
    have e := encodeRuneZ_one (r := b0) (by omega) (by omega)
    have e2 : ((b0.toNat : Nat) : Int) = b0 := by omega
    simp only [e2, e, isRn, Bool.or_eq_true, decide_eq_true_eq]
    exact ⟨by omega, l1, rfl, rfl⟩
  · rcases l1 with _ | ⟨b1, l2⟩
    · rw [if_neg (by simp), if_neg (by simp), if_neg (by simp)] at hd
      subst hd
      exact absurd ⟨rfl, rfl⟩ hg
    obtain ⟨p1, q1⟩ := isBy_mem hB1 (show b1 ∈ b1 :: l2 by simp)
    have hB2 : isBy l2 = true := isBy_drop hB1 1
    simp only [List.getD_cons_zero, List.getD_cons_succ, List.length_cons] at hd
    split at hd
    · rename_i h
      split at hd
      · rename_i h2
        subst hd
        have e := encodeRuneZ_two (r := ((b0.toNat % 32 * 64 + b1.toNat % 64 : Nat) : Int)) (by omega) (by omega)
        have e2 : 192 + ((b0.toNat % 32 * 64 + b1.toNat % 64 : Nat) : Int) / 64 = b0 := by omega
        have e3 : 128 + ((b0.toNat % 32 * 64 + b1.toNat % 64 : Nat) : Int) % 64 = b1 := by omega
        rw [e2, e3] at e
        refine ⟨?_, l2, ?_, ?_⟩
        · simp only [isRn, Bool.or_eq_true, decide_eq_true_eq]; omega
        · simp only [e]; rfl
        · simp only [e]; rfl
      · subst hd
        exact absurd ⟨rfl, rfl⟩ hg
    · rcases l2 with _ | ⟨b2, l3⟩
      · rw [if_neg (by simp), if_neg (by simp)] at hd
        subst hd
        exact absurd ⟨rfl, rfl⟩ hg
      obtain ⟨p2, q2⟩ := isBy_mem hB2 (show b2 ∈ b2 :: l3 by simp)
      have hB3 : isBy l3 = true := isBy_drop hB2 1
      simp only [List.getD_cons_zero, List.getD_cons_succ, List.length_cons] at hd
      split at hd
      · rename_i h
        split at hd
        · rename_i h2
          subst hd
          have e := encodeRuneZ_three (r := ((b0.toNat % 16 * 4096 + b1.toNat % 64 * 64 + b2.toNat % 64 : Nat) : Int)) (by omega)
          have e2 : 224 + ((b0.toNat % 16 * 4096 + b1.toNat % 64 * 64 + b2.toNat % 64 : Nat) : Int) / 4096 = b0 := by omega
          have e3 : 128 + ((b0.toNat % 16 * 4096 + b1.toNat % 64 * 64 + b2.toNat % 64 : Nat) : Int) / 64 % 64 = b1 := by omega
          have e4 : 128 + ((b0.toNat % 16 * 4096 + b1.toNat % 64 * 64 + b2.toNat % 64 : Nat) : Int) % 64 = b2 := by omega
          rw [e2, e3, e4] at e
          refine ⟨?_, l3, ?_, ?_⟩
          · simp only [isRn, Bool.or_eq_true, decide_eq_true_eq]; omega
          · simp only [e]; rfl
          · simp only [e]; rfl
        · subst hd
          exact absurd ⟨rfl, rfl⟩ hg
      · rcases l3 with _ | ⟨b3, l4⟩
        · rw [if_neg (by simp)] at hd
          subst hd
          exact absurd ⟨rfl, rfl⟩ hg
        obtain ⟨p3, q3⟩ := isBy_mem hB3 (show b3 ∈ b3 :: l4 by simp)
        simp only [List.getD_cons_zero, List.getD_cons_succ, List.length_cons] at hd
        split at hd
        · rename_i h
          split at hd
          · rename_i h2
            subst hd
            have e := encodeRuneZ_four (r := ((b0.toNat % 8 * 262144 + b1.toNat % 64 * 4096 + b2.toNat % 64 * 64 + b3.toNat % 64 : Nat) : Int)) (by omega) (by omega)
            have e2 : 240 + ((b0.toNat % 8 * 262144 + b1.toNat % 64 * 4096 + b2.toNat % 64 * 64 + b3.toNat % 64 : Nat) : Int) / 262144 = b0 := by omega
            have e3 : 128 + ((b0.toNat % 8 * 262144 + b1.toNat % 64 * 4096 + b2.toNat % 64 * 64 + b3.toNat % 64 : Nat) : Int) / 4096 % 64 = b1 := by omega
            have e4 : 128 + ((b0.toNat % 8 * 262144 + b1.toNat % 64 * 4096 + b2.toNat % 64 * 64 + b3.toNat % 64 : Nat) : Int) / 64 % 64 = b2 := by omega
            have e5 : 128 + ((b0.toNat % 8 * 262144 + b1.toNat % 64 * 4096 + b2.toNat % 64 * 64 + b3.toNat % 64 : Nat) : Int) % 64 = b3 := by omega
            rw [e2, e3, e4, e5] at e
            refine ⟨?_, l4, ?_, ?_⟩
            · simp only [isRn, Bool.or_eq_true, decide_eq_true_eq]; omega
            · simp only [e]; rfl
            · simp only [e]; rfl
          · subst hd
            exact absurd ⟨rfl, rfl⟩ hg
        · subst hd
          exact absurd ⟨rfl, rfl⟩ hg
/-- What is no bad byte is a rune's bytes, and more. -/
theorem dec_ok {l : List Int} (hB : isBy l = true) (hne : l ≠ []) (hg : ¬ isBad l) :
    ∃ (r : Int) (rest : List Int), isRn r = true ∧ l = encodeRuneZ r ++ rest ∧ decodeL (u8s l) = (r.toNat, (encodeRuneZ r).length) := by
  obtain ⟨h1, rest, h2, h3⟩ := dec_shape (d := decodeL (u8s l)) hB hne (dec_of hB).symm hg
  refine ⟨((decodeL (u8s l)).1 : Int), rest, h1, h2, ?_⟩
  refine Prod.ext ?_ ?_
  · simp
  · exact h3.symm
theorem enc_good {r : Int} (h : isRn r = true) (rest : List Int) : ¬ isBad (encodeRuneZ r ++ rest) ∧ decodeL (u8s (encodeRuneZ r ++ rest)) = (r.toNat, (encodeRuneZ r).length) := by
  have e := dec_enc h (u8s rest)
  rw [← u8s_append] at e
  refine ⟨?_, e⟩
  unfold isBad
  rw [e]
  simp only
  exact enc_not_bad h

/-! ### The reference's first rune -/
def lead (c : Int) : Nat := if 240 ≤ c then 4 else if 224 ≤ c then 3 else if 192 ≤ c then 2 else 1
def lnum (c : Int) : Int := if 240 ≤ c then c % 8 else if 224 ≤ c then c % 16 else if 192 ≤ c then c % 32 else c
def fold64 (n : Int) (l : List Int) : Int := l.foldl (fun a b => 64 * a + b % 64) n
def fst8 (l : List Int) : Int × Int :=
  if isRn (fold64 (lnum (l.getD 0 0)) ((l.drop 1).take (lead (l.getD 0 0) - 1))) = true ∧ lead (l.getD 0 0) ≤ l.length ∧ encodeRuneZ (fold64 (lnum (l.getD 0 0)) ((l.drop 1).take (lead (l.getD 0 0) - 1))) = l.take (lead (l.getD 0 0))
  then (fold64 (lnum (l.getD 0 0)) ((l.drop 1).take (lead (l.getD 0 0) - 1)), (lead (l.getD 0 0) : Int)) else (0, 0)
theorem eqb_f {a b : List Int} (ha : isBy a = true) (hb : isBy b = true) : signetryref00_EqBytes.f a b = some (decide (a = b)) := by
  unfold signetryref00_EqBytes.f
  congr 1
  rw [Bool.eq_iff_iff]
  simp only [beq_iff_eq, decide_eq_true_eq]
  constructor
  · intro h
    have h2 : strOfNums a = strOfNums b := by
      rw [ByteArray.toList_eq, ByteArray.toList_eq] at h
      cases hx : strOfNums a; cases hy : strOfNums b
      rw [hx, hy] at h
      simp only at h
      congr 1
      exact Array.toList_inj.1 h
    rw [← bytesOf_str ha, ← bytesOf_str hb, h2]
  · rintro rfl; rfl
theorem first_j2 (l : List Int) (hB : isBy l = true) (m : Nat) (n : Int) (k : Nat) : signetryref02_first.j2 (k + 1) l (m : Int) n = some (if isRn n = true ∧ m ≤ l.length ∧ encodeRuneZ n = l.take m then (n, (m : Int)) else (0, 0)) := by
  rw [signetryref02_first.j2, rRune (by simp), Option.bind_some]
  by_cases hr : isRn n = true
  · rw [if_pos hr, if_pos rfl, List.nil_append]
    by_cases hm : m ≤ l.length
    · have hE : isBy (encodeRuneZ n) = true := List.all_eq_true.2 fun x hx => by
        have := encodeRuneZ_byte n x hx
        simp
        omega
      rw [if_neg (by omega), if_pos (by omega), if_pos (by omega), Int.toNat_natCast, eqb_f hE (isBy_take hB m), Option.bind_some]
      by_cases he : encodeRuneZ n = l.take m
      · rw [decide_eq_true he, if_pos rfl, if_pos ⟨hr, hm, he⟩]
      · rw [decide_eq_false he, if_neg Bool.false_ne_true, if_neg (fun e => he e.2.2)]
    · rw [if_pos (by omega), if_neg (fun e => hm e.2.1)]
  · rw [if_neg hr, if_neg (by decide), if_neg (fun e => hr e.1)]
theorem first_step {i m : Nat} {n c : Int} (hi : i < 4) (h1 : 1 ≤ i) (h0 : 0 ≤ n) (hn : Kp (n + 1 ≤ 64 ^ i * 256)) (b0 : 0 ≤ c) (b1 : c ≤ 255) :
    wrap64 ((wrap64 (64 * n)) + (wrap64 (Int.tmod c 64))) = 64 * n + c % 64 ∧ 0 ≤ 64 * n + c % 64 ∧ Kp (64 * n + c % 64 + 1 ≤ 64 ^ (i + 1) * 256) := by
  have hp2 : (64 : Int) ^ (i + 1) = 64 ^ i * 64 := Int.pow_succ _ _
  have hp : (64 : Int) ^ i * 256 ≤ 4294967296 := by
    have : i = 1 ∨ i = 2 ∨ i = 3 := by omega
    rcases this with rfl | rfl | rfl <;> decide
  have t1 : Int.tmod c 64 = c % 64 := Int.tmod_eq_emod_of_nonneg b0
  unfold Kp at hn ⊢
  rw [hp2, t1]
  generalize (64 : Int) ^ i = P at hn hp
  unfold wrap64
  omega
set_option maxRecDepth 20000 in
theorem first_l0 (l : List Int) (hB : isBy l = true) (hl : l.length ≤ 1099511627776) (m : Nat) (hm : m ≤ 4) (k : Nat) : ∀ (d i : Nat) (n : Int), i + d = m → 1 ≤ i → 0 ≤ n → Kp (n + 1 ≤ 64 ^ i * 256) →
    signetryref02_first.l0 (d + 2 + k) l (m : Int) n (i : Int) = some (if isRn (fold64 n ((l.drop i).take d)) = true ∧ m ≤ l.length ∧ encodeRuneZ (fold64 n ((l.drop i).take d)) = l.take m then (fold64 n ((l.drop i).take d), (m : Int)) else (0, 0))
  | 0, i, n, hi, h1, h0, hn => by
    have hk : 0 + 2 + k = (k + 1) + 1 := by omega
    have hlt : ¬ (i : Int) < (m : Int) := by omega
    rw [hk, signetryref02_first.l0, if_neg hlt, first_j2 l hB, List.take_zero]
    rfl
  | d + 1, i, n, hi, h1, h0, hn => by
    rw [show d + 1 + 2 + k = (d + 2 + k) + 1 by omega, signetryref02_first.l0, if_pos (by omega)]
    rcases hu : l.drop i with _ | ⟨c, u⟩
    · have := List.drop_eq_nil_iff.1 hu
      rw [if_neg (by omega), show d + 2 + k = (d + 1 + k) + 1 by omega, first_j2 l hB]
      simp [fold64]
    · obtain ⟨e1, e2, e3⟩ := rd_drop hu
      obtain ⟨b0, b1⟩ := isBy_mem (isBy_drop hB i) (show c ∈ l.drop i by rw [hu]; simp)
      obtain ⟨s1, s2, s3⟩ := first_step (m := m) (by omega) h1 h0 hn b0 b1
      have g1 : (i : Int) < (l.length : Int) := by omega
      have g2 : (0 : Int) ≤ (i : Int) := by omega
      have g3 : i + 1 + d = m := by omega
      have ih := first_l0 l hB hl m hm k d (i + 1) (64 * n + c % 64) g3 (Nat.le_add_left _ _) s2 s3
      rw [if_pos g1, if_pos g2, e1, s1, w_one (by omega), ih, e2]
      rfl
theorem rfirst {l : List Int} {k : Nat} (hB : isBy l = true) (hl : l.length ≤ 1099511627776) (hne : l ≠ []) (hk : 10 ≤ k) : signetryref02_first.f k l = some (fst8 l) := by
  obtain ⟨c, u, rfl⟩ : ∃ c u, l = c :: u := by
    rcases l with _ | ⟨c, u⟩
    · exact absurd rfl hne
    · exact ⟨c, u, rfl⟩
  obtain ⟨b0, b1⟩ := isBy_mem hB (show c ∈ c :: u by simp)
  have hrd : rd (c :: u) 0 = c := rfl
  have go : ∀ (m : Nat) (n : Int), 1 ≤ m → m ≤ 4 → 0 ≤ n → n ≤ 255 → signetryref02_first.j0 k (c :: u) (m : Int) n = some (if isRn (fold64 n (u.take (m - 1))) = true ∧ m ≤ (c :: u).length ∧ encodeRuneZ (fold64 n (u.take (m - 1))) = (c :: u).take m then (fold64 n (u.take (m - 1)), (m : Int)) else (0, 0)) := by
    intro m n h1 h4 h0 h255
    obtain ⟨q, rfl⟩ : ∃ q, k = q + 1 := ⟨k - 1, by omega⟩
    have := first_l0 (c :: u) hB hl m h4 (q - (m - 1 + 2)) (m - 1) 1 n (by omega) (Nat.le_refl _) h0 (by unfold Kp; omega)
    rw [show m - 1 + 2 + (q - (m - 1 + 2)) = q by omega] at this
    rw [signetryref02_first.j0]
    exact this
  unfold signetryref02_first.f fst8 lead lnum
  rw [if_pos (by simp only [List.length_cons]; omega), hrd, List.getD_cons_zero, List.drop_succ_cons, List.drop_zero]
  rw [Int.tmod_eq_emod_of_nonneg b0, Int.tmod_eq_emod_of_nonneg b0, Int.tmod_eq_emod_of_nonneg b0, w64 (x := c % 8) (by omega) (by omega), w64 (x := c % 16) (by omega) (by omega), w64 (x := c % 32) (by omega) (by omega), w64 (x := c) (by omega) (by omega)]
  by_cases c1 : c ≥ 240
  · rw [if_pos c1, if_pos (show 240 ≤ c from c1), if_pos (show 240 ≤ c from c1)]
    exact go 4 (c % 8) (by decide) (by decide) (by omega) (by omega)
  · rw [if_neg c1, if_neg (show ¬ 240 ≤ c from c1), if_neg (show ¬ 240 ≤ c from c1)]
    by_cases c2 : c ≥ 224
    · rw [if_pos c2, if_pos (show 224 ≤ c from c2), if_pos (show 224 ≤ c from c2)]
      exact go 3 (c % 16) (by decide) (by decide) (by omega) (by omega)
    · rw [if_neg c2, if_neg (show ¬ 224 ≤ c from c2), if_neg (show ¬ 224 ≤ c from c2)]
      by_cases c3 : c ≥ 192
      · rw [if_pos c3, if_pos (show 192 ≤ c from c3), if_pos (show 192 ≤ c from c3)]
        exact go 2 (c % 32) (by decide) (by decide) (by omega) (by omega)
      · rw [if_neg c3, if_neg (show ¬ 192 ≤ c from c3), if_neg (show ¬ 192 ≤ c from c3)]
        exact go 1 c (by decide) (by decide) b0 b1
theorem fst8_enc {r : Int} (h : isRn r = true) (rest : List Int) : fst8 (encodeRuneZ r ++ rest) = (r, ((encodeRuneZ r).length : Int)) := by
  have hr := isRn_of h
  have fin : ∀ (e : List Int) (m : Nat), encodeRuneZ r = e → lead ((e ++ rest).getD 0 0) = m → e.length = m → fold64 (lnum ((e ++ rest).getD 0 0)) (((e ++ rest).drop 1).take (m - 1)) = r → fst8 (encodeRuneZ r ++ rest) = (r, ((encodeRuneZ r).length : Int)) := by
    intro e m he h1 h2 h3
    unfold fst8
    rw [he, h1, h3, he, if_pos ⟨h, by rw [List.length_append]; omega, by rw [← h2, List.take_left]⟩, h2]
  by_cases c1 : r ≤ 127
  · refine fin [r] 1 (encodeRuneZ_one (by omega) c1) ?_ rfl ?_
    · unfold lead; simp only [List.cons_append, List.getD_cons_zero]; rw [if_neg (by omega), if_neg (by omega), if_neg (by omega)]
    · unfold lnum; simp only [List.cons_append, List.getD_cons_zero]; rw [if_neg (by omega), if_neg (by omega), if_neg (by omega)]; simp [fold64]
  · by_cases c2 : r ≤ 2047
    · refine fin [192 + r / 64, 128 + r % 64] 2 (encodeRuneZ_two (by omega) c2) ?_ rfl ?_
      · unfold lead; simp only [List.cons_append, List.getD_cons_zero]; rw [if_neg (by omega), if_neg (by omega), if_pos (by omega)]
      · unfold lnum; simp only [List.cons_append, List.getD_cons_zero, List.drop_succ_cons, List.drop_zero]; rw [if_neg (by omega), if_neg (by omega), if_pos (by omega)]; simp only [fold64, Nat.reduceSub, List.take_succ_cons, List.take_zero, List.foldl_cons, List.foldl_nil]; omega
    · by_cases c3 : r ≤ 65535
      · refine fin [224 + r / 4096, 128 + r / 64 % 64, 128 + r % 64] 3 (encodeRuneZ_three (by omega)) ?_ rfl ?_
        · unfold lead; simp only [List.cons_append, List.getD_cons_zero]; rw [if_neg (by omega), if_pos (by omega)]
        · unfold lnum; simp only [List.cons_append, List.getD_cons_zero, List.drop_succ_cons, List.drop_zero]; rw [if_neg (by omega), if_pos (by omega)]; simp only [fold64, Nat.reduceSub, List.take_succ_cons, List.take_zero, List.foldl_cons, List.foldl_nil]; omega
      · refine fin [240 + r / 262144, 128 + r / 4096 % 64, 128 + r / 64 % 64, 128 + r % 64] 4 (encodeRuneZ_four (by omega) (by omega)) ?_ rfl ?_
        · unfold lead; simp only [List.cons_append, List.getD_cons_zero]; rw [if_pos (by omega)]
        · unfold lnum; simp only [List.cons_append, List.getD_cons_zero, List.drop_succ_cons, List.drop_zero]; rw [if_pos (by omega)]; simp only [fold64, Nat.reduceSub, List.take_succ_cons, List.take_zero, List.foldl_cons, List.foldl_nil]; omega
theorem fst8_bad {l : List Int} (h : isBad l) : fst8 l = (0, 0) := by
  unfold fst8
  refine if_neg fun hh => ?_
  obtain ⟨h1, h2, h3⟩ := hh
  have e := (enc_good h1 (l.drop (lead (l.getD 0 0)))).1
  rw [h3, List.take_append_drop] at e
  exact e h

/-! ### All runes -/
theorem rRunes_loop (l : List Int) (hB : isBy l = true) (hl : l.length ≤ 1000) : ∀ (f : Nat) (u : List Int) (p k : Nat) (acc : List Int), l.drop p = u → u.length < f → acc.length ≤ p → p ≤ l.length → f + 10 ≤ k → signetryref02_Runes.l0 k l acc (p : Int) = some (rnsL f (u8s u) p acc)
  | 0, u, p, k, acc, hu, hf, ha, hp, hk => by omega
  | f + 1, u, p, k, acc, hu, hf, ha, hp, hk => by
    obtain ⟨q, rfl⟩ : ∃ q, k = q + 1 := ⟨k - 1, by omega⟩
    have hul : u.length = l.length - p := by rw [← hu, List.length_drop]
    have hBu : isBy u = true := by rw [← hu]; exact isBy_drop hB p
    rw [signetryref02_Runes.l0, rnsL]
    by_cases hn : u = []
    · have h0 : u8s u = [] := by rw [hn]; rfl
      rw [if_neg (by rw [hn] at hul; simp at hul; omega), if_pos h0]
    · have h0 : u8s u ≠ [] := fun e => hn (List.eq_nil_of_length_eq_zero (by rw [← u8s_len, e]; rfl))
      have hpos : 1 ≤ u.length := List.length_pos_iff.2 hn
      rw [if_pos (by omega), if_pos (by omega), if_pos (by omega), Int.toNat_natCast, hu, rfirst hBu (by omega) hn (by omega), Option.bind_some, if_neg h0]
      by_cases hb : isBad u
      · have hb2 := hb
        unfold isBad at hb2
        rw [fst8_bad hb, if_pos rfl, if_pos hb2]
      · obtain ⟨r, rest, h1, h2, h3⟩ := dec_ok hBu hn hb
        have hb2 := hb
        unfold isBad at hb2
        have hr := isRn_of h1
        have hlen := encodeRuneZ_length r
        have hul2 : u.length = (encodeRuneZ r).length + rest.length := by rw [h2, List.length_append]
        have hf8 : fst8 u = (r, ((encodeRuneZ r).length : Int)) := by rw [h2]; exact fst8_enc h1 rest
        have hdr : (u8s u).drop (encodeRuneZ r).length = u8s rest := by rw [h2, u8s_append, enc_drop]
        have hdr2 : l.drop (p + (encodeRuneZ r).length) = rest := by rw [← List.drop_drop, hu, h2, List.drop_left]
        have hz : ¬ ((encodeRuneZ r).length : Int) = 0 := by omega
        have ha2 : acc.length < 17592186044416 := by omega
        rw [hf8, if_neg hz, if_pos ha2, if_neg hb2, h3]
        simp only
        rw [w_nat (by omega), show ((r.toNat : Nat) : Int) = r by omega, hdr]
        exact rRunes_loop l hB hl f rest _ q _ hdr2 (by omega) (by rw [List.length_append]; simp; omega) (by omega) (by omega)
theorem rRunes {l : List Int} {k : Nat} (hB : isBy l = true) (hl : l.length ≤ 1000) (hk : l.length + 11 ≤ k) : signetryref02_Runes.f k l = some (rnsL (l.length + 1) (u8s l) 0 []) := by
  unfold signetryref02_Runes.f
  exact rRunes_loop l hB hl (l.length + 1) l 0 k [] rfl (by omega) (by simp) (by omega) (by omega)
/-- What the runes of bytes are like. -/
theorem rns_like : ∀ (f : Nat) (u : List Int) (p : Nat) (acc : List Int), isBy u = true → u.length < f →
    (validD (u8s u) = true ∧ ∃ rs, (∀ r ∈ rs, isRn r = true) ∧ rs.length ≤ u.length ∧ u = encs8 rs ∧ rnsL f (u8s u) p acc = (acc ++ rs, 0, 0)) ∨
    (validD (u8s u) = false ∧ ∃ (a : Nat), a < u.length ∧ rnsL f (u8s u) p acc = ([], ((p + a : Nat) : Int), 20) ∧ isBad (u.drop a) ∧ ∃ rs, (∀ r ∈ rs, isRn r = true) ∧ rs.length ≤ a ∧ u.take a = encs8 rs)
  | 0, u, p, acc, hB, hf => by omega
  | f + 1, u, p, acc, hB, hf => by
    rw [rnsL]
    by_cases hn : u = []
    · left
      subst hn
      exact ⟨rfl, [], by simp, Nat.le_refl _, rfl, by simp [u8s]⟩
    · have h0 : u8s u ≠ [] := fun e => hn (List.eq_nil_of_length_eq_zero (by rw [← u8s_len, e]; rfl))
      have hpos : 1 ≤ u.length := List.length_pos_iff.2 hn
      rw [if_neg h0, validD_step _ h0]
      by_cases hb : isBad u
      · have hb2 := hb
        unfold isBad at hb2
        right
        rw [if_pos hb2, if_pos hb2]
        exact ⟨rfl, 0, by omega, rfl, hb, [], by simp, Nat.le_refl _, rfl⟩
      · obtain ⟨r, rest, h1, h2, h3⟩ := dec_ok hB hn hb
        have hb2 := hb
        unfold isBad at hb2
        have hr := isRn_of h1
        have hlen := encodeRuneZ_length r
        have hul2 : u.length = (encodeRuneZ r).length + rest.length := by rw [h2, List.length_append]
        have hdr : (u8s u).drop (encodeRuneZ r).length = u8s rest := by rw [h2, u8s_append, enc_drop]
        have hBr : isBy rest = true := by
          have := isBy_drop hB (encodeRuneZ r).length
          rwa [h2, List.drop_left] at this
        rw [if_neg hb2, if_neg hb2, h3]
        simp only
        rw [show ((r.toNat : Nat) : Int) = r by omega, hdr]
        rcases rns_like f rest (p + (encodeRuneZ r).length) (acc ++ [r]) hBr (by omega) with ⟨v, rs, g1, g2, g3, g4⟩ | ⟨v, a, g1, g2, g3, rs, g4, g5, g6⟩
        · left
          refine ⟨v, r :: rs, ?_, by simp; omega, ?_, ?_⟩
          · intro x hx
            rcases List.mem_cons.1 hx with rfl | hx
            · exact h1
            · exact g1 x hx
          · rw [h2, g3]; rfl
          · rw [g4]; simp
        · right
          refine ⟨v, (encodeRuneZ r).length + a, by omega, ?_, ?_, r :: rs, ?_, by simp; omega, ?_⟩
          · rw [g2, Nat.add_assoc]
          · rw [h2, ← List.drop_drop, List.drop_left]; exact g3
          · intro x hx
            rcases List.mem_cons.1 hx with rfl | hx
            · exact h1
            · exact g4 x hx
          · rw [h2, List.take_length_add_append, g6]; rfl
end Go.Proofs.YtaklkcnohbbfoaaDoor.Pure
