/-
  What stands behind an escape, and a literal's bytes, over lists of bytes; the reference's answers. No walk.
-/
import Derived.Test.YtaklkcnohbbfoaaDoorPlainText
import Derived.Test.YtaklkcnohbbfoaaDoorGY
namespace Go.Proofs.YtaklkcnohbbfoaaDoor.Pure
open Go.RowKit Go.Lib Go.Proofs.YtaklkcnohbbfoaaDoor.PAll Go.Proofs.YtaklkcnohbbfoaaDoorW.PrintWords Go.Proofs.YtaklkcnohbbfoaaDoorW.PrintLast Go.Proofs.YtaklkcnohbbfoaaDoorW.PrintMore Go.Proofs.YtaklkcnohbbfoaaDoor.Hand
set_option linter.unusedVariables false
set_option linter.unusedSimpArgs false

/-! ### The reference's numbers -/
theorem rhex_tab : ∀ c : Fin 256, signetryref02_hex.f 5 ((c.val : Nat) : Int) = some (if hexV ((c.val : Nat) : Int) = 99 then -1 else hexV ((c.val : Nat) : Int)) := by decide +kernel
theorem rhex {c : Int} {k : Nat} (h0 : 0 ≤ c) (h1 : c ≤ 255) (hk : 5 ≤ k) : signetryref02_hex.f k c = some (if hexV c = 99 then -1 else hexV c) := by
  have := rhex_tab ⟨c.toNat, by omega⟩
  simp only at this
  rw [show ((c.toNat : Nat) : Int) = c from Int.toNat_of_nonneg h0] at this
  exact leO_le (signetryref02_hex.mono c) hk _ this
theorem hexV_or (c : Int) : (0 ≤ hexV c ∧ hexV c ≤ 15) ∨ hexV c = 99 := by
  unfold hexV
  split
  · omega
  · split
    · omega
    · split <;> omega
theorem pow16 {i : Nat} (h : i ≤ 8) : (16 : Int) ^ i ≤ 4294967296 := by
  have : i = 0 ∨ i = 1 ∨ i = 2 ∨ i = 3 ∨ i = 4 ∨ i = 5 ∨ i = 6 ∨ i = 7 ∨ i = 8 := by omega
  rcases this with h | h | h | h | h | h | h | h | h <;> rw [h] <;> decide
/-- A fact that is not looked at. -/
def Kp (p : Prop) : Prop := p
theorem num_step {i : Nat} {n v base : Int} (hbs : base = 8 ∨ base = 16) (hi : i + 1 ≤ 8) (h0 : 0 ≤ n) (h1 : Kp (n < 16 ^ i)) (v0 : 0 ≤ v) (v1 : v < base) : Kp (n * base + v < 16 ^ (i + 1)) ∧ 0 ≤ n * base + v ∧ ¬ v ≥ base ∧ wrap64 (wrap64 (base * n) + v) = n * base + v ∧ n * base + v ≤ 4294967296 := by
  have hp := pow16 hi
  unfold Kp at h1 ⊢
  rw [Int.pow_succ] at hp ⊢
  generalize (16 : Int) ^ i = P at hp h1 ⊢
  rw [Int.mul_comm base n]
  unfold wrap64
  rcases hbs with rfl | rfl <;> omega
theorem w_nat {a b : Nat} (h : a + b ≤ 4611686018427387904) : wrap64 ((a : Int) + (b : Int)) = ((a + b : Nat) : Int) := by rw [w64 (by omega) (by omega)]; omega
theorem w_one {a : Nat} (h : a < 4611686018427387904) : wrap64 ((a : Int) + 1) = ((a + 1 : Nat) : Int) := by rw [w64 (by omega) (by omega)]; omega
theorem num_at_end {s : ByteArray} {p i : Nat} (h : (bytesOf s).drop (p + i) = []) : ¬ ((p + i : Nat) : Int) < (s.size : Int) := by
  have := drop_nil h
  omega
theorem num_at {s : ByteArray} {p i : Nat} {c : Int} {u : List Int} (h : (bytesOf s).drop (p + i) = c :: u) : bt s ((p + i : Nat) : Int) = c ∧ (bytesOf s).drop (p + (i + 1)) = u ∧ ((p + i : Nat) : Int) < (s.size : Int) ∧ 0 ≤ ((p + i : Nat) : Int) ∧ 0 ≤ c ∧ c ≤ 255 := by
  obtain ⟨e1, e2, e3⟩ := bt_cons h
  obtain ⟨b0, b1⟩ := isBy_mem (isBy_drop (isBy_bytesOf s) (p + i)) (show c ∈ (bytesOf s).drop (p + i) by rw [h]; simp)
  exact ⟨e1, e2, by omega, by omega, b0, b1⟩
theorem num_small {v : Int} (h : 0 ≤ v ∧ v ≤ 15) : ¬ v = 99 ∧ ¬ v < 0 := by omega
theorem num_great {v base : Int} (hbs : base = 8 ∨ base = 16) (h : v = 99) : ¬ v < base := by rcases hbs with rfl | rfl <;> omega
theorem num_end {i d : Nat} {x y : Int} (h : x = y) : some (x, ((i + 1 + d : Nat) : Int)) = some (y, ((i + (d + 1) : Nat) : Int)) := by rw [h, show i + 1 + d = i + (d + 1) by omega]
theorem rnum_loop (s : ByteArray) (hs : s.size ≤ 1099511627776) (base : Int) (hbs : base = 8 ∨ base = 16) (p most k0 : Nat) (hk : 5 ≤ k0) (h8 : most ≤ 8) : ∀ (m : Nat) (u : List Int) (i : Nat) (n : Int), (bytesOf s).drop (p + i) = u → i + m = most → p ≤ s.size → 0 ≤ n → Kp (n < 16 ^ i) →
    signetryref02_number.l0 (2 * m + 2 + k0) s (p : Int) base (most : Int) n (i : Int) = some ((digs base m u n).1, ((i + (digs base m u n).2 : Nat) : Int))
  | 0, u, i, n, hu, hi, hp, h0, h1 => by
    have hq : 2 * 0 + 2 + k0 = k0 + 1 + 1 := by omega
    have hlt : ¬ (i : Int) < (most : Int) := by omega
    rw [hq, signetryref02_number.l0, if_neg hlt, signetryref02_number.j1, if_neg Bool.false_ne_true]
    rfl
  | m + 1, [], i, n, hu, hi, hp, h0, h1 => by
    have hq : 2 * (m + 1) + 2 + k0 = (2 * m + 2 + k0) + 1 + 1 := by omega
    have hlt : (i : Int) < (most : Int) := by omega
    have hsz := num_at_end hu
    have hw := w_nat (a := p) (b := i) (by omega)
    rw [hq, signetryref02_number.l0, if_pos hlt, hw, decide_eq_false hsz, signetryref02_number.j1, if_neg Bool.false_ne_true]
    rfl
  | m + 1, c :: u, i, n, hu, hi, hp, h0, h1 => by
    have hq : 2 * (m + 1) + 2 + k0 = (2 * m + 2 + k0) + 1 + 1 := by omega
    have hlt : (i : Int) < (most : Int) := by omega
    have h5 : 5 ≤ 2 * m + 2 + k0 := by omega
    have hi8 : i + 1 ≤ 8 := by omega
    have him : i + 1 + m = most := by omega
    have hw := w_nat (a := p) (b := i) (by omega)
    have hw1 := w_one (a := i) (by omega)
    obtain ⟨e1, e2, hsz, hge, b0, b1⟩ := num_at hu
    rw [hq, signetryref02_number.l0, if_pos hlt, hw, decide_eq_true hsz, signetryref02_number.j1, if_pos rfl, hw, if_pos hge, if_pos hsz, e1, rhex b0 b1 h5, Option.bind_some, digs]
    rcases hexV_or c with hv | hv
    · obtain ⟨g1, g2⟩ := num_small hv
      rw [if_neg g1, if_neg g2]
      by_cases hb : hexV c < base
      · obtain ⟨n1, n2, n3, n4, n5⟩ := num_step hbs hi8 h0 h1 hv.1 hb
        rw [if_neg n3, if_pos hb, n4, hw1, rnum_loop s hs base hbs p most k0 hk h8 m u (i + 1) (n * base + hexV c) e2 him hp n2 n1]
        exact num_end rfl
      · rw [if_pos (Int.not_lt.1 hb), if_neg hb]
        rfl
    · rw [if_pos hv, if_pos (by decide), if_neg (num_great hbs hv)]
      rfl
theorem rnum {s : ByteArray} {base : Int} {p most k : Nat} (hs : s.size ≤ 1099511627776) (hbs : base = 8 ∨ base = 16) (hp : p ≤ s.size) (h8 : most ≤ 8) (hk : 30 ≤ k) :
    signetryref02_number.f k s (p : Int) base (most : Int) = some ((digs base most ((bytesOf s).drop p) 0).1, (((digs base most ((bytesOf s).drop p) 0).2 : Nat) : Int)) := by
  unfold signetryref02_number.f
  have := rnum_loop s hs base hbs p most (k - (2 * most + 2)) (by omega) h8 most ((bytesOf s).drop p) 0 0 (by simp) (by omega) hp (Int.le_refl _) (show (0 : Int) < 16 ^ 0 by decide)
  rw [show 2 * most + 2 + (k - (2 * most + 2)) = k by omega] at this
  rw [show ((0 : Nat) : Int) = 0 from rfl] at this
  rw [this]
  simp

/-! ### The reference's runes -/
theorem rRune {l : List Int} {n : Int} (hl : l.length ≤ 1099511627776) : signetryref02_Rune.f l n = some (if isRn n = true then (l ++ encodeRuneZ n, 0) else ([], 20)) := by
  unfold signetryref02_Rune.f
  have hr : signetryref02_isRune.f n = some (isRn n) := by
    unfold signetryref02_isRune.f isRn
    by_cases h0 : n ≥ 0
    · rw [if_pos h0]
      by_cases h1 : n ≤ 1114111
      · rw [if_pos h1]
        by_cases h2 : n < 55296
        · rw [if_pos h2, decide_eq_true (show 0 ≤ n ∧ n < 55296 by omega)]; rfl
        · rw [if_neg h2, decide_eq_false (show ¬ (0 ≤ n ∧ n < 55296) by omega)]
          simp only [Bool.false_or, Option.some.injEq]
          rw [Bool.eq_iff_iff]
          simp only [decide_eq_true_eq]
          omega
      · rw [if_neg h1, decide_eq_false (show ¬ (0 ≤ n ∧ n < 55296) by omega), decide_eq_false (show ¬ (57343 < n ∧ n ≤ 1114111) by omega)]
        rfl
    · rw [if_neg h0, decide_eq_false (show ¬ (0 ≤ n ∧ n < 55296) by omega), decide_eq_false (show ¬ (57343 < n ∧ n ≤ 1114111) by omega)]
      rfl
  rw [hr, Option.bind_some]
  by_cases h : isRn n = true
  · rw [if_pos h, if_pos h, copy_f (by omega), Option.bind_some]
    have hn := (by simpa [isRn] using h : (0 ≤ n ∧ n < 55296) ∨ (57343 < n ∧ n ≤ 1114111))
    simp only [Option.bind_some, List.length_cons, List.length_nil]
    have t1 : Int.tdiv n 64 = n / 64 := Int.tdiv_eq_ediv_of_nonneg (by omega)
    have t2 : Int.tdiv n 4096 = n / 4096 := Int.tdiv_eq_ediv_of_nonneg (by omega)
    have t3 : Int.tdiv n 262144 = n / 262144 := Int.tdiv_eq_ediv_of_nonneg (by omega)
    have m1 : Int.tmod n 64 = n % 64 := Int.tmod_eq_emod_of_nonneg (by omega)
    have q1 : wrap64 (n / 64) = n / 64 := w64 (by omega) (by omega)
    have q2 : wrap64 (n / 4096) = n / 4096 := w64 (by omega) (by omega)
    have q3 : wrap64 (n / 262144) = n / 262144 := w64 (by omega) (by omega)
    have m2 : Int.tmod (n / 64) 64 = n / 64 % 64 := Int.tmod_eq_emod_of_nonneg (by omega)
    have m3 : Int.tmod (n / 4096) 64 = n / 4096 % 64 := Int.tmod_eq_emod_of_nonneg (by omega)
    rw [t1, t2, t3, m1, q1, q2, q3, m2, m3]
    by_cases c1 : n < 128
    · rw [if_pos c1, if_pos (by omega), encodeRuneZ_one (by omega) (by omega), show n % 256 = n by omega]
    · rw [if_neg c1]
      by_cases c2 : n < 2048
      · rw [if_pos c2, if_pos (by omega), encodeRuneZ_two (by omega) (by omega), show (192 + n / 64 % 256) % 256 = 192 + n / 64 by omega, show (128 + n % 64 % 256) % 256 = 128 + n % 64 by omega]
      · rw [if_neg c2]
        by_cases c3 : n < 65536
        · rw [if_pos c3, if_pos (by omega), encodeRuneZ_three (by omega), show (224 + n / 4096 % 256) % 256 = 224 + n / 4096 by omega, show (128 + n / 64 % 64 % 256) % 256 = 128 + n / 64 % 64 by omega, show (128 + n % 64 % 256) % 256 = 128 + n % 64 by omega]
        · rw [if_neg c3, if_pos (by omega), encodeRuneZ_four (by omega) (by omega), show (240 + n / 262144 % 256) % 256 = 240 + n / 262144 by omega, show (128 + n / 4096 % 64 % 256) % 256 = 128 + n / 4096 % 64 by omega, show (128 + n / 64 % 64 % 256) % 256 = 128 + n / 64 % 64 by omega, show (128 + n % 64 % 256) % 256 = 128 + n % 64 by omega]
  · rw [if_neg h, if_neg h]

/-! ### What stands behind an escape -/
/-- The bytes, and how many bytes that has. -/
def escL : List Int → Option (List Int × Nat)
  | [] => none
  | c :: t =>
    if escH c = true then some ([escV c], 1)
    else if c = 120 ∨ c = 88 then (if (digs 16 2 t 0).2 = 0 then none else some ([(digs 16 2 t 0).1 % 256], 1 + (digs 16 2 t 0).2))
    else if c = 117 ∨ c = 85 then (if (digs 16 (want c) t 0).2 = want c ∧ isRn (digs 16 (want c) t 0).1 = true then some (encodeRuneZ (digs 16 (want c) t 0).1, 1 + (digs 16 (want c) t 0).2) else none)
    else if (digs 8 3 (c :: t) 0).2 = 0 ∨ 255 < (digs 8 3 (c :: t) 0).1 then none else some ([(digs 8 3 (c :: t) 0).1 % 256], (digs 8 3 (c :: t) 0).2)
def escR (u : List Int) : List Int × Int := match escL u with
  | none => ([], 0)
  | some (b, n) => (b, (n : Int))
theorem escR_some {u : List Int} {b : List Int} {n : Nat} (h : escL u = some (b, n)) : escR u = (b, (n : Int)) := by rw [escR, h]
theorem escR_none {u : List Int} (h : escL u = none) : escR u = ([], 0) := by rw [escR, h]
theorem escL_len {u : List Int} {b : List Int} {n : Nat} (h : escL u = some (b, n)) : 1 ≤ n ∧ n ≤ u.length ∧ b.length ≤ 4 := by
  rcases u with _ | ⟨c, t⟩
  · simp [escL] at h
  · rw [escL] at h
    split at h
    · simp only [Option.some.injEq, Prod.mk.injEq] at h
      obtain ⟨rfl, rfl⟩ := h
      simp
    · split at h
      · split at h
        · cases h
        · simp only [Option.some.injEq, Prod.mk.injEq] at h
          obtain ⟨rfl, rfl⟩ := h
          have := digs_le 16 2 t 0
          simp
          omega
      · split at h
        · split at h
          · simp only [Option.some.injEq, Prod.mk.injEq] at h
            obtain ⟨rfl, rfl⟩ := h
            have := digs_le 16 (want c) t 0
            have := (encodeRuneZ_length (digs 16 (want c) t 0).1).2
            simp
            omega
          · cases h
        · split at h
          · cases h
          · simp only [Option.some.injEq, Prod.mk.injEq] at h
            obtain ⟨rfl, rfl⟩ := h
            have := digs_le 8 3 (c :: t) 0
            simp at this ⊢
            omega
theorem digs_none {base : Int} {m : Nat} {c : Int} {t : List Int} (h : ¬ hexV c < base) : digs base (m + 1) (c :: t) 0 = (0, 0) := by
  unfold digs
  rw [if_neg h]
def tabE : ByteArray := ⟨#[97, 98, 102, 110, 114, 116, 118, 92, 39, 34, 63]⟩
def tabV : List Int := [7, 8, 12, 10, 13, 9, 11, 92, 39, 34, 63]
/-- The reference's table, round by round. -/
theorem rtab_to (s : ByteArray) (p : Int) (c : Int) (k : Nat) : ∀ j : Nat, j ≤ 11 → (∀ i : Nat, i < j → c ≠ bt tabE (i : Int)) → signetryref02_escape.l0 (k + j) s p c 0 = signetryref02_escape.l0 k s p c (j : Int) := by
  intro j
  induction j generalizing k with
  | zero => intro _ _; rfl
  | succ j ih =>
    intro hj hne
    rw [show k + (j + 1) = (k + 1) + j by omega, ih (k + 1) (by omega) (fun i hi => hne i (by omega)), signetryref02_escape.l0, if_pos (by omega), if_pos (by omega)]
    exact (if_neg (hne j (by omega))).trans (by rw [w_one (by omega)])
theorem rtab_hit (s : ByteArray) (p : Int) (c : Int) (k j : Nat) (hj : j < 11) (h : c = bt tabE (j : Int)) (hv : rd tabV (j : Int) = escV c) : signetryref02_escape.l0 (k + 1) s p c (j : Int) = some ([escV c], 1) := by
  rw [signetryref02_escape.l0, if_pos (by omega), if_pos (by omega)]
  refine (if_pos h).trans ?_
  rw [Option.bind_some, if_pos (by simp only [List.length_cons, List.length_nil]; omega), ← hv]
  rfl
theorem rtab (s : ByteArray) (p : Int) (c : Int) (k : Nat) (hc : escH c = true) : signetryref02_escape.l0 (k + 12) s p c 0 = some ([escV c], 1) := by
  have key : ∀ j : Nat, j < 11 → c = bt tabE (j : Int) → (∀ i : Nat, i < j → c ≠ bt tabE (i : Int)) → rd tabV (j : Int) = escV c → signetryref02_escape.l0 (k + 12) s p c 0 = some ([escV c], 1) := by
    intro j hj h1 h2 h3
    rw [show k + 12 = (k + (11 - j) + 1) + j by omega, rtab_to s p c _ j (by omega) h2]
    exact rtab_hit s p c _ j hj h1 h3
  have h : c = 97 ∨ c = 98 ∨ c = 102 ∨ c = 110 ∨ c = 114 ∨ c = 116 ∨ c = 118 ∨ c = 92 ∨ c = 39 ∨ c = 34 ∨ c = 63 := by
    simpa [escH, or_assoc] using hc
  rcases h with rfl | rfl | rfl | rfl | rfl | rfl | rfl | rfl | rfl | rfl | rfl
  · exact key 0 (by decide) (by decide +kernel) (by decide +kernel) (by decide +kernel)
  · exact key 1 (by decide) (by decide +kernel) (by decide +kernel) (by decide +kernel)
  · exact key 2 (by decide) (by decide +kernel) (by decide +kernel) (by decide +kernel)
  · exact key 3 (by decide) (by decide +kernel) (by decide +kernel) (by decide +kernel)
  · exact key 4 (by decide) (by decide +kernel) (by decide +kernel) (by decide +kernel)
  · exact key 5 (by decide) (by decide +kernel) (by decide +kernel) (by decide +kernel)
  · exact key 6 (by decide) (by decide +kernel) (by decide +kernel) (by decide +kernel)
  · exact key 7 (by decide) (by decide +kernel) (by decide +kernel) (by decide +kernel)
  · exact key 8 (by decide) (by decide +kernel) (by decide +kernel) (by decide +kernel)
  · exact key 9 (by decide) (by decide +kernel) (by decide +kernel) (by decide +kernel)
  · exact key 10 (by decide) (by decide +kernel) (by decide +kernel) (by decide +kernel)
theorem rtab_no (s : ByteArray) (p : Int) (c : Int) (k : Nat) (hc : escH c = false) : signetryref02_escape.l0 (k + 12) s p c 0 = signetryref02_escape.l0 (k + 1) s p c 11 := by
  have h : c ≠ 97 ∧ c ≠ 98 ∧ c ≠ 102 ∧ c ≠ 110 ∧ c ≠ 114 ∧ c ≠ 116 ∧ c ≠ 118 ∧ c ≠ 92 ∧ c ≠ 39 ∧ c ≠ 34 ∧ c ≠ 63 := by
    simpa [escH, and_assoc] using hc
  have tab : ∀ i : Fin 11, bt tabE ((i.val : Nat) : Int) = 97 ∨ bt tabE ((i.val : Nat) : Int) = 98 ∨ bt tabE ((i.val : Nat) : Int) = 102 ∨ bt tabE ((i.val : Nat) : Int) = 110 ∨ bt tabE ((i.val : Nat) : Int) = 114 ∨ bt tabE ((i.val : Nat) : Int) = 116 ∨ bt tabE ((i.val : Nat) : Int) = 118 ∨ bt tabE ((i.val : Nat) : Int) = 92 ∨ bt tabE ((i.val : Nat) : Int) = 39 ∨ bt tabE ((i.val : Nat) : Int) = 34 ∨ bt tabE ((i.val : Nat) : Int) = 63 := by decide +kernel
  exact rtab_to s p c (k + 1) 11 (Nat.le_refl _) (fun i hi e => by
    have := tab ⟨i, hi⟩
    simp only at this
    rw [← e] at this
    omega)
theorem esc_no8 {c : Int} (h : escH c = false) (h8 : ¬ (48 ≤ c ∧ c ≤ 55)) : ¬ hexV c < 8 := by
  have h2 : c ≠ 97 ∧ c ≠ 98 ∧ c ≠ 102 := by simp [escH] at h; omega
  unfold hexV
  split
  · omega
  · split
    · omega
    · split <;> omega
theorem rEsc {s : ByteArray} {p k : Nat} (hs : s.size ≤ 1099511627776) (hp : p < s.size) (hk : 60 ≤ k) : signetryref02_escape.f k s (p : Int) = some (escR ((bytesOf s).drop p)) := by
  unfold signetryref02_escape.f
  rw [if_pos (by omega), if_pos (by omega)]
  obtain ⟨c, t, hu⟩ : ∃ c t, (bytesOf s).drop p = c :: t := by
    rcases h : (bytesOf s).drop p with _ | ⟨c, t⟩
    · have := drop_nil h; omega
    · exact ⟨c, t, rfl⟩
  obtain ⟨e1, e2, e3⟩ := bt_cons hu
  obtain ⟨b0, b1⟩ := isBy_mem (isBy_drop (isBy_bytesOf s) p) (show c ∈ (bytesOf s).drop p by rw [hu]; simp)
  obtain ⟨q, rfl⟩ : ∃ q, k = q + 12 := ⟨k - 12, by omega⟩
  rw [e1, hu]
  rw [escR, escL]
  by_cases hH : escH c = true
  · rw [rtab _ _ _ _ hH, if_pos hH]
    rfl
  · have hw : wrap64 ((p : Int) + 1) = ((p + 1 : Nat) : Int) := by rw [w64 (by omega) (by omega)]; omega
    rw [rtab_no _ _ _ _ (by simpa using hH), if_neg hH, signetryref02_escape.l0, if_neg (by decide)]
    obtain ⟨r, rfl⟩ : ∃ r, q = r + 4 := ⟨q - 4, by omega⟩
    have hj : (if c ≥ 48 then signetryref02_escape.j1 (r + 4) s (p : Int) c (decide (c ≤ 55)) else signetryref02_escape.j1 (r + 4) s (p : Int) c false) = signetryref02_escape.j1 (r + 4) s (p : Int) c (decide (48 ≤ c ∧ c ≤ 55)) := by
      by_cases h : c ≥ 48
      · rw [if_pos h]
        congr 1
        rw [Bool.eq_iff_iff]
        simp only [decide_eq_true_eq]
        omega
      · rw [if_neg h, decide_eq_false (by omega)]
    rw [hj, signetryref02_escape.j1]
    by_cases h8 : 48 ≤ c ∧ c ≤ 55
    · have hx : ¬ (c = 120 ∨ c = 88) := by omega
      have hu2 : ¬ (c = 117 ∨ c = 85) := by omega
      have hpos : (digs 8 3 (c :: t) 0).2 ≠ 0 := by
        unfold digs
        rw [if_pos (by unfold hexV; rw [if_pos (by omega)]; omega)]
        simp
      rw [decide_eq_true h8, if_pos rfl, show (3 : Int) = ((3 : Nat) : Int) from rfl, rnum (most := 3) hs (Or.inl rfl) (by omega) (by omega) (by omega), Option.bind_some, hu, if_neg hx, if_neg hu2]
      by_cases h255 : (digs 8 3 (c :: t) 0).1 > 255
      · rw [if_pos h255, if_pos (Or.inr h255)]
      · rw [if_neg h255, if_neg (fun e => e.elim hpos h255)]
    · rw [decide_eq_false h8, if_neg (by simp)]
      have hj2 : (if c = 120 then signetryref02_escape.j2 (r + 3) s (p : Int) c true else signetryref02_escape.j2 (r + 3) s (p : Int) c (c == 88)) = signetryref02_escape.j2 (r + 3) s (p : Int) c (decide (c = 120 ∨ c = 88)) := by
        by_cases h : c = 120
        · rw [if_pos h, decide_eq_true (Or.inl h)]
        · rw [if_neg h]
          congr 1
          rw [Bool.eq_iff_iff]
          simp [h]
      rw [hj2, signetryref02_escape.j2]
      by_cases hx : c = 120 ∨ c = 88
      · rw [decide_eq_true hx, if_pos rfl, if_pos hx, hw, show (2 : Int) = ((2 : Nat) : Int) from rfl, rnum (most := 2) hs (Or.inr rfl) (by omega) (by omega) (by omega), Option.bind_some, e2]
        have hd := digs_le 16 2 t 0
        by_cases h0 : (digs 16 2 t 0).2 = 0
        · rw [if_pos (by omega), if_pos h0]
        · rw [if_neg (by omega), if_neg h0, w64 (by omega) (by omega)]
          simp
      · rw [decide_eq_false hx, if_neg (by simp), if_neg hx]
        have hj4 : ∀ m : Nat, m ≤ 8 → signetryref02_escape.j4 (r + 1) s (p : Int) (m : Int) = some (if m ≠ 0 ∧ (digs 16 m t 0).2 = m ∧ isRn (digs 16 m t 0).1 = true then (encodeRuneZ (digs 16 m t 0).1, ((1 + (digs 16 m t 0).2 : Nat) : Int)) else ([], 0)) := by
          intro m hm
          have hd := digs_le 16 m t 0
          rw [signetryref02_escape.j4, hw, rnum (most := m) hs (Or.inr rfl) (by omega) (by omega) (by omega), Option.bind_some, e2, rRune (by simp), Option.bind_some]
          by_cases h0 : m = 0
          · rw [if_pos (by omega), if_neg (by simp [h0])]
          · rw [if_neg (by omega)]
            by_cases h1 : (digs 16 m t 0).2 = m
            · rw [if_neg (by omega)]
              by_cases h2 : isRn (digs 16 m t 0).1 = true
              · rw [if_pos h2, if_pos rfl, if_pos ⟨h0, h1, h2⟩, w64 (by omega) (by omega), List.nil_append]
                simp
              · rw [if_neg h2, if_neg (by decide), if_neg (by simp [h2])]
            · rw [if_pos (by omega), if_neg (by simp [h1])]
        by_cases hu2 : c = 117 ∨ c = 85
        · have hj3 : (if c = 117 then signetryref02_escape.j3 (r + 2) s (p : Int) c 4 else signetryref02_escape.j3 (r + 2) s (p : Int) c 0) = signetryref02_escape.j4 (r + 1) s (p : Int) ((want c : Nat) : Int) := by
            unfold want
            rcases hu2 with rfl | rfl
            · rfl
            · rfl
          have hwn : want c ≤ 8 ∧ want c ≠ 0 := by unfold want; split <;> omega
          rw [hj3, hj4 _ hwn.1, if_pos hu2]
          by_cases hh : (digs 16 (want c) t 0).2 = want c ∧ isRn (digs 16 (want c) t 0).1 = true
          · rw [if_pos ⟨hwn.2, hh⟩, if_pos hh]
          · rw [if_neg (fun h => hh h.2), if_neg hh]
        · have h1 : c ≠ 117 := fun h => hu2 (Or.inl h)
          have h2 : c ≠ 85 := fun h => hu2 (Or.inr h)
          rw [if_neg h1, signetryref02_escape.j3, if_neg h2, if_neg hu2]
          have := hj4 0 (by omega)
          rw [show ((0 : Nat) : Int) = 0 from rfl] at this
          rw [this, if_neg (by simp)]
          have hnd : ¬ hexV c < 8 := by exact esc_no8 (by simpa using hH) h8
          rw [digs_none hnd, if_pos (Or.inl rfl)]

/-! ### A literal's bytes -/
/-- What is read of a rest, behind what was read. -/
def uq (q : Int) : Nat → List Int → List Int → List Int × Int
  | 0, _, _ => ([], 21)
  | _ + 1, [], _ => ([], 21)
  | f + 1, c :: t, acc =>
    if c = q then (if t = [] then (acc, 0) else ([], 21))
    else if c < 32 then ([], 21)
    else if c = 92 then (match escL t with
      | none => ([], 21)
      | some (b, n) => uq q f (t.drop n) (acc ++ b))
    else uq q f t (acc ++ [c])
/-- What is read of a text. -/
def uqF (l : List Int) : List Int × Int :=
  if l.length < 2 then ([], 21) else if l.getD 0 0 = 34 ∨ l.getD 0 0 = 39 then uq (l.getD 0 0) l.length (l.drop 1) [] else ([], 21)
theorem uq_last (q : Int) : ∀ (f : Nat) (u acc b : List Int), uq q f u acc = (b, 0) → u.getLast? = some q
  | 0, _, _, _, h => by simp [uq] at h
  | _ + 1, [], _, _, h => by simp [uq] at h
  | f + 1, c :: t, acc, b, h => by
    unfold uq at h
    split at h
    · rename_i hc
      split at h
      · rename_i ht
        rw [ht, hc]; rfl
      · simp at h
    · split at h
      · simp at h
      · split at h
        · split at h
          · simp at h
          · rename_i b' n he
            have ih := uq_last q f _ _ _ h
            have hn := (escL_len he).2.1
            rcases t with _ | ⟨d, t'⟩
            · simp at hn
              simp [escL] at he
            · rw [List.getLast?_drop] at ih
              split at ih
              · cases ih
              · rw [List.getLast?_cons_cons]
                exact ih
        · have ih := uq_last q f _ _ _ h
          rcases t with _ | ⟨d, t'⟩
          · simp at ih
          · rw [List.getLast?_cons_cons]
            exact ih
theorem uq_or (q : Int) : ∀ (f : Nat) (u acc : List Int), uq q f u acc = ([], 21) ∨ (uq q f u acc).2 = 0
  | 0, _, _ => by simp [uq]
  | _ + 1, [], _ => by simp [uq]
  | f + 1, c :: t, acc => by
    unfold uq
    split
    · split <;> simp
    · split
      · simp
      · split
        · split
          · simp
          · exact uq_or q f _ _
        · exact uq_or q f _ _
theorem unq_ar {z p tl f k0 a : Nat} (hs : z ≤ 1099511627776) (hp : p ≤ z) (h1 : 1 ≤ p) (hul : tl + 1 = z - p) (hf : tl + 1 < f + 1) (ha : a ≤ 4 * p) (hk : 60 ≤ k0) :
    2 * (f + 1) + k0 = (2 * f + k0) + 1 + 1 ∧ (p : Int) < (z : Int) ∧ (0 : Int) ≤ (p : Int) ∧ (0 : Int) < (z : Int) ∧ wrap64 ((p : Int) + 1) = ((p + 1 : Nat) : Int) ∧ wrap64 ((z : Int) - 1) = ((z - 1 : Nat) : Int) ∧ a < 140737488355328 ∧ tl < f ∧ p + 1 ≤ z ∧ 60 ≤ 2 * f + k0 :=
  ⟨by omega, by omega, by omega, by omega, by rw [w64 (by omega) (by omega)]; omega, by rw [w64 (by omega) (by omega)]; omega, by omega, by omega, by omega, by omega⟩
theorem unq_ar2 {z p tl n bl f a : Nat} (hs : z ≤ 1099511627776) (hp : p ≤ z) (hul : tl + 1 = z - p) (hf : tl + 1 < f + 1) (ha : a ≤ 4 * p) (l1 : 1 ≤ n) (l2 : n ≤ tl) (l3 : bl ≤ 4) :
    ¬ (n : Int) = 0 ∧ a + bl < 140737488355328 ∧ wrap64 (((p + 1 : Nat) : Int) + (n : Int)) = ((p + 1 + n : Nat) : Int) ∧ tl - n < f ∧ 1 ≤ p + 1 + n ∧ p + 1 + n ≤ z ∧ a + bl ≤ 4 * (p + 1 + n) :=
  ⟨by omega, by omega, by rw [w64 (by omega) (by omega)]; omega, by omega, by omega, by omega, by omega⟩
theorem drop_len {s : ByteArray} {p : Nat} {c : Int} {t : List Int} (h : (bytesOf s).drop p = c :: t) : t.length + 1 = s.size - p := by
  have := congrArg List.length h
  rw [List.length_drop, bytesOf_length, List.length_cons] at this
  exact this.symm
theorem unq_end {z p : Nat} {t : List Int} (hul : t.length + 1 = z - p) (h1 : 1 ≤ p) : ((p : Nat) : Int) = ((z - 1 : Nat) : Int) ↔ t = [] := by
  rw [← List.length_eq_zero_iff]
  omega
theorem unq_end2 {z p : Nat} {t : List Int} (hul : t.length + 1 = z - p) : ((p + 1 : Nat) : Int) = (z : Int) ↔ t = [] := by
  rw [← List.length_eq_zero_iff]
  omega
theorem unq_lt {z p : Nat} {t : List Int} (hul : t.length + 1 = z - p) (hp : p ≤ z) (h : t ≠ []) : p + 1 < z := by
  have : t.length ≠ 0 := fun e => h (List.length_eq_zero_iff.1 e)
  omega
theorem unq_acc {p : Nat} {acc : List Int} {c : Int} (ha : acc.length ≤ 4 * p) : (acc ++ [c]).length ≤ 4 * (p + 1) := by
  rw [List.length_append, List.length_cons, List.length_nil]
  omega
theorem unq_nil {s : ByteArray} {p : Nat} (h : (bytesOf s).drop p = []) (hp : p ≤ s.size) (h2 : 2 ≤ s.size) (hs : s.size ≤ 1099511627776) : ¬ (p : Int) < (s.size : Int) ∧ ¬ (p : Int) = wrap64 ((s.size : Int) - 1) := by
  have := drop_nil h
  rw [w64 (by omega) (by omega)]
  omega
theorem rUnq_loop (s : ByteArray) (hs : s.size ≤ 1099511627776) (q : Int) (hq : bt s 0 = q) (h2 : 2 ≤ s.size) (k0 : Nat) (hk : 60 ≤ k0) : ∀ (f : Nat) (u : List Int) (p : Nat) (acc : List Int), (bytesOf s).drop p = u → u.length < f → 1 ≤ p → p ≤ s.size → acc.length ≤ 4 * p →
    signetryref02_Unquote.l0 (2 * f + k0) s acc (p : Int) = some (uq q f u acc)
  | 0, u, p, acc, hu, hf, h1, hp, ha => absurd hf (Nat.not_lt_zero _)
  | f + 1, [], p, acc, hu, hf, h1, hp, ha => by
    obtain ⟨g1, g2⟩ := unq_nil hu hp h2 hs
    rw [show 2 * (f + 1) + k0 = (2 * f + k0) + 1 + 1 by omega, signetryref02_Unquote.l0, if_neg g1, signetryref02_Unquote.j2, if_neg Bool.false_ne_true, if_neg g2]
    rfl
  | f + 1, c :: t, p, acc, hu, hf, h1, hp, ha => by
    obtain ⟨e1, e2, e3⟩ := bt_cons hu
    have hul := drop_len hu
    obtain ⟨a1, a2, a3, a4, a5, a6, a7, a8, a9, a10⟩ := unq_ar hs hp h1 hul hf ha hk
    rw [a1, signetryref02_Unquote.l0, if_pos a2, if_pos a3, if_pos a4, signetryref02_Unquote.j2, e1, hq, uq]
    by_cases hc : c = q
    · have hb : (c != q) = false := by simp [hc]
      rw [hb, if_neg Bool.false_ne_true, if_pos hc, a6]
      by_cases ht : t = []
      · rw [if_pos ht, if_pos ((unq_end hul h1).2 ht)]
      · rw [if_neg ht, if_neg (fun e => ht ((unq_end hul h1).1 e))]
    · have hb : (c != q) = true := by simp [hc]
      rw [hb, if_pos rfl, if_neg hc, if_pos a3, if_pos a2]
      by_cases h32 : c < 32
      · rw [if_pos h32, if_pos h32]
      · rw [if_neg h32, if_neg h32]
        by_cases h92 : c = 92
        · rw [if_pos h92, if_pos h92, a5]
          by_cases hend : t = []
          · rw [if_pos ((unq_end2 hul).2 hend), hend]
            rfl
          · have hlt : p + 1 < s.size := unq_lt hul hp hend
            rw [if_neg (fun e => hend ((unq_end2 hul).1 e)), rEsc hs hlt a10, e2, Option.bind_some]
            rcases he : escL t with _ | ⟨b, n⟩
            · rw [escR_none he, if_pos rfl]
            · obtain ⟨l1, l2, l3⟩ := escL_len he
              obtain ⟨b1, b2, b3, b4, b5, b6, b7⟩ := unq_ar2 hs hp hul hf ha l1 l2 l3
              rw [escR_some he, if_neg b1, if_pos b2, b3]
              exact rUnq_loop s hs q hq h2 k0 hk f (t.drop n) (p + 1 + n) (acc ++ b) (by rw [← List.drop_drop, e2]) (by rw [List.length_drop]; exact b4) b5 b6 (by rw [List.length_append]; exact b7)
        · rw [if_neg h92, if_neg h92, if_pos a7, a5]
          exact rUnq_loop s hs q hq h2 k0 hk f t (p + 1) (acc ++ [c]) e2 a8 (Nat.le_add_left _ _) a9 (unq_acc ha)
theorem rUnq {s : ByteArray} {k : Nat} (hs : s.size ≤ 1099511627776) (hk : 2 * s.size + 70 ≤ k) : signetryref02_Unquote.f k s = some (uqF (bytesOf s)) := by
  have hlen : (bytesOf s).length = s.size := bytesOf_length s
  obtain ⟨r, rfl⟩ : ∃ r, k = r + 1 := ⟨k - 1, by omega⟩
  unfold signetryref02_Unquote.f uqF
  rw [hlen]
  by_cases h2 : s.size < 2
  · rw [if_pos (by omega), signetryref02_Unquote.j0, if_pos rfl, if_pos h2]
  · rw [if_neg (by omega), if_pos (by omega), if_neg h2]
    have e0 : bt s 0 = (bytesOf s).getD 0 0 := bt_getD s 0
    rw [← e0]
    have hl : bt s 0 = 34 ∨ bt s 0 = 39 → signetryref02_Unquote.l0 r s [] 1 = some (uq (bt s 0) s.size ((bytesOf s).drop 1) []) := by
      intro h
      have := rUnq_loop s hs (bt s 0) rfl (by omega) (r - 2 * s.size) (by omega) s.size ((bytesOf s).drop 1) 1 [] rfl (by rw [List.length_drop]; omega) (by omega) (by omega) (by simp)
      rwa [show 2 * s.size + (r - 2 * s.size) = r by omega] at this
    by_cases h34 : bt s 0 = 34
    · rw [if_pos h34, signetryref02_Unquote.j0, if_neg (by simp), if_pos (Or.inl h34), hl (Or.inl h34)]
    · rw [if_neg h34, signetryref02_Unquote.j0]
      by_cases h39 : bt s 0 = 39
      · rw [if_neg (by simp [h39]), if_pos (Or.inr h39), hl (Or.inr h39)]
      · rw [if_pos (by simp [h39]), if_neg (by simp [h34, h39])]
end Go.Proofs.YtaklkcnohbbfoaaDoor.Pure
