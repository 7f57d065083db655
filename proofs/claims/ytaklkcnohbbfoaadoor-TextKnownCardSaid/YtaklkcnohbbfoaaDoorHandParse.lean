/-
  What the printed ParseUint answers at rows of digits. No walk.
-/
import Derived.Test.YtaklkcnohbbfoaaDoorGU
namespace Go.Proofs.YtaklkcnohbbfoaaDoor.Hand
open Go.RowKit Go.Proofs.YtaklkcnohbbfoaaDoorW.PrintWords Go.Proofs.YtaklkcnohbbfoaaDoorW.PrintMore Go.Proofs.YtaklkcnohbbfoaaDoor.PAll
set_option linter.unusedVariables false
set_option linter.unusedSimpArgs false

/-- The value of a digit; 99 is none. -/
def hexV (c : Int) : Int := if 48 ≤ c ∧ c ≤ 57 then c - 48 else if 97 ≤ c ∧ c ≤ 102 then c - 87 else if 65 ≤ c ∧ c ≤ 70 then c - 55 else 99
def digs (base : Int) : Nat → List Int → Int → Int × Nat
  | 0, _, a => (a, 0)
  | _ + 1, [], a => (a, 0)
  | m + 1, c :: u, a => if hexV c < base then ((digs base m u (a * base + hexV c)).1, (digs base m u (a * base + hexV c)).2 + 1) else (a, 0)
def pv (base : Int) (l : List Int) (a : Int) : Int := l.foldl (fun a c => a * base + hexV c) a
theorem digs_le (base : Int) : ∀ (m : Nat) (l : List Int) (a : Int), (digs base m l a).2 ≤ m ∧ (digs base m l a).2 ≤ l.length
  | 0, _, _ => by simp [digs]
  | _ + 1, [], _ => by simp [digs]
  | m + 1, c :: u, a => by
    unfold digs
    split
    · have := digs_le base m u (a * base + hexV c)
      simp
      omega
    · simp
theorem digs_val (base : Int) : ∀ (m : Nat) (l : List Int) (a : Int), (digs base m l a).1 = pv base (l.take (digs base m l a).2) a
  | 0, _, _ => by simp [digs, pv]
  | _ + 1, [], _ => by simp [digs, pv]
  | m + 1, c :: u, a => by
    unfold digs
    split
    · simp only [List.take_succ_cons, pv, List.foldl_cons]
      exact digs_val base m u (a * base + hexV c)
    · simp [pv]
theorem digs_in (base : Int) : ∀ (m : Nat) (l : List Int) (a : Int) (j : Nat), j < (digs base m l a).2 → hexV (l.getD j 0) < base
  | 0, _, _, j, h => by simp [digs] at h
  | _ + 1, [], _, j, h => by simp [digs] at h
  | m + 1, c :: u, a, j, h => by
    unfold digs at h
    split at h
    · rename_i hc
      rcases j with _ | j
      · simpa using hc
      · have := digs_in base m u (a * base + hexV c) j (by simpa using h)
        simpa using this
    · simp at h
theorem digs_out (base : Int) : ∀ (m : Nat) (l : List Int) (a : Int), (digs base m l a).2 < m → (digs base m l a).2 < l.length → ¬ hexV (l.getD (digs base m l a).2 0) < base
  | 0, _, _, h, _ => by simp [digs] at h
  | _ + 1, [], _, _, h => by simp [digs] at h
  | m + 1, c :: u, a, h, h' => by
    unfold digs at h h' ⊢
    split
    · rename_i hc
      rw [if_pos hc] at h h'
      have := digs_out base m u (a * base + hexV c) (by simpa using h) (by simpa using h')
      simpa using this
    · rename_i hc
      rw [if_neg hc] at h h'
      simpa using hc
theorem hexV_pos (c : Int) : 0 ≤ hexV c := by
  unfold hexV
  repeat' split
  all_goals omega
theorem pv_range {base : Int} (hb : 0 ≤ base) : ∀ (l : List Int) (a : Int), 0 ≤ a → (∀ c ∈ l, hexV c < base) → a * base ^ l.length ≤ pv base l a ∧ pv base l a < (a + 1) * base ^ l.length
  | [], a, _, _ => by simp [pv]; omega
  | c :: l, a, ha, h => by
    have h0 := hexV_pos c
    have h1 := h c (by simp)
    have hm : 0 ≤ a * base := Int.mul_nonneg ha hb
    obtain ⟨i1, i2⟩ := pv_range hb l (a * base + hexV c) (by omega) (fun c' hc' => h c' (by simp [hc']))
    have e : pv base (c :: l) a = pv base l (a * base + hexV c) := rfl
    have hp : 0 ≤ base ^ l.length := Int.pow_nonneg hb
    rw [e, List.length_cons, Int.pow_succ]
    constructor
    · refine Int.le_trans ?_ i1
      rw [Int.mul_comm (base ^ l.length) base, ← Int.mul_assoc]
      exact Int.mul_le_mul_of_nonneg_right (by omega) hp
    · refine Int.lt_of_lt_of_le i2 ?_
      rw [Int.mul_comm (base ^ l.length) base, ← Int.mul_assoc]
      refine Int.mul_le_mul_of_nonneg_right ?_ hp
      rw [Int.add_mul]
      omega
/-- Two steps of the loop: a byte that is a digit. -/
theorem lower_tab : ∀ c : Fin 256, (97 ≤ c.val ∧ c.val ≤ 102 ∨ 65 ≤ c.val ∧ c.val ≤ 70) → Go.bits .or .u8 ((c.val : Nat) : Int) 32 = hexV (c.val : Nat) + 87 := by decide +kernel
theorem lower_hex {c : Int} (h0 : 0 ≤ c) (h1 : c ≤ 255) (h : 97 ≤ c ∧ c ≤ 102 ∨ 65 ≤ c ∧ c ≤ 70) : Go.bits .or .u8 c 32 = hexV c + 87 := by
  have := lower_tab ⟨c.toNat, by omega⟩ (by simp; omega)
  simp only at this
  rwa [show ((c.toNat : Nat) : Int) = c from Int.toNat_of_nonneg h0] at this
theorem wrap_u64 {x : Int} (h0 : 0 ≤ x) (h1 : x < 18446744073709551616) : IntKind.u64.wrap x = x := by
  simp [IntKind.wrap, IntKind.bits, IntKind.signed]
  omega
theorem round_parse (k : Nat) (base cut n len i : Int) (l : List Int) (hi : 0 ≤ i) (hil : i < len) (hl : len = l.length) (c0 : 0 ≤ rd l i) (c1 : rd l i ≤ 255) (hd : hexV (rd l i) < base)
    (hbs : base = 8 ∨ base = 16) (hn : 0 ≤ n) (hnc : n < cut) (hcut : cut ≤ 2305843009213693952) (hm : n * base < 9223372036854775808) (hlen : len < 9223372036854775807) :
    strconv_ParseUint.l0 (k + 4) base false cut 18446744073709551615 false n l len i = strconv_ParseUint.l0 k base false cut 18446744073709551615 false (n * base + hexV (rd l i)) l len (i + 1) := by
  obtain ⟨c, hc⟩ : ∃ c, rd l i = c := ⟨_, rfl⟩
  have hw : wrap64 (i + 1) = i + 1 := by simp only [wrap64]; omega
  have hh0 := hexV_pos c
  rw [hc] at c0 c1 hd ⊢
  have hnb : 0 ≤ n * base := Int.mul_nonneg hn (by omega)
  have hW1 : IntKind.u64.wrap base = base := wrap_u64 (by omega) (by omega)
  have hW2 : IntKind.u64.wrap (n * base) = n * base := wrap_u64 hnb (by omega)
  have hv16 : hexV c < 16 := by omega
  have hW3 : IntKind.u64.wrap (hexV c) = hexV c := wrap_u64 hh0 (by omega)
  have hW4 : IntKind.u64.wrap (n * base + hexV c) = n * base + hexV c := wrap_u64 (by omega) (by omega)
  have hj9 : strconv_ParseUint.j9 (k + 1) base false cut 18446744073709551615 false n (hexV c) l len i = strconv_ParseUint.l0 k base false cut 18446744073709551615 false (n * base + hexV c) l len (i + 1) := by
    rw [strconv_ParseUint.j9, hW1, hW2, hW3, hW4, hw, if_neg (by omega), if_neg (by omega), if_neg (by omega), if_neg (by omega)]
  rw [strconv_ParseUint.l0, if_pos hil, if_pos hi, if_pos (by omega), hc]
  have h95 : c ≠ 95 := by
    intro h
    subst h
    simp [hexV] at hv16
  rw [if_neg h95, strconv_ParseUint.j7, if_neg (by simp)]
  by_cases h57 : c ≤ 57
  · have h48 : 48 ≤ c := by
      by_cases h48 : 48 ≤ c
      · exact h48
      · unfold hexV at hv16
        rw [if_neg (by omega), if_neg (by omega), if_neg (by omega)] at hv16
        omega
    have e : hexV c = c - 48 := by unfold hexV; rw [if_pos ⟨h48, h57⟩]
    rw [if_pos h48, strconv_ParseUint.j8, if_pos (by simpa using h57), show (c - 48) % 256 = hexV c by rw [e]; omega]
    exact hj9
  · have hlet : 97 ≤ c ∧ c ≤ 102 ∨ 65 ≤ c ∧ c ≤ 70 := by
      by_cases h1 : 97 ≤ c ∧ c ≤ 102
      · exact Or.inl h1
      · by_cases h2 : 65 ≤ c ∧ c ≤ 70
        · exact Or.inr h2
        · unfold hexV at hv16
          rw [if_neg (by omega), if_neg h1, if_neg h2] at hv16
          omega
    have hlo := lower_hex c0 c1 hlet
    have h10 : 10 ≤ hexV c := by
      unfold hexV
      rcases hlet with h | h
      · rw [if_neg (by omega), if_pos h]; omega
      · rw [if_neg (by omega), if_neg (by omega), if_pos h]; omega
    rw [if_pos (by omega), strconv_ParseUint.j8, if_neg (by simpa using h57), strconv_lower.f, hlo, Option.bind_some, if_pos (by omega), if_pos (by omega), show (((hexV c + 87 - 97) % 256) + 10) % 256 = hexV c by omega]
    exact hj9
theorem rd_drop {l : List Int} {i : Nat} {c : Int} {u : List Int} (h : l.drop i = c :: u) : rd l i = c ∧ l.drop (i + 1) = u ∧ i < l.length := by
  have hi : i < l.length := by
    rcases Nat.lt_or_ge i l.length with h' | h'
    · exact h'
    · rw [List.drop_of_length_le h'] at h
      cases h
  rw [List.drop_eq_getElem_cons hi] at h
  simp only [List.cons.injEq] at h
  refine ⟨?_, h.2, hi⟩
  rw [rd, ← h.1]
  simp [List.getD_eq_getElem?_getD, List.getElem?_eq_getElem hi]
/-- The whole row. -/
theorem loop_parse (base cut : Int) (l : List Int) (hbs : base = 8 ∨ base = 16) (hcut : cut ≤ 2305843009213693952) (hlen : l.length < 9223372036854775807) :
    ∀ (u : List Int) (i k : Nat) (n : Int), l.drop i = u → (∀ c ∈ u, 0 ≤ c ∧ c ≤ 255 ∧ hexV c < base) → 0 ≤ n → (n + 1) * base ^ u.length ≤ cut → (n + 1) * base ^ u.length ≤ 9223372036854775808 → i ≤ l.length →
      strconv_ParseUint.l0 (4 * u.length + 1 + k) base false cut 18446744073709551615 false n l (l.length : Int) (i : Int) = some (pv base u n, none)
  | [], i, k, n, hu, _, _, _, _, hil => by
    have hi : l.length ≤ i := by
      rcases Nat.lt_or_ge i l.length with h' | h'
      · rw [List.drop_eq_getElem_cons h'] at hu
        cases hu
      · exact h'
    rw [show 4 * ([] : List Int).length + 1 + k = k + 1 by simp; omega, strconv_ParseUint.l0, if_neg (by omega), if_neg (by simp)]
    rfl
  | c :: u, i, k, n, hu, hd, hn, hc1, hc2, hil => by
    obtain ⟨h1, h2, h3⟩ := rd_drop hu
    obtain ⟨d0, d1, d2⟩ := hd c (by simp)
    have hb0 : (0 : Int) < base := by omega
    have hp : (1 : Int) ≤ base ^ u.length := Int.pow_pos hb0
    have hh0 := hexV_pos c
    rw [List.length_cons, Int.pow_succ] at hc1 hc2
    have hnb : 0 ≤ n * base := Int.mul_nonneg hn (by omega)
    have hexp : (n + 1) * (base ^ u.length * base) = (n * base + base) * base ^ u.length := by
      rw [Int.mul_comm (base ^ u.length) base, ← Int.mul_assoc, Int.add_mul, Int.one_mul]
    rw [hexp] at hc1 hc2
    have hge : n * base + base ≤ (n * base + base) * base ^ u.length := by
      have := Int.mul_le_mul_of_nonneg_left hp (show 0 ≤ n * base + base by omega)
      omega
    have hle : (n * base + hexV c + 1) * base ^ u.length ≤ (n * base + base) * base ^ u.length := Int.mul_le_mul_of_nonneg_right (by omega) (by omega)
    have hnn : n ≤ n * base := by
      have := Int.mul_le_mul_of_nonneg_left (show (1 : Int) ≤ base by omega) hn
      omega
    rw [show 4 * (c :: u).length + 1 + k = (4 * u.length + 1 + k) + 4 by simp; omega]
    rw [round_parse _ base cut n l.length i l (by omega) (by omega) rfl (by rw [h1]; exact d0) (by rw [h1]; exact d1) (by rw [h1]; exact d2) hbs hn (by omega) hcut (by omega) (by omega), h1]
    have := loop_parse base cut l hbs hcut hlen u (i + 1) k (n * base + hexV c) h2 (fun c' hc' => hd c' (by simp [hc'])) (by omega) (by omega) (by omega) (by omega)
    rw [show ((i : Int) + 1) = ((i + 1 : Nat) : Int) by omega, this]
    rfl
theorem one_tab8 : ∀ c : Fin 256, strconv_ParseUint.f 20 ⟨#[UInt8.ofNat c.val]⟩ 8 8 = if hexV (c.val : Nat) < 8 then some (hexV (c.val : Nat), none) else some (0, some 2) := by decide +kernel
theorem one_tab16 : ∀ c : Fin 256, strconv_ParseUint.f 20 ⟨#[UInt8.ofNat c.val]⟩ 16 8 = if hexV (c.val : Nat) < 16 then some (hexV (c.val : Nat), none) else some (0, some 2) := by decide +kernel
theorem toList_ne {s : ByteArray} (h : 1 ≤ s.size) : s.toList ≠ ([] : List UInt8) := by
  intro e
  have := congrArg List.length e
  rw [ByteArray.toList_eq, data_length, List.length_nil] at this
  omega
theorem parse_many (s : ByteArray) (base : Int) (hbs : base = 8 ∨ base = 16) (h1 : 1 ≤ s.size) (h8 : s.size ≤ 8) (hd : ∀ c ∈ bytesOf s, hexV c < base) : strconv_ParseUint.f 100 s base 64 = some (pv base (bytesOf s) 0, none) := by
  have hl : (bytesOf s).length = s.size := bytesOf_length s
  have hb : ∀ c ∈ bytesOf s, 0 ≤ c ∧ c ≤ 255 ∧ hexV c < base := by
    intro c hc
    refine ⟨?_, ?_, hd c hc⟩
    all_goals
      simp only [bytesOf, List.mem_map] at hc
      obtain ⟨x, _, rfl⟩ := hc
      have := x.toNat_lt
      omega
  have hmax : (IntKind.u64.wrap ((shl .u64 1 (IntKind.u64.wrap 64)) - 1)) = 18446744073709551615 := by decide +kernel
  have hw : (0 : Int) ≤ IntKind.u64.wrap 64 := by decide +kernel
  have hconv : gosem_bytesOf.f s = some (bytesOf s) := by unfold gosem_bytesOf.f; rw [if_pos (by omega)]
  have hpw : base ^ (bytesOf s).length ≤ 4294967296 := by
    rw [hl]
    have : s.size = 1 ∨ s.size = 2 ∨ s.size = 3 ∨ s.size = 4 ∨ s.size = 5 ∨ s.size = 6 ∨ s.size = 7 ∨ s.size = 8 := by omega
    rcases hbs with rfl | rfl <;> rcases this with h | h | h | h | h | h | h | h <;> rw [h] <;> decide
  have fin : ∀ cut : Int, 4294967296 ≤ cut → cut ≤ 2305843009213693952 → strconv_ParseUint.j5 97 s base 64 false cut = some (pv base (bytesOf s) 0, none) := by
    intro cut hc1 hc2
    rw [strconv_ParseUint.j5, if_pos hw, hconv, Option.bind_some, hmax]
    have := loop_parse base cut (bytesOf s) hbs hc2 (by omega) (bytesOf s) 0 (95 - 4 * s.size) 0 (by simp) hb (by omega) (by omega) (by omega) (by omega)
    rw [hl, show 4 * s.size + 1 + (95 - 4 * s.size) = 96 by omega] at this
    rw [hl]
    exact this
  unfold strconv_ParseUint.f
  rw [if_neg (toList_ne h1), if_pos (by omega), strconv_ParseUint.j0, if_pos (by simp; omega), strconv_ParseUint.j3, if_neg (by decide), if_neg (by decide), if_neg (by decide), strconv_ParseUint.j4]
  have hz : (base == 0) = false := by rcases hbs with rfl | rfl <;> rfl
  rw [hz]
  rcases hbs with rfl | rfl
  · rw [if_neg (by decide), if_neg (by decide), if_neg (by decide +kernel)]
    exact fin _ (by decide +kernel) (by decide +kernel)
  · rw [if_neg (by decide), if_pos rfl]
    exact fin _ (by decide) (by decide)
theorem parse_none (s : ByteArray) (base bits : Int) (h : s.size = 0) : strconv_ParseUint.f 100 s base bits = some (0, some 2) := by
  unfold strconv_ParseUint.f
  rw [if_pos]
  rw [ByteArray.toList_eq]
  exact List.eq_nil_of_length_eq_zero (by rw [data_length]; exact h)
theorem parse_one (s : ByteArray) (base : Int) (hbs : base = 8 ∨ base = 16) (h : s.size = 1) : strconv_ParseUint.f 20 s base 8 = if hexV (bt s 0) < base then some (hexV (bt s 0), none) else some (0, some 2) := by
  obtain ⟨d⟩ := s
  obtain ⟨d⟩ := d
  have hl : d.length = 1 := h
  obtain ⟨x, rfl⟩ : ∃ x, d = [x] := by
    rcases d with _ | ⟨x, _ | ⟨y, d⟩⟩
    · cases hl
    · exact ⟨x, rfl⟩
    · simp at hl
  have e : bt ⟨#[x]⟩ 0 = (x.toNat : Int) := rfl
  have hx := x.toNat_lt
  rw [e]
  have t8 := one_tab8 ⟨x.toNat, hx⟩
  have t16 := one_tab16 ⟨x.toNat, hx⟩
  simp only [UInt8.ofNat_toNat] at t8 t16
  rcases hbs with rfl | rfl
  · exact t8
  · exact t16
end Go.Proofs.YtaklkcnohbbfoaaDoor.Hand
