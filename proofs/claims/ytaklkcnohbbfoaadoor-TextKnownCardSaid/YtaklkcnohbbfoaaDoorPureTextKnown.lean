/-
  TextKnown: the plain law, out of those of Runes, Names and Quotes.
-/
import Derived.Test.YtaklkcnohbbfoaaDoorPureTextRunes
import Derived.Test.YtaklkcnohbbfoaaDoorPureTextNames
import Derived.Test.YtaklkcnohbbfoaaDoorPureTextQuotes
import Derived.Test.YtaklkcnohbbfoaaDoorLKnown
namespace Go.Proofs.YtaklkcnohbbfoaaDoor.Pure
open Go.RowKit Go.Lib Go.Proofs.YtaklkcnohbbfoaaDoor.PAll Go.Proofs.YtaklkcnohbbfoaaDoorW.PrintWords Go.Proofs.YtaklkcnohbbfoaaDoorW.PrintLast Go.Proofs.YtaklkcnohbbfoaaDoorW.PrintMore Go.Proofs.YtaklkcnohbbfoaaDoor.Hand
set_option linter.unusedVariables false
set_option linter.unusedSimpArgs false

theorem names_at (a0 : ByteArray) : signetrylaw02_TextNames.f 1000 a0 = some true := by
  unfold signetrylaw02_TextNames.f
  have hm : mn (a0.size : Int) 300 = ((min a0.size 300 : Nat) : Int) := mn_nat a0.size 300
  rw [hm, if_pos (by omega), if_pos (by omega), Int.toNat_natCast]
  obtain ⟨t, ht⟩ : ∃ t, a0.extract 0 (min a0.size 300) = t := ⟨_, rfl⟩
  have hz : t.size ≤ 300 := by rw [← ht, ByteArray.size_extract]; omega
  rw [ht, tId (by omega) (by omega), rId (by omega) (by omega), Option.bind_some, Option.bind_some, if_pos (by simp), tFull, rFull (by omega) (by omega), Option.bind_some, Option.bind_some, if_pos (by simp)]
  rw [show text_Key.f t = some (strOfNums (ky false (bytesOf t))) by unfold text_Key.f; rw [if_pos (by omega)], rKey (by omega) (by omega), Option.bind_some, Option.bind_some, if_pos rfl, works_up (by omega)]
  rfl
theorem names_up {k : Nat} (h : 1000 ≤ k) (s : ByteArray) : signetrylaw02_TextNames.f k s = some true := leO_le (signetrylaw02_TextNames.mono s) h _ (names_at s)
theorem runes_up {k : Nat} (h : 1000 ≤ k) (l : List Int) (n : Int) (hB : isBy l = true) : signetrylaw02_TextRunes.f k l n = some true := leO_le (signetrylaw02_TextRunes.mono l n) h _ (runes_at l n hB)
theorem quotes_up {k : Nat} (h : 1100 ≤ k) (l : List Int) (s : ByteArray) (hB : isBy l = true) : signetrylaw02_TextQuotes.f k l s = some true := leO_le (signetrylaw02_TextQuotes.mono l s) h _ (quotes_at l s hB)
theorem known_l4 (x : List ByteArray) (hx : x.length ≤ 100) : ∀ (d i k : Nat), i + d = x.length → d + 1200 ≤ k → signetrylaw02_TextKnown.l4 k x (i : Int) = some true := by
  intro d
  induction d with
  | zero =>
    intro i k hi hk
    obtain ⟨q, rfl⟩ : ∃ q, k = q + 1 := ⟨k - 1, by omega⟩
    rw [signetrylaw02_TextKnown.l4, if_neg (by omega), works_up (by omega)]
    rfl
  | succ d ih =>
    intro i k hi hk
    obtain ⟨q, rfl⟩ : ∃ q, k = q + 1 := ⟨k - 1, by omega⟩
    have hw : wrap64 ((i : Int) + 1) = ((i + 1 : Nat) : Int) := by rw [w64 (by omega) (by omega)]; omega
    rw [signetrylaw02_TextKnown.l4, if_pos (by omega), if_pos (by omega), names_up (by omega), Option.bind_some, if_pos rfl, quotes_up (by omega) _ _ rfl, Option.bind_some, if_pos rfl, hw]
    exact ih (i + 1) q (by omega) (by omega)
theorem known_l3 (x : List Int) (hx : x.length ≤ 100) : ∀ (d i k : Nat), i + d = x.length → d + 1300 ≤ k → signetrylaw02_TextKnown.l3 k x (i : Int) = some true := by
  intro d
  induction d with
  | zero =>
    intro i k hi hk
    obtain ⟨q, rfl⟩ : ∃ q, k = q + 1 := ⟨k - 1, by omega⟩
    rw [signetrylaw02_TextKnown.l3, if_neg (by omega)]
    repeat rw [if_pos (by decide +kernel)]
    exact known_l4 _ (by simp) 13 0 q rfl (by omega)
  | succ d ih =>
    intro i k hi hk
    obtain ⟨q, rfl⟩ : ∃ q, k = q + 1 := ⟨k - 1, by omega⟩
    have hw : wrap64 ((i : Int) + 1) = ((i + 1 : Nat) : Int) := by rw [w64 (by omega) (by omega)]; omega
    rw [signetrylaw02_TextKnown.l3, if_pos (by omega), if_pos (by omega), runes_up (by omega) _ _ (by decide), Option.bind_some, if_pos rfl, hw]
    exact ih (i + 1) q (by omega) (by omega)
theorem known_l2 (x1 : Int) (x2 : ByteArray) (h2 : x2.size = 1) (x5 : List ByteArray) (hx : x5.length ≤ 100) (K : Nat) (hK : 1200 ≤ K) (hfin : ∀ k, K ≤ k → signetrylaw02_TextKnown.l0 k (wrap64 (x1 + 1)) = some true) :
    ∀ (d i k : Nat), i + d = x5.length → d + 1 + K ≤ k → signetrylaw02_TextKnown.l2 k x1 x2 x5 (i : Int) = some true := by
  intro d
  induction d with
  | zero =>
    intro i k hi hk
    obtain ⟨q, rfl⟩ : ∃ q, k = q + 1 := ⟨k - 1, by omega⟩
    rw [signetrylaw02_TextKnown.l2, if_neg (by omega)]
    exact hfin q (by omega)
  | succ d ih =>
    intro i k hi hk
    obtain ⟨q, rfl⟩ : ∃ q, k = q + 1 := ⟨k - 1, by omega⟩
    have hw : wrap64 ((i : Int) + 1) = ((i + 1 : Nat) : Int) := by rw [w64 (by omega) (by omega)]; omega
    have hz : ((⟨#[97, 95]⟩ : ByteArray) ++ x2).size = 3 := by rw [ByteArray.size_append, h2]; rfl
    rw [signetrylaw02_TextKnown.l2, if_pos (by omega), if_pos (by omega), quotes_up (by omega) _ _ rfl, Option.bind_some, if_pos rfl, if_pos (by omega), names_up (by omega), Option.bind_some, if_pos rfl, names_up (by omega), Option.bind_some, if_pos rfl, if_pos (by omega), names_up (by omega), Option.bind_some, if_pos rfl, if_pos (by omega), names_up (by omega), Option.bind_some, if_pos rfl, hw]
    exact ih (i + 1) q (by omega) (by omega)
theorem known_l1 (x1 : Int) (x2 : ByteArray) (h2 : x2.size = 1) (x3 : List (List Int)) (hB : ∀ l ∈ x3, isBy l = true) (hx : x3.length ≤ 100) (K : Nat) (hK : 1200 ≤ K) (hfin : ∀ k, K ≤ k → signetrylaw02_TextKnown.l0 k (wrap64 (x1 + 1)) = some true) :
    ∀ (d i k : Nat), i + d = x3.length → d + 20 + K ≤ k → signetrylaw02_TextKnown.l1 k x1 x2 x3 (i : Int) = some true := by
  have hrd : ∀ i : Int, isBy (rd_L2 x3 i) = true := by
    intro i
    unfold rd_L2
    rw [List.getD_eq_getElem?_getD]
    rcases h : x3[i.toNat]? with _ | l
    · rfl
    · exact hB l (List.mem_of_getElem? h)
  have hz : ∀ (b : ByteArray), (b ++ x2).size = b.size + 1 := fun b => by rw [ByteArray.size_append, h2]
  intro d
  induction d with
  | zero =>
    intro i k hi hk
    obtain ⟨q, rfl⟩ : ∃ q, k = q + 1 := ⟨k - 1, by omega⟩
    rw [signetrylaw02_TextKnown.l1, if_neg (by omega)]
    rw [h2, hz, hz, hz, hz, hz, hz]
    repeat rw [if_pos (by decide)]
    exact known_l2 x1 x2 h2 _ (by simp) K hK hfin 9 0 q rfl (by omega)
  | succ d ih =>
    intro i k hi hk
    obtain ⟨q, rfl⟩ : ∃ q, k = q + 1 := ⟨k - 1, by omega⟩
    have hw : wrap64 ((i : Int) + 1) = ((i + 1 : Nat) : Int) := by rw [w64 (by omega) (by omega)]; omega
    have hz2 : ((⟨#[34, 92]⟩ : ByteArray) ++ x2).size = 3 := hz _
    rw [signetrylaw02_TextKnown.l1, if_pos (by omega), if_pos (by omega), runes_up (by omega) _ _ (hrd _), Option.bind_some, if_pos rfl, if_pos (by omega), if_pos (by omega), quotes_up (by omega) _ _ (hrd _), Option.bind_some, if_pos rfl, hw]
    exact ih (i + 1) q (by omega) (by omega)
set_option maxRecDepth 100000 in
theorem known_l0 : ∀ (d x k : Nat), x + d = 256 → 40 * d + 1400 ≤ k → signetrylaw02_TextKnown.l0 k (x : Int) = some true := by
  intro d
  induction d with
  | zero =>
    intro x k hx hk
    obtain ⟨q, rfl⟩ : ∃ q, k = q + 1 := ⟨k - 1, by omega⟩
    rw [signetrylaw02_TextKnown.l0, if_neg (by omega)]
    exact known_l3 _ (by simp) 16 0 q rfl (by omega)
  | succ d ih =>
    intro x k hx hk
    obtain ⟨q, rfl⟩ : ∃ q, k = q + 1 := ⟨k - 1, by omega⟩
    have hw : wrap64 ((x : Int) + 1) = ((x + 1 : Nat) : Int) := by rw [w64 (by omega) (by omega)]; omega
    have hq : 8 + 20 + (40 * d + 1400) ≤ q := by omega
    have hK : 1200 ≤ 40 * d + 1400 := by omega
    have hx2 : x + 1 + d = 256 := by omega
    have hm : (x : Int) % 256 = (x : Int) := by omega
    have b0 : (0 : Int) ≤ (x : Int) := by omega
    have b1 : (x : Int) ≤ 255 := by omega
    rw [signetrylaw02_TextKnown.l0, if_pos (by omega), hm]
    refine known_l1 (x : Int) _ (str_size _) _ ?_ (by simp) (40 * d + 1400) hK (fun k hk => by rw [hw]; exact ih (x + 1) k hx2 hk) 8 0 q (by rfl) hq
    intro l hl
    simp only [List.mem_cons, List.not_mem_nil, or_false] at hl
    rcases hl with rfl | rfl | rfl | rfl | rfl | rfl | rfl | rfl <;> simp [isBy, b0, b1]
theorem TextKnown : signetrylaw02_TextKnown.Pure := ⟨40 * 256 + 1400, known_l0 256 0 _ (by omega) (by omega)⟩
end Go.Proofs.YtaklkcnohbbfoaaDoor.Pure
