/-
  TextSpelt: the plain law.
-/
import Derived.Test.YtaklkcnohbbfoaaDoorPlainSpell
import Derived.Test.YtaklkcnohbbfoaaDoorLSpelt
namespace Go.Proofs.YtaklkcnohbbfoaaDoor.Pure
open Go.RowKit Go.Lib Go.Proofs.YtaklkcnohbbfoaaDoor.PAll Go.Proofs.YtaklkcnohbbfoaaDoorW.PrintWords Go.Proofs.YtaklkcnohbbfoaaDoorW.PrintLast Go.Proofs.YtaklkcnohbbfoaaDoorW.PrintMore Go.Proofs.YtaklkcnohbbfoaaDoor.Hand
set_option linter.unusedVariables false
set_option linter.unusedSimpArgs false

def lowT : ByteArray := ⟨#[48, 49, 50, 51, 52, 53, 54, 55, 56, 57, 97, 98, 99, 100, 101, 102]⟩
def uppT : ByteArray := ⟨#[48, 49, 50, 51, 52, 53, 54, 55, 56, 57, 65, 66, 67, 68, 69, 70]⟩
theorem low_tab : ∀ d : Fin 16, hexV (bt lowT ((d.val : Nat) : Int)) = ((d.val : Nat) : Int) ∧ 0 ≤ bt lowT ((d.val : Nat) : Int) ∧ bt lowT ((d.val : Nat) : Int) ≤ 255 := by decide +kernel
theorem upp_tab : ∀ d : Fin 16, hexV (bt uppT ((d.val : Nat) : Int)) = ((d.val : Nat) : Int) ∧ 0 ≤ bt uppT ((d.val : Nat) : Int) ∧ bt uppT ((d.val : Nat) : Int) ≤ 255 := by decide +kernel
theorem low_at {d : Int} (h0 : 0 ≤ d) (h1 : d < 16) : hexV (bt lowT d) = d ∧ 0 ≤ bt lowT d ∧ bt lowT d ≤ 255 := by
  have := low_tab ⟨d.toNat, by omega⟩
  simp only at this
  rwa [show ((d.toNat : Nat) : Int) = d from Int.toNat_of_nonneg h0] at this
theorem upp_at {d : Int} (h0 : 0 ≤ d) (h1 : d < 16) : hexV (bt uppT d) = d ∧ 0 ≤ bt uppT d ∧ bt uppT d ≤ 255 := by
  have := upp_tab ⟨d.toNat, by omega⟩
  simp only at this
  rwa [show ((d.toNat : Nat) : Int) = d from Int.toNat_of_nonneg h0] at this
theorem bring_some (a : Int) : ∃ v, signetryref00_Bring.f a 4 = some v := by
  unfold signetryref00_Bring.f
  rw [if_neg (by decide)]
  split <;> exact ⟨_, rfl⟩
theorem sp_size {t : ByteArray} {q : Int} {X : List Int} (h : bytesOf t = q :: X) : t.size = X.length + 1 := by rw [← bytesOf_length t, h]; rfl
/-- One round's text, whatever way. -/
theorem spelt_j3 (l how : List Int) (Q x8 : ByteArray) (i : Nat) (v q c : Int) (X : List Int) (plain : Bool) (K : Nat) (x12 x13 : ByteArray)
    (hq : q = 34 ∨ q = 39) (h8 : bytesOf x8 = q :: X) (c0 : 0 ≤ c) (c1 : c ≤ 255) (hX : X.length ≤ 1000) (hi : i < 1000)
    (hpl : plain = true → 32 ≤ c ∧ c ≠ 92 ∧ c ≠ q)
    (h12 : bytesOf x12 = [92, 48 + c / 64, 48 + c / 8 % 8, 48 + c % 8]) (h13 : bytesOf x13 = [bt lowT (c / 16), bt uppT (c % 16)]) :
    ∃ (x8' : ByteArray) (p : List Int), bytesOf x8' = q :: (X ++ p) ∧ Sps q [c] p ∧ signetrylaw02_TextSpelt.j3 (K + 1) l how Q x8 (i : Int) v c x12 x13 plain = signetrylaw02_TextSpelt.l0 K l how Q x8' ((i + 1 : Nat) : Int) := by
  have hz := sp_size h8
  have hw := w_one (a := i) (by omega)
  have z12 : x12.size = 4 := by rw [← bytesOf_length x12, h12]; rfl
  have z13 : x13.size = 2 := by rw [← bytesOf_length x13, h13]; rfl
  obtain ⟨l1, l2, l3⟩ := low_at (d := c / 16) (by omega) (by omega)
  obtain ⟨u1, u2, u3⟩ := upp_at (d := c % 16) (by omega) (by omega)
  have hx : ∀ x : UInt8, (x.toNat : Int) = 120 ∨ (x.toNat : Int) = 88 → bytesOf ((x8 ++ (⟨#[92, x]⟩ : ByteArray)) ++ x13) = q :: (X ++ [92, (x.toNat : Int), bt lowT (c / 16), bt uppT (c % 16)]) ∧ (x8 ++ (⟨#[92, x]⟩ : ByteArray)).size = x8.size + 2 := by
    intro x _
    have e : bytesOf (⟨#[92, x]⟩ : ByteArray) = [92, (x.toNat : Int)] := rfl
    refine ⟨?_, ?_⟩
    · rw [bytesOf_append, bytesOf_append, h8, h13, e]
      simp
    · rw [ByteArray.size_append]
      rfl
  have hoct : signetrylaw02_TextSpelt.l0 K l how Q (x8 ++ x12) ((i + 1 : Nat) : Int) = signetrylaw02_TextSpelt.l0 K l how Q (x8 ++ x12) ((i + 1 : Nat) : Int) ∧ bytesOf (x8 ++ x12) = q :: (X ++ [92, 48 + c / 64, 48 + c / 8 % 8, 48 + c % 8]) := by
    refine ⟨rfl, ?_⟩
    rw [bytesOf_append, h8, h12]
    rfl
  rw [signetrylaw02_TextSpelt.j3, hw]
  by_cases v1 : v = 1
  · rw [if_pos v1, if_pos (by omega), if_pos (by rw [(hx 120 (Or.inl rfl)).2]; omega)]
    exact ⟨_, _, (hx 120 (Or.inl rfl)).1, sps_hex hq c0 c1 (Or.inl rfl) l2 l3 u2 u3 l1 u1, rfl⟩
  · by_cases v2 : v = 2
    · rw [if_neg v1, if_pos v2, if_pos (by omega), if_pos (by rw [(hx 88 (Or.inr rfl)).2]; omega)]
      exact ⟨_, _, (hx 88 (Or.inr rfl)).1, sps_hex hq c0 c1 (Or.inr rfl) l2 l3 u2 u3 l1 u1, rfl⟩
    · rw [if_neg v1, if_neg v2]
      by_cases v3 : v = 3
      · rw [if_pos v3]
        cases plain with
        | false =>
          rw [if_neg Bool.false_ne_true, if_pos (by omega)]
          exact ⟨_, _, hoct.2, sps_oct hq c0 c1, rfl⟩
        | true =>
          obtain ⟨p1, p2, p3⟩ := hpl rfl
          have hz1 : (strOfNums [c]).size = 1 := str_size [c]
          rw [if_pos rfl, Option.bind_some, if_pos (by omega)]
          refine ⟨_, [c], ?_, sps_plain p1 c1 p3 p2, rfl⟩
          rw [bytesOf_append, h8, bytesOf_str (isBy_one c0 c1)]
          rfl
      · rw [if_neg v3, if_pos (by omega)]
        exact ⟨_, _, hoct.2, sps_oct hq c0 c1, rfl⟩
theorem spelt_oct {c : Int} (h0 : 0 ≤ c) (h1 : c ≤ 255) : ([(48 + ((Int.tdiv c 64) % 256)) % 256, 48 + (((Int.tdiv c 8) % 256) % 8), (48 + (Int.tmod c 8)) % 256] : List Int) = [48 + c / 64, 48 + c / 8 % 8, 48 + c % 8] := by
  rw [Int.tdiv_eq_ediv_of_nonneg h0, Int.tdiv_eq_ediv_of_nonneg h0, Int.tmod_eq_emod_of_nonneg h0]
  simp only [List.cons.injEq, and_true, true_and]
  omega
theorem spelt_j2 (l how : List Int) (Q x8 : ByteArray) (i : Nat) (v q c : Int) (X : List Int) (K : Nat)
    (hq : q = 34 ∨ q = 39) (hQ : bytesOf Q = [q]) (h8 : bytesOf x8 = q :: X) (hc : rd l (i : Int) = c) (c0 : 0 ≤ c) (c1 : c ≤ 255) (hX : X.length ≤ 1000) (hi : i < 1000) (hil : i < l.length) :
    ∃ (x8' : ByteArray) (p : List Int), bytesOf x8' = q :: (X ++ p) ∧ Sps q [c] p ∧ signetrylaw02_TextSpelt.j2 (K + 2) l how Q x8 (i : Int) v = signetrylaw02_TextSpelt.l0 K l how Q x8' ((i + 1 : Nat) : Int) := by
  have hd1 : Int.tdiv c 16 % 256 = c / 16 := by rw [Int.tdiv_eq_ediv_of_nonneg c0]; omega
  have hd2 : Int.tmod c 16 = c % 16 := Int.tmod_eq_emod_of_nonneg c0
  have hQ0 : bt Q 0 = q := by
    have := bt_getD Q 0
    rw [hQ] at this
    exact this
  have hQz : Q.size = 1 := by rw [← bytesOf_length Q, hQ]; rfl
  have hO : isBy [48 + c / 64, 48 + c / 8 % 8, 48 + c % 8] = true := isBy_cons (by omega) (by omega) (isBy_cons (by omega) (by omega) (isBy_one (by omega) (by omega)))
  obtain ⟨l1, l2, l3⟩ := low_at (d := c / 16) (by omega) (by omega)
  obtain ⟨u1, u2, u3⟩ := upp_at (d := c % 16) (by omega) (by omega)
  have h12 : bytesOf ((⟨#[92]⟩ : ByteArray) ++ strOfNums [48 + c / 64, 48 + c / 8 % 8, 48 + c % 8]) = [92, 48 + c / 64, 48 + c / 8 % 8, 48 + c % 8] := by
    rw [bytesOf_append, bytesOf_str hO]
    rfl
  have h13 : bytesOf (strOfNums [bt lowT (c / 16), bt uppT (c % 16)]) = [bt lowT (c / 16), bt uppT (c % 16)] := bytesOf_str (isBy_cons l2 l3 (isBy_one u2 u3))
  have hz3 : (strOfNums [48 + c / 64, 48 + c / 8 % 8, 48 + c % 8]).size = 3 := str_size _
  have key := fun plain hpl => spelt_j3 l how Q x8 i v q c X plain K _ _ hq h8 c0 c1 hX hi hpl h12 h13
  rw [signetrylaw02_TextSpelt.j2, if_pos (by omega), if_pos (by omega), hc, spelt_oct c0 c1, Option.bind_some, if_pos (by omega), hd1, hd2, if_pos (by omega), if_pos (by omega), if_pos (by omega), if_pos (by omega), Option.bind_some]
  by_cases h32 : c ≥ 32
  · rw [if_pos h32]
    by_cases h92 : c = 92
    · rw [if_pos h92]
      exact key false (fun h => by cases h)
    · rw [if_neg h92, if_pos (by omega), hQ0]
      exact key (c != q) (fun h => ⟨h32, h92, by simpa using h⟩)
  · rw [if_neg h32]
    exact key false (fun h => by cases h)
theorem spelt_loop (l how : List Int) (Q : ByteArray) (q : Int) (hq : q = 34 ∨ q = 39) (hQ : bytesOf Q = [q]) (hB : isBy l = true) (hl : l.length ≤ 100) : ∀ (u : List Int) (i : Nat) (x8 : ByteArray) (X : List Int), l.drop i = u → i + u.length = l.length → bytesOf x8 = q :: X → Sps q (l.take i) X →
    signetrylaw02_TextSpelt.l0 (3 * u.length + 1401) l how Q x8 (i : Int) = some true
  | [], i, x8, X, hu, hi, h8, hX => by
    have hle := hX.le
    have hge := hX.ge
    have hz := sp_size h8
    have hi2 : i = l.length := by simpa using hi
    rw [hi2, List.take_length] at hX hle hge
    have hQz : Q.size = 1 := by rw [← bytesOf_length Q, hQ]; rfl
    have hb : bytesOf (x8 ++ Q) = q :: X ++ [q] := by rw [bytesOf_append, h8, hQ]
    have hr := uqF_sps hq hX
    have hbz : (x8 ++ Q).size = X.length + 2 := by rw [ByteArray.size_append]; omega
    rw [show 3 * ([] : List Int).length + 1401 = 1400 + 1 from rfl, signetrylaw02_TextSpelt.l0, if_neg (by omega), if_pos (by omega), tUnq (by omega) (by omega), hb, hr, Option.bind_some, tUnq (by omega) (by omega), Option.bind_some, if_pos rfl, eq_refl_f, Option.bind_some, if_pos rfl]
    by_cases h21 : (uqF (bytesOf x8)).2 = 21
    · rw [if_pos h21, works_up (by omega)]
      rfl
    · have h1 : (x8.size : Int) > 1 := by
        rcases Nat.lt_or_ge 1 x8.size with h | h
        · omega
        · exfalso
          apply h21
          unfold uqF
          rw [bytesOf_length, if_pos (by omega)]
      rw [if_neg h21, if_pos h1, works_up (by omega)]
      rfl
  | c :: u, i, x8, X, hu, hi, h8, hX => by
    obtain ⟨h1, h2, h3⟩ := rd_drop hu
    obtain ⟨b0, b1⟩ := isBy_mem (isBy_drop hB i) (show c ∈ l.drop i by rw [hu]; simp)
    have hle := hX.le
    rw [List.length_take] at hle
    have hv : ∃ v, signetrylaw02_TextSpelt.l0 (3 * (c :: u).length + 1401) l how Q x8 (i : Int) = signetrylaw02_TextSpelt.j2 ((3 * u.length + 1401) + 2) l how Q x8 (i : Int) v := by
      rw [List.length_cons, show 3 * (u.length + 1) + 1401 = ((3 * u.length + 1401) + 2) + 1 by omega, signetrylaw02_TextSpelt.l0, if_pos (by omega)]
      by_cases hh : (how.length : Int) > 0
      · obtain ⟨v, hv⟩ := bring_some (rd how (Int.tmod (i : Int) (how.length : Int)))
        have m0 := Int.tmod_nonneg (how.length : Int) (show (0 : Int) ≤ (i : Int) by omega)
        have m1 := Int.tmod_lt_of_pos (i : Int) hh
        rw [if_pos hh, if_neg (by omega), if_pos m0, if_pos m1, hv, Option.bind_some]
        exact ⟨v, rfl⟩
      · rw [if_neg hh]
        exact ⟨0, rfl⟩
    obtain ⟨v, hv⟩ := hv
    obtain ⟨x8', p, h8', hp, hj⟩ := spelt_j2 l how Q x8 i v q c X (3 * u.length + 1401) hq hQ h8 h1 b0 b1 (by omega) (by omega) h3
    rw [hv, hj]
    refine spelt_loop l how Q q hq hQ hB hl u (i + 1) x8' (X ++ p) h2 (by simp at hi; omega) h8' ?_
    have ht : l.take (i + 1) = l.take i ++ [c] := by
      rw [List.take_add_one, List.getElem?_eq_getElem h3]
      rw [List.drop_eq_getElem_cons h3] at hu
      rw [(List.cons.inj hu).1]
      rfl
    rw [ht]
    exact hX.append hp
theorem spelt_at (l0 l1 : List Int) (a2 : Bool) (hb : isBy l0 = true) : ∃ k, signetrylaw02_TextSpelt.f k l0 l1 a2 = some true := by
  obtain ⟨l, hl⟩ : ∃ l, l0.take (min l0.length 100) = l := ⟨_, rfl⟩
  have hn : l.length ≤ 100 := by rw [← hl, List.length_take]; omega
  have hB : isBy l = true := by rw [← hl]; exact isBy_take hb _
  refine ⟨3 * l.length + 1401 + 1, ?_⟩
  unfold signetrylaw02_TextSpelt.f
  have hm : mn (l0.length : Int) 100 = ((min l0.length 100 : Nat) : Int) := mn_nat l0.length 100
  rw [hm, if_pos (by omega), if_pos (by omega), Int.toNat_natCast, hl, signetrylaw02_TextSpelt.j0, signetrylaw02_TextSpelt.j0]
  cases a2
  · rw [if_neg Bool.false_ne_true]
    exact spelt_loop l l1 ⟨#[34]⟩ 34 (Or.inl rfl) rfl hB hn l 0 ⟨#[34]⟩ [] (by simp) (by simp) rfl (Sps.nil 34)
  · rw [if_pos rfl]
    exact spelt_loop l l1 ⟨#[39]⟩ 39 (Or.inr rfl) rfl hB hn l 0 ⟨#[39]⟩ [] (by simp) (by simp) rfl (Sps.nil 39)
theorem TextSpelt : signetrylaw02_TextSpelt.Pure := fun l0 l1 a2 _ _ h _ _ _ => spelt_at l0 l1 a2 (isBy_of h)
end Go.Proofs.YtaklkcnohbbfoaaDoor.Pure
