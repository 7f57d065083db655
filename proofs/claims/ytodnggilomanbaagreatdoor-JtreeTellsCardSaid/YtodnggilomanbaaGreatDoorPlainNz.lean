/-
  Runes written and read again: no walk. What a string's inside spells, piece by piece: no walk. A node's text, with blanks between its parts, is read as the node: no walk.
-/
import Derived.Test.YtodnggilomanbaaGreatDoorHandParse
import Derived.Lib.ValidLaws
import Derived.Test.YtodnggilomanbaaGreatDoorAp
import Derived.Test.YtodnggilomanbaaGreatDoorHandWri
import Derived.Test.YtodnggilomanbaaGreatDoorGC
import Derived.Maps.Views
section
namespace Go.Proofs.YtodnggilomanbaaGreatDoor.Pure
open Go.RowKit Go.Lib Go.Proofs.YtodnggilomanbaaGreatDoor.PAll Go.Proofs.YtodnggilomanbaaGreatDoorW.PrintWords Go.Proofs.YtodnggilomanbaaGreatDoorW.PrintLast Go.Proofs.YtodnggilomanbaaGreatDoorW.PrintMore Go.Proofs.YtodnggilomanbaaGreatDoor.Hand
set_option linter.unusedVariables false
set_option linter.unusedSimpArgs false

theorem dX (a b : List Int) : u8s (a ++ b) = u8s a ++ u8s b := by simp [u8s]
theorem isRn_of {r : Int} (h : isRn r = true) : (0 ≤ r ∧ r < 55296) ∨ (57343 < r ∧ r ≤ 1114111) := by
  simpa [isRn] using h
theorem toNat_of {x : Int} (h0 : 0 ≤ x) (h1 : x < 256) : (UInt8.ofNat x.toNat).toNat = x.toNat := by
  rw [UInt8.toNat_ofNat']
  omega
theorem dec_enc {r : Int} (h : isRn r = true) (rest : List UInt8) : decodeL (u8s (encodeRuneZ r) ++ rest) = (r.toNat, (encodeRuneZ r).length) := by
 have h := isRn_of h
 rw [decodeL_N]
 by_cases c1 : r ≤ 127
 case pos =>
  rw [encodeRuneZ_one (by omega) c1]
  simp only [u8s, List.map_cons, List.map_nil, List.cons_append, List.nil_append, List.getD_cons_zero, toNat_of (x := r) (by omega) (by omega)]
  unfold decodeN
  rw [if_pos (by omega)]
  rfl
 by_cases c2 : r ≤ 2047
 case pos =>
  rw [encodeRuneZ_two (by omega) c2]
  simp only [u8s, List.map_cons, List.map_nil, List.cons_append, List.nil_append, List.getD_cons_zero, List.getD_cons_succ, List.length_cons, toNat_of (x := 192 + r / 64) (by omega) (by omega), toNat_of (x := 128 + r % 64) (by omega) (by omega)]
  unfold decodeN
  rw [if_neg (by omega), if_pos ⟨by omega, by omega, by omega⟩, if_pos (by omega)]
  simp only [Prod.mk.injEq]
  exact ⟨by omega, by simp⟩
 by_cases c3 : r ≤ 65535
 case pos =>
  rw [encodeRuneZ_three (by omega)]
  simp only [u8s, List.map_cons, List.map_nil, List.cons_append, List.nil_append, List.getD_cons_zero, List.getD_cons_succ, List.length_cons, toNat_of (x := 224 + r / 4096) (by omega) (by omega), toNat_of (x := 128 + r / 64 % 64) (by omega) (by omega), toNat_of (x := 128 + r % 64) (by omega) (by omega)]
  unfold decodeN
  rw [if_neg (by omega), if_neg (by omega), if_pos ⟨by omega, ⟨by omega, by omega⟩, by omega, by omega⟩]
  have e : (224 + r / 4096).toNat % 16 * 4096 + (128 + r / 64 % 64).toNat % 64 * 64 + (128 + r % 64).toNat % 64 = r.toNat := by omega
  rw [e, if_pos ⟨by omega, by omega⟩]
  rfl
 rw [encodeRuneZ_four (by omega) (by omega)]
 simp only [u8s, List.map_cons, List.map_nil, List.cons_append, List.nil_append, List.getD_cons_zero, List.getD_cons_succ, List.length_cons, toNat_of (x := 240 + r / 262144) (by omega) (by omega), toNat_of (x := 128 + r / 4096 % 64) (by omega) (by omega), toNat_of (x := 128 + r / 64 % 64) (by omega) (by omega), toNat_of (x := 128 + r % 64) (by omega) (by omega)]
 unfold decodeN
 rw [if_neg (by omega), if_neg (by omega), if_neg (by omega), if_pos ⟨by omega, ⟨by omega, by omega⟩, ⟨by omega, by omega⟩, by omega, by omega⟩]
 have e : (240 + r / 262144).toNat % 8 * 262144 + (128 + r / 4096 % 64).toNat % 64 * 4096 + (128 + r / 64 % 64).toNat % 64 * 64 + (128 + r % 64).toNat % 64 = r.toNat := by omega
 rw [e, if_pos ⟨by omega, by omega⟩]
 rfl
theorem u8s_len (l : List Int) : (u8s l).length = l.length := by simp [u8s]
theorem gR {r : Int} (h : isRn r = true) : ¬ (r.toNat = 65533 ∧ (encodeRuneZ r).length = 1) := by
  rintro ⟨h1, h2⟩
  obtain rfl : r = 65533 := by omega
  rw [encodeRuneZ_three (by omega)] at h2
  simp at h2
theorem enc_drop (r : Int) (rest : List UInt8) : (u8s (encodeRuneZ r) ++ rest).drop (encodeRuneZ r).length = rest := by
  rw [List.drop_append, u8s_len]
  simp [List.drop_of_length_le, u8s_len]
def encs8 (rs : List Int) : List Int := rs.flatMap encodeRuneZ
end Go.Proofs.YtodnggilomanbaaGreatDoor.Pure
end
section
namespace Go.Proofs.YtodnggilomanbaaGreatDoor.Pure
open Go.RowKit Go.Lib Go.Proofs.YtodnggilomanbaaGreatDoor.PAll Go.Proofs.YtodnggilomanbaaGreatDoorW.PrintWords Go.Proofs.YtodnggilomanbaaGreatDoorW.PrintLast Go.Proofs.YtodnggilomanbaaGreatDoorW.PrintMore Go.Proofs.YtodnggilomanbaaGreatDoor.Hand
set_option linter.unusedVariables false
set_option linter.unusedSimpArgs false

/-- One step of what is spelt: p spells o, whatever follows. -/
structure Pc (p o : List Int) : Prop where
  ne : p ≠ []
  sc : ∀ rest, scanE (p ++ rest) = p.length + scanE rest
  de : ∀ (n : Nat) (t : ByteArray) (rest out : List Int), bytesOf t = p ++ rest → ∃ u : ByteArray, bytesOf u = rest ∧ decS (n + 1) t out = decS n u (out ++ o)
def dig (c : Int) : Bool := isHx (lowc c)
/-- A spelling: pieces, one behind the other. -/
inductive Sps : List Int → List Int → Prop where
  | nil : Sps [] []
  | cons {p o P O : List Int} : Pc p o → Sps P O → Sps (p ++ P) (o ++ O)
theorem Sps.one {p o : List Int} (h : Pc p o) : Sps p o := by
  have := Sps.cons h .nil
  simpa using this
end Go.Proofs.YtodnggilomanbaaGreatDoor.Pure
end
section
namespace Go.Proofs.YtodnggilomanbaaGreatDoor.Pure
open Go.RowKit Go.Lib Go.Proofs.YtodnggilomanbaaGreatDoor.PAll Go.Proofs.YtodnggilomanbaaGreatDoorW.PrintWords Go.Proofs.YtodnggilomanbaaGreatDoorW.PrintLast Go.Proofs.YtodnggilomanbaaGreatDoorW.PrintMore Go.Proofs.YtodnggilomanbaaGreatDoor.Hand
set_option linter.unusedVariables false
set_option linter.unusedSimpArgs false

/-- What follows is no blank. -/
def NB (r : List Int) : Prop := ∀ c, r.head? = some c → isBl c = false
def ND (r : List Int) : Prop := ∀ c, r.head? = some c → isDgt c = false
def AB (b : List Int) : Prop := ∀ c ∈ b, isBl c = true
theorem AB.nil : AB [] := fun c hc => by cases hc
/-! ### strings -/
theorem hex_dig : ∀ i : Fin 16, dig (hexC (i.val : Int)) = true ∧ hx1 (lowc (hexC (i.val : Int))) = (i.val : Int) := p103z
theorem hex_at {d : Int} (h0 : 0 ≤ d) (h1 : d < 16) : dig (hexC d) = true ∧ hx1 (lowc (hexC d)) = d := by
  have := hex_dig ⟨d.toNat, by omega⟩
  rwa [show (((⟨d.toNat, by omega⟩ : Fin 16).val : Nat) : Int) = d from Int.toNat_of_nonneg h0] at this
/-! ### keys that differ -/
theorem key_lit (x : ByteArray) : WideAt.IsKeyLit (keyL x) := trivial
theorem keyL_inj {x y : ByteArray} (h : keyL x = keyL y) : x = y := by
  have : x.data.toList = y.data.toList := by simpa [keyL] using h
  exact ByteArray.ext (Array.toList_inj.1 this)
theorem onceD_set (ks : List ByteArray) : onceD ks = Maps.setOf (.lit (.int .i64 0)) (ks.map keyL) := by
  unfold onceD Maps.setOf
  rw [List.foldl_map]
theorem once_tidy (ks : List ByteArray) : Maps.Tidy (onceD ks) := by
  rw [onceD_set]
  exact Maps.tidy_setOf _ _ (fun x hx => by obtain ⟨y, _, rfl⟩ := List.mem_map.1 hx; exact key_lit y)
theorem once_has (ks : List ByteArray) (x : ByteArray) : Maps.has (onceD ks) (keyL x) = true ↔ x ∈ ks := by
 rw [onceD_set, Maps.has_setOf _ _ _ (fun x hx => by obtain ⟨y, _, rfl⟩ := List.mem_map.1 hx; exact key_lit y)]
 simp only [List.any_eq_true, List.mem_map]
 constructor
 ·rintro ⟨_, ⟨y, hy, rfl⟩, hk⟩
  rw [← keyL_inj (WideAt.sameKey_eq hk)]
  exact hy
 ·intro h
  exact ⟨_, ⟨x, h, rfl⟩, WideAt.sameKey_self (key_lit x)⟩
theorem dsz_old {ks : List ByteArray} {x : ByteArray} (h : x ∈ ks) : dsz (ks ++ [x]) = dsz ks := by
  unfold dsz
  rw [dW, Maps.size_put (once_tidy ks), if_pos ((once_has ks x).2 h)]
theorem dsz_new {ks : List ByteArray} {x : ByteArray} (h : x ∉ ks) : dsz (ks ++ [x]) = dsz ks + 1 := by
  unfold dsz
  rw [dW, Maps.size_put (once_tidy ks), if_neg (fun e => h ((once_has ks x).1 e))]
theorem dsz_le : ∀ (n : Nat) (ks : List ByteArray), ks.length = n → dsz ks ≤ ks.length := by
 intro n
 induction n with
 | zero =>
  intro ks h
  rw [List.length_eq_zero_iff.1 h]
  exact Nat.le_refl _
 | succ n ih =>
  intro ks h
  obtain ⟨x, hx⟩ : ∃ x, ks = ks.dropLast ++ [x] := ⟨ks.getLast (by rintro rfl; cases h), (List.dropLast_concat_getLast _).symm⟩
  have hl : ks.dropLast.length = n := by rw [List.length_dropLast]; omega
  have := ih ks.dropLast hl
  rw [hx, List.length_append, List.length_singleton]
  by_cases hm : x ∈ ks.dropLast
  case neg =>
   rw [dsz_new hm]; omega
  rw [dsz_old hm]; omega
theorem dsz_iff : ∀ (n : Nat) (ks : List ByteArray), ks.length = n → (dsz ks = ks.length ↔ ks.Nodup) := by
 intro n
 induction n with
 | zero =>
  intro ks h
  rw [List.length_eq_zero_iff.1 h]
  exact ⟨fun _ => List.nodup_nil, fun _ => rfl⟩
 | succ n ih =>
  intro ks h
  obtain ⟨x, hx⟩ : ∃ x, ks = ks.dropLast ++ [x] := ⟨ks.getLast (by rintro rfl; cases h), (List.dropLast_concat_getLast _).symm⟩
  have hl : ks.dropLast.length = n := by rw [List.length_dropLast]; omega
  have h1 := ih ks.dropLast hl
  have h2 := dsz_le n ks.dropLast hl
  rw [hx, List.length_append, List.length_singleton, List.nodup_append]
  by_cases hm : x ∈ ks.dropLast
  case pos =>
   rw [dsz_old hm]
   constructor
   ·intro e; omega
   ·rintro ⟨_, _, h3⟩
    exact absurd rfl (h3 x hm x (by simp))
  rw [dsz_new hm]
  constructor
  ·intro e
   exact ⟨h1.1 (by omega), by simp, fun a ha b hb => by simp at hb; subst hb; rintro rfl; exact hm ha⟩
  ·rintro ⟨h3, _, _⟩
   have := h1.2 h3
   omega
theorem dsz_nodup {ks : List ByteArray} : dsz ks = ks.length ↔ ks.Nodup := dsz_iff _ ks rfl
structure Begins (l : List Int) (c : Int) (r : List Int) : Prop where
  eq : l = c :: r
  way : isWay c = true
  nb : isBl c = false
  n93 : c ≠ 93
theorem Begins.NB {l : List Int} {c : Int} {r t : List Int} (h : Begins l c r) : NB (l ++ t) := by
  intro d hd
  rw [h.eq] at hd
  cases hd
  exact h.nb
theorem AB.nd {b r : List Int} (h : AB b) (hr : ND r) : ND (b ++ r) := by
 intro c hc
 rcases b with _ | ⟨d, b⟩
 ·exact hr c hc
 ·cases hc
  have h1 := h c (by simp)
  have h2 : c = 32 ∨ c = 9 ∨ c = 10 ∨ c = 13 := by
   unfold isBl at h1
   simp only [Bool.or_eq_true, decide_eq_true_eq] at h1
   omega
  unfold isDgt
  rcases h2 with rfl | rfl | rfl | rfl <;> decide
theorem NB.one {c : Int} {r : List Int} (h : isBl c = false) : NB (c :: r) := by intro d hd; cases hd; exact h
theorem ND.one {c : Int} {r : List Int} (h : isDgt c = false) : ND (c :: r) := by intro d hd; cases hd; exact h
end Go.Proofs.YtodnggilomanbaaGreatDoor.Pure
end
