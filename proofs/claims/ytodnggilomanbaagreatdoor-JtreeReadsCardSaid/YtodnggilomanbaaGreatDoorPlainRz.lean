/-
  Runes written and read again: no walk. What a string's inside spells, piece by piece: no walk. The reference's reader: blanks, now, word, number, as the specs: no walk. The reference's runes: Rune, Runes, Valid, as the specs: no walk. (Turned from the text chapter's plain texts.) The reference's end, half and escape, as the specs: no walk. The reference's escape, as the spec: no walk. The reference's str, as the spec: no walk.
-/
import Derived.Test.YtodnggilomanbaaGreatDoorHandParse
import Derived.Lib.ValidLaws
import Derived.Test.YtodnggilomanbaaGreatDoorAp
import Derived.Test.YtodnggilomanbaaGreatDoorGRe
import Derived.Test.YtodnggilomanbaaGreatDoorGRv
import Derived.Test.YtodnggilomanbaaGreatDoorGRx
import Derived.Test.YtodnggilomanbaaGreatDoorGRs
section
namespace Go.Proofs.YtodnggilomanbaaGreatDoor.Pure
open Go.RowKit Go.Lib Go.Proofs.YtodnggilomanbaaGreatDoor.PAll Go.Proofs.YtodnggilomanbaaGreatDoorW.PrintWords Go.Proofs.YtodnggilomanbaaGreatDoorW.PrintLast Go.Proofs.YtodnggilomanbaaGreatDoorW.PrintMore Go.Proofs.YtodnggilomanbaaGreatDoor.Hand
set_option linter.unusedVariables false
set_option linter.unusedSimpArgs false

theorem u8s_append (a b : List Int) : u8s (a ++ b) = u8s a ++ u8s b := by simp [u8s]
theorem isRn_of {r : Int} (h : isRn r = true) : (0 ≤ r ∧ r < 55296) ∨ (57343 < r ∧ r ≤ 1114111) := by
  simpa [isRn] using h
theorem toNat_of {x : Int} (h0 : 0 ≤ x) (h1 : x < 256) : (UInt8.ofNat x.toNat).toNat = x.toNat := by
  rw [UInt8.toNat_ofNat']
  omega
theorem dec_enc {r : Int} (h : isRn r = true) (rest : List UInt8) : decodeL (u8s (encodeRuneZ r) ++ rest) = (r.toNat, (encodeRuneZ r).length) := by
 have h := isRn_of h
 rw [decodeL_N]
 by_cases c1 : r ≤ 127
 case pos =>
  rw [encodeRuneZ_one (by omega) c1]
  simp only [u8s, List.map_cons, List.map_nil, List.cons_append, List.nil_append, List.getD_cons_zero, toNat_of (x := r) (by omega) (by omega)]
  unfold decodeN
  rw [if_pos (by omega)]
  rfl
 by_cases c2 : r ≤ 2047
 case pos =>
  rw [encodeRuneZ_two (by omega) c2]
  simp only [u8s, List.map_cons, List.map_nil, List.cons_append, List.nil_append, List.getD_cons_zero, List.getD_cons_succ, List.length_cons, toNat_of (x := 192 + r / 64) (by omega) (by omega), toNat_of (x := 128 + r % 64) (by omega) (by omega)]
  unfold decodeN
  rw [if_neg (by omega), if_pos ⟨by omega, by omega, by omega⟩, if_pos (by omega)]
  simp only [Prod.mk.injEq]
  exact ⟨by omega, by simp⟩
 by_cases c3 : r ≤ 65535
 case pos =>
  rw [encodeRuneZ_three (by omega)]
  simp only [u8s, List.map_cons, List.map_nil, List.cons_append, List.nil_append, List.getD_cons_zero, List.getD_cons_succ, List.length_cons, toNat_of (x := 224 + r / 4096) (by omega) (by omega), toNat_of (x := 128 + r / 64 % 64) (by omega) (by omega), toNat_of (x := 128 + r % 64) (by omega) (by omega)]
  unfold decodeN
  rw [if_neg (by omega), if_neg (by omega), if_pos ⟨by omega, ⟨by omega, by omega⟩, by omega, by omega⟩]
  have e : (224 + r / 4096).toNat % 16 * 4096 + (128 + r / 64 % 64).toNat % 64 * 64 + (128 + r % 64).toNat % 64 = r.toNat := by omega
  rw [e, if_pos ⟨by omega, by omega⟩]
  rfl
 rw [encodeRuneZ_four (by omega) (by omega)]
 simp only [u8s, List.map_cons, List.map_nil, List.cons_append, List.nil_append, List.getD_cons_zero, List.getD_cons_succ, List.length_cons, toNat_of (x := 240 + r / 262144) (by omega) (by omega), toNat_of (x := 128 + r / 4096 % 64) (by omega) (by omega), toNat_of (x := 128 + r / 64 % 64) (by omega) (by omega), toNat_of (x := 128 + r % 64) (by omega) (by omega)]
 unfold decodeN
 rw [if_neg (by omega), if_neg (by omega), if_neg (by omega), if_pos ⟨by omega, ⟨by omega, by omega⟩, ⟨by omega, by omega⟩, by omega, by omega⟩]
 have e : (240 + r / 262144).toNat % 8 * 262144 + (128 + r / 4096 % 64).toNat % 64 * 4096 + (128 + r / 64 % 64).toNat % 64 * 64 + (128 + r % 64).toNat % 64 = r.toNat := by omega
 rw [e, if_pos ⟨by omega, by omega⟩]
 rfl
theorem u8s_len (l : List Int) : (u8s l).length = l.length := by simp [u8s]
theorem enc_not_bad {r : Int} (h : isRn r = true) : ¬ (r.toNat = 65533 ∧ (encodeRuneZ r).length = 1) := by
  rintro ⟨h1, h2⟩
  obtain rfl : r = 65533 := by omega
  rw [encodeRuneZ_three (by omega)] at h2
  simp at h2
theorem enc_ne {r : Int} (rest : List UInt8) : u8s (encodeRuneZ r) ++ rest ≠ [] := by
  intro e
  have h1 := congrArg List.length e
  have h2 := (encodeRuneZ_length r).1
  rw [List.length_append, u8s_len, List.length_nil] at h1
  omega
theorem enc_drop (r : Int) (rest : List UInt8) : (u8s (encodeRuneZ r) ++ rest).drop (encodeRuneZ r).length = rest := by
  rw [List.drop_append, u8s_len]
  simp [List.drop_of_length_le, u8s_len]
def encs8 (rs : List Int) : List Int := rs.flatMap encodeRuneZ
theorem encs8_cons (r : Int) (rs : List Int) : u8s (encs8 (r :: rs)) = u8s (encodeRuneZ r) ++ u8s (encs8 rs) := by rw [encs8, List.flatMap_cons, u8s_append]; rfl
theorem valid_enc : ∀ rs : List Int, (∀ r ∈ rs, isRn r = true) → validD (u8s (encs8 rs)) = true
  | [], _ => by simp [encs8, u8s, validD_nil]
  | r :: rs, h => by
    have hr := h r (by simp)
    rw [encs8_cons, validD_step _ (enc_ne _), dec_enc hr, if_neg (enc_not_bad hr), enc_drop]
    exact valid_enc rs (fun x hx => h x (by simp [hx]))
theorem encs8_len : ∀ rs : List Int, rs.length ≤ (encs8 rs).length ∧ (encs8 rs).length ≤ 4 * rs.length
  | [] => by simp [encs8]
  | r :: rs => by
    have := encs8_len rs
    have h2 := encodeRuneZ_length r
    have e : encs8 (r :: rs) = encodeRuneZ r ++ encs8 rs := rfl
    rw [e, List.length_append, List.length_cons]
    omega
theorem encs8_isBy : ∀ rs : List Int, isBy (encs8 rs) = true := by
  intro rs
  refine List.all_eq_true.2 fun x hx => ?_
  simp only [encs8, List.mem_flatMap] at hx
  obtain ⟨r, _, hx⟩ := hx
  have := encodeRuneZ_byte r x hx
  simp
  omega
end Go.Proofs.YtodnggilomanbaaGreatDoor.Pure
end
section
namespace Go.Proofs.YtodnggilomanbaaGreatDoor.Pure
open Go.RowKit Go.Lib Go.Proofs.YtodnggilomanbaaGreatDoor.PAll Go.Proofs.YtodnggilomanbaaGreatDoorW.PrintWords Go.Proofs.YtodnggilomanbaaGreatDoorW.PrintLast Go.Proofs.YtodnggilomanbaaGreatDoorW.PrintMore Go.Proofs.YtodnggilomanbaaGreatDoor.Hand
set_option linter.unusedVariables false
set_option linter.unusedSimpArgs false

theorem leO_le {α : Type} {f : Nat → Option α} (m : ∀ k, LeO (f k) (f (k + 1))) {a b : Nat} (h : a ≤ b) : LeO (f a) (f b) := by
  induction h with
  | refl => exact LeO.refl _
  | step _ ih => exact LeO.trans ih (m _)
theorem bytesOf_sl (s : ByteArray) (a b : Nat) : bytesOf (s.extract a b) = ((bytesOf s).take b).drop a := by
  simp [bytesOf, ByteArray.data_extract, List.map_take, List.map_drop, Array.toList_extract, List.extract, List.drop_take]
theorem bt_head {t : ByteArray} {c : Int} {r : List Int} (h : bytesOf t = c :: r) : bt t 0 = c := by
  have h1 : 0 < t.size := by rw [← bytesOf_length, h]; simp
  have h2 := drop_bt t (y := 0) (by omega) (by omega)
  simp only [Int.toNat_zero, List.drop_zero] at h2
  rw [h] at h2
  exact (List.cons.inj h2).1.symm
theorem size_of {t : ByteArray} {l : List Int} (h : bytesOf t = l) : t.size = l.length := by rw [← h, bytesOf_length]
theorem ext1 {t : ByteArray} {c : Int} {r : List Int} (h : bytesOf t = c :: r) : bytesOf (t.extract 1 t.size) = r := by rw [bytes_ext, h]; rfl
/-- One step of what is spelt: p spells o, whatever follows. -/
structure Pc (p o : List Int) : Prop where
  ne : p ≠ []
  sc : ∀ rest, scanE (p ++ rest) = p.length + scanE rest
  de : ∀ (n : Nat) (t : ByteArray) (rest out : List Int), bytesOf t = p ++ rest → ∃ u : ByteArray, bytesOf u = rest ∧ decS (n + 1) t out = decS n u (out ++ o)
theorem pc_raw {c : Int} (h32 : 32 ≤ c) (h34 : c ≠ 34) (h92 : c ≠ 92) : Pc [c] [c] := by
 refine ⟨by simp, fun rest => ?_, fun n t rest out h => ⟨t.extract 1 t.size, ext1 h, ?_⟩⟩
 ·rw [List.singleton_append, scanE_at, if_neg h34, if_neg h92]
  rfl
 ·have hs := size_of h
  rw [List.length_append, List.length_singleton] at hs
  rw [decS, if_neg (by omega), bt_head h, if_neg (by omega), if_pos h92]
theorem pc_esc {e : Int} (he : escH e = true) : Pc [92, e] [escV e] := by
 refine ⟨by simp, fun rest => ?_, fun n t rest out h => ?_⟩
 ·show scanE (92 :: e :: rest) = _
  rw [scanE_at, if_neg (by decide), if_pos rfl]
  rfl
 ·have hs := size_of h
  rw [List.length_append] at hs
  simp only [List.length_cons, List.length_nil] at hs
  have h1 := ext1 (t := t) (c := 92) (r := e :: rest) h
  refine ⟨(t.extract 1 t.size).extract 1 (t.extract 1 t.size).size, ext1 h1, ?_⟩
  have hsp : spell (t.extract 1 t.size) = ([escV e], (t.extract 1 t.size).extract 1 (t.extract 1 t.size).size, true) := by
   unfold spell
   rw [bt_head h1, if_pos he]
  rw [decS, if_neg (by omega), bt_head (c := 92) (r := e :: rest) h, if_neg (by decide), if_neg (by decide), if_neg (by omega), hsp, if_pos rfl]
def dig (c : Int) : Bool := isHx (lowc c)
theorem dig_at {c : Int} (h : dig c = true) : c ≠ 34 ∧ c ≠ 92 := by
  unfold dig isHx lowc at h
  constructor <;> rintro rfl <;> simp at h
theorem scan_dig (c : Int) (r : List Int) (h : dig c = true) : scanE (c :: r) = 1 + scanE r := by
  have := dig_at h
  rw [scanE_at, if_neg this.1, if_neg this.2]
theorem esc117 : escH 117 = false := by decide
theorem half_at {t : ByteArray} {a b c d : Int} {r : List Int} (h : bytesOf t = a :: b :: c :: d :: r) : halfF t = hv4 [a, b, c, d] := by
  have hs := size_of h
  simp only [List.length_cons] at hs
  unfold halfF
  rw [if_neg (by omega), h]
  rfl
theorem pc_u {a b c d n : Int} (hd : dig a = true ∧ dig b = true ∧ dig c = true ∧ dig d = true) (hn : hv4 [a, b, c, d] = n) (hr : isRn n = true) : Pc [92, 117, a, b, c, d] (encodeRuneZ n) := by
 refine ⟨by simp, fun rest => ?_, fun n' t rest out h => ?_⟩
 ·show scanE (92 :: 117 :: a :: b :: c :: d :: rest) = _
  rw [scanE_at, if_neg (by decide), if_pos rfl]
  show 2 + scanE (a :: b :: c :: d :: rest) = _
  rw [scan_dig _ _ hd.1, scan_dig _ _ hd.2.1, scan_dig _ _ hd.2.2.1, scan_dig _ _ hd.2.2.2]
  simp only [List.length_cons, List.length_nil]
  omega
 ·have hs := size_of h
  rw [List.length_append] at hs
  simp only [List.length_cons, List.length_nil] at hs
  have h1 := ext1 (t := t) (c := 92) (r := 117 :: a :: b :: c :: d :: rest) h
  have h2 := ext1 h1
  have h3 : bytesOf ((t.extract 1 t.size).extract 5 (t.extract 1 t.size).size) = rest := by rw [bytes_ext, h1]; rfl
  have hr2 := isRn_of hr
  have hh := (half_at h2).trans hn
  have hp : pairF ((t.extract 1 t.size).extract 5 (t.extract 1 t.size).size) n = (n, (t.extract 1 t.size).extract 5 (t.extract 1 t.size).size) := by
   unfold pairF
   rw [if_neg]
   rintro ⟨_, q1, q2, _⟩
   omega
  have hsp : spell (t.extract 1 t.size) = (encodeRuneZ n, (t.extract 1 t.size).extract 5 (t.extract 1 t.size).size, true) := by
   unfold spell
   rw [bt_head h1, esc117, if_neg (by decide), if_pos ⟨rfl, by rw [hh]; omega⟩, hh, hp]
   unfold runeB
   rw [if_pos hr]
   rfl
  refine ⟨_, h3, ?_⟩
  rw [decS, if_neg (by omega), bt_head (c := 92) (r := 117 :: a :: b :: c :: d :: rest) h, if_neg (by decide), if_neg (by decide), if_neg (by omega), hsp, if_pos rfl]
theorem isU_at {t : ByteArray} {r : List Int} (h : bytesOf t = 92 :: 117 :: r) : isU t = true := by
 have h1 : t.data.toList.map (fun x => (x.toNat : Int)) = 92 :: 117 :: r := h
 rcases hl : t.data.toList with _ | ⟨x, _ | ⟨y, l⟩⟩
 ·rw [hl] at h1; cases h1
 ·rw [hl] at h1; simp at h1
 ·rw [hl] at h1
  simp only [List.map_cons, List.cons.injEq] at h1
  have hx : x = 92 := UInt8.toNat_inj.1 (by have := h1.1; show x.toNat = 92; omega)
  have hy : y = 117 := UInt8.toNat_inj.1 (by have := h1.2.1; show y.toNat = 117; omega)
  unfold isU
  rw [hl, hx, hy]
  simp [Lib.hasPrefix]
theorem pc_pair {a b c d a' b' c' d' n m r : Int} (hd : dig a = true ∧ dig b = true ∧ dig c = true ∧ dig d = true) (hd' : dig a' = true ∧ dig b' = true ∧ dig c' = true ∧ dig d' = true) (hn : hv4 [a, b, c, d] = n) (hm : hv4 [a', b', c', d'] = m)
 (n0 : 55296 ≤ n) (n1 : n < 56320) (m0 : 56320 ≤ m) (m1 : m ≤ 57343) (hr : r = 65536 + (n - 55296) * 1024 + m - 56320) : Pc ([92, 117, a, b, c, d] ++ [92, 117, a', b', c', d']) (encodeRuneZ r) := by
 refine ⟨by simp, fun rest => ?_, fun n' t rest out h => ?_⟩
 ·show scanE (92 :: 117 :: a :: b :: c :: d :: 92 :: 117 :: a' :: b' :: c' :: d' :: rest) = _
  rw [scanE_at, if_neg (by decide), if_pos rfl]
  show 2 + scanE (a :: b :: c :: d :: 92 :: 117 :: a' :: b' :: c' :: d' :: rest) = _
  rw [scan_dig _ _ hd.1, scan_dig _ _ hd.2.1, scan_dig _ _ hd.2.2.1, scan_dig _ _ hd.2.2.2, scanE_at, if_neg (by decide), if_pos rfl]
  show 2 + (1 + (1 + (1 + (1 + (2 + scanE (a' :: b' :: c' :: d' :: rest)))))) = _
  rw [scan_dig _ _ hd'.1, scan_dig _ _ hd'.2.1, scan_dig _ _ hd'.2.2.1, scan_dig _ _ hd'.2.2.2]
  simp only [List.length_append, List.length_cons, List.length_nil]
  omega
 ·have hs := size_of h
  rw [List.length_append, List.length_append] at hs
  simp only [List.length_cons, List.length_nil] at hs
  have h1 := ext1 (t := t) (c := 92) (r := 117 :: a :: b :: c :: d :: 92 :: 117 :: a' :: b' :: c' :: d' :: rest) h
  have h2 := ext1 h1
  have h3 : bytesOf ((t.extract 1 t.size).extract 5 (t.extract 1 t.size).size) = 92 :: 117 :: a' :: b' :: c' :: d' :: rest := by rw [bytes_ext, h1]; rfl
  obtain ⟨v, hv⟩ : ∃ v, (t.extract 1 t.size).extract 5 (t.extract 1 t.size).size = v := ⟨_, rfl⟩
  rw [hv] at h3
  have h4 : bytesOf (v.extract 2 v.size) = a' :: b' :: c' :: d' :: rest := by rw [bytes_ext, h3]; rfl
  have h6 : bytesOf (v.extract 6 v.size) = rest := by rw [bytes_ext, h3]; rfl
  have hh := (half_at h2).trans hn
  have hh2 := (half_at h4).trans hm
  have hp : pairF v n = (r, v.extract 6 v.size) := by
   unfold pairF
   rw [if_pos ⟨isU_at h3, n0, n1, by rw [hh2]; exact m0, by rw [hh2]; exact m1⟩, hh2, ← hr]
  have hrn : isRn r = true := by
   unfold isRn
   simp only [Bool.or_eq_true, decide_eq_true_eq]
   omega
  have hsp : spell (t.extract 1 t.size) = (encodeRuneZ r, v.extract 6 v.size, true) := by
   unfold spell
   rw [bt_head h1, esc117, if_neg (by decide), if_pos ⟨rfl, by rw [hh]; omega⟩, hh, hv, hp]
   unfold runeB
   rw [if_pos hrn]
   rfl
  refine ⟨_, h6, ?_⟩
  rw [decS, if_neg (by omega), bt_head (c := 92) (r := 117 :: a :: b :: c :: d :: 92 :: 117 :: a' :: b' :: c' :: d' :: rest) h, if_neg (by decide), if_neg (by decide), if_neg (by omega), hsp, if_pos rfl]
/-- A spelling: pieces, one behind the other. -/
inductive Sps : List Int → List Int → Prop where
  | nil : Sps [] []
  | cons {p o P O : List Int} : Pc p o → Sps P O → Sps (p ++ P) (o ++ O)
theorem Sps.app {P O Q U : List Int} (h : Sps P O) (k : Sps Q U) : Sps (P ++ Q) (O ++ U) := by
  induction h with
  | nil => exact k
  | cons hp _ ih =>
    rw [List.append_assoc, List.append_assoc]
    exact .cons hp ih
theorem Sps.one {p o : List Int} (h : Pc p o) : Sps p o := by
  have := Sps.cons h .nil
  simpa using this
theorem Sps.scan {P O : List Int} (h : Sps P O) (rest : List Int) : scanE (P ++ rest) = P.length + scanE rest := by
  induction h with
  | nil => simp
  | cons hp _ ih =>
    rw [List.append_assoc, hp.sc, ih, List.length_append]
    omega
theorem Sps.dec {P O : List Int} (h : Sps P O) : ∀ (n : Nat) (t : ByteArray) (out : List Int), bytesOf t = P → P.length ≤ n → decS n t out = .ok (out ++ O) := by
  induction h with
  | nil =>
    intro n t out ht _
    rw [decS_nil (size_of ht), List.append_nil]
  | cons hp _ ih =>
    intro n t out ht hn
    rw [List.length_append] at hn
    have hl : 0 < (List.length _) := List.length_pos_iff.2 hp.ne
    obtain ⟨m, rfl⟩ : ∃ m, n = m + 1 := ⟨n - 1, by omega⟩
    obtain ⟨u, hu, he⟩ := hp.de m t _ out ht
    rw [he, ih m u _ hu (by omega), List.append_assoc]
theorem str_sps {s : ByteArray} {x : Nat} {P O tail : List Int} (h : Sps P O) (hd : (bytesOf s).drop x = 34 :: (P ++ 34 :: tail)) (hv : Lib.validD (u8s O) = true) : strF s (x : Int) = .ok (strOfNums O, ((x + P.length + 2 : Nat) : Int)) := by
  have hl := congrArg List.length hd
  simp only [List.length_drop, bytesOf_length, List.length_cons, List.length_append] at hl
  have hb : bt s (x : Int) = 34 := by
    have := drop_bt s (y := (x : Int)) (by omega) (by omega)
    rw [Int.toNat_natCast, hd] at this
    exact (List.cons.inj this).1.symm
  have hd1 : (bytesOf s).drop (x + 1) = P ++ 34 :: tail := by rw [← List.drop_drop, hd]; rfl
  have hE : endF s ((x : Int) + 1) = ((x + 1 + P.length : Nat) : Int) := by
    unfold endF
    rw [show ((x : Int) + 1).toNat = x + 1 by omega, hd1, h.scan, scanE_at, if_pos rfl]
    omega
  have hM : minE s (((x + 1 + P.length : Nat) : Int)) = ((x + 1 + P.length : Nat) : Int) := by unfold minE; omega
  have hB : bytesOf (s.extract (x + 1) (x + 1 + P.length)) = P := by
    rw [bytesOf_sl, List.drop_take, hd1, show x + 1 + P.length - (x + 1) = P.length by omega, List.take_left]
  have hI : insF s ((x : Int) + 1) (endF s ((x : Int) + 1)) = .ok O := by
    unfold insF
    rw [hE, hM, show ((x : Int) + 1).toNat = x + 1 by omega, Int.toNat_natCast, h.dec s.size _ [] hB (by omega), List.nil_append]
  unfold strF
  rw [word1 (by omega), if_pos ⟨by omega, hb⟩]
  simp only
  rw [hI]
  simp only
  rw [hE, if_pos (by omega), if_pos hv]
  congr 1
  simp only [Prod.mk.injEq, true_and]
  omega
end Go.Proofs.YtodnggilomanbaaGreatDoor.Pure
end
section
namespace Go.Proofs.YtodnggilomanbaaGreatDoor.Pure
open Go.RowKit Go.Lib Go.Proofs.YtodnggilomanbaaGreatDoor.PAll Go.Proofs.YtodnggilomanbaaGreatDoorW.PrintWords Go.Proofs.YtodnggilomanbaaGreatDoorW.PrintLast Go.Proofs.YtodnggilomanbaaGreatDoorW.PrintMore Go.Proofs.YtodnggilomanbaaGreatDoor.Hand
set_option linter.unusedVariables false
set_option linter.unusedSimpArgs false

theorem w64 {x : Int} (h0 : -9223372036854775808 ≤ x) (h1 : x ≤ 9223372036854775807) : wrap64 x = x := p63z
theorem bl_in {s : ByteArray} {x : Int} (h0 : 0 ≤ x) (h1 : x < (s.size : Int)) : blanksF s x = if isBl (bt s x) = true then blanksF s (x + 1) else x := by
 unfold blanksF nbl
 rw [drop_bt s h0 h1, List.takeWhile_cons, show (x + 1).toNat = x.toNat + 1 by omega]
 split
 ·rw [List.length_cons]
  omega
 ·simp
theorem bl_out {s : ByteArray} : blanksF s (s.size : Int) = (s.size : Int) := by
  unfold blanksF nbl
  have h : (bytesOf s).drop ((s.size : Int)).toNat = [] := by rw [Int.toNat_natCast, List.drop_eq_nil_iff, bytesOf_length]; exact Nat.le_refl _
  rw [h]
  simp
theorem isBl_iff (c : Int) : isBl c = true ↔ c = 32 ∨ c = 9 ∨ c = 10 ∨ c = 13 := by
  unfold isBl
  simp only [Bool.or_eq_true, decide_eq_true_eq, or_assoc]
theorem rblanks (s : ByteArray) (hs : s.size ≤ 1073741824) (m h e : Int) : ∀ (k : Nat) (x : Int), 0 ≤ x → x ≤ (s.size : Int) → (s.size : Int) - x < k → signetryref14_Reader_blanks.l0 k s x m h e = some (s, blanksF s x, m, h, e)
 | 0, x, h0, h1, hk => by omega
 | k + 1, x, h0, h1, hk => by
  rw [signetryref14_Reader_blanks.l0]
  by_cases hx : x < (s.size : Int)
  case neg =>
   obtain rfl : x = (s.size : Int) := by omega
   rw [if_neg hx, bl_out]
  have ih := rblanks s hs m h e k (x + 1) (by omega) (by omega) (by omega)
  have hb := bl_in h0 hx
  have hi := isBl_iff (bt s x)
  rw [if_pos hx, if_pos h0, w64 (by omega) (by omega), ih]
  by_cases c1 : bt s x = 32
  ·rw [if_pos c1, hb, if_pos (hi.2 (by omega))]
  rw [if_neg c1]
  by_cases c2 : bt s x = 9
  ·rw [if_pos c2, hb, if_pos (hi.2 (by omega))]
  rw [if_neg c2]
  by_cases c3 : bt s x = 10
  ·rw [if_pos c3, hb, if_pos (hi.2 (by omega))]
  rw [if_neg c3]
  by_cases c4 : bt s x = 13
  ·rw [if_pos c4, hb, if_pos (hi.2 (by omega))]
  rw [if_neg c4, hb, if_neg (fun h => by have := hi.1 h; omega)]
theorem rblanks_f {s : ByteArray} (hs : s.size ≤ 1073741824) {x m h e : Int} (h0 : 0 ≤ x) (h1 : x ≤ (s.size : Int)) {k : Nat} (hk : s.size < k) : signetryref14_Reader_blanks.f k s x m h e = some (s, blanksF s x, m, h, e) := by
  unfold signetryref14_Reader_blanks.f
  exact rblanks s hs m h e k x h0 h1 (by omega)
theorem rnow {s : ByteArray} {x m h : Int} (h0 : 0 ≤ x) (h1 : x ≤ (s.size : Int)) : signetryref14_Reader_now.f s x m h 0 = some (nowF s x, s, x, m, h, 0) := by
 unfold signetryref14_Reader_now.f nowF
 by_cases hx : x = (s.size : Int)
 case pos =>
  rw [if_pos (by omega), if_pos hx]
 rw [if_neg (by omega), if_pos rfl, if_pos h0, if_pos (by omega), if_neg hx]
theorem rnow_err {s : ByteArray} {x m h e : Int} (he : e ≠ 0) : signetryref14_Reader_now.f s x m h e = some (0, s, x, m, h, e) := by
 unfold signetryref14_Reader_now.f
 split
 ·rfl
 ·first | rfl | (rw [if_neg he])
theorem rfail {s : ByteArray} {x m h p c : Int} : signetryref14_Reader_fail.f s x m h 0 p c = some (s, x, m, p, c) := by
  unfold signetryref14_Reader_fail.f
  rw [if_pos rfl]
theorem rfail_err {s : ByteArray} {x m h e p c : Int} (he : e ≠ 0) : signetryref14_Reader_fail.f s x m h e p c = some (s, x, m, h, e) := by
  unfold signetryref14_Reader_fail.f
  rw [if_neg he]
/-! ### word -/
/-- What is left of a state behind a reading of a word. -/
def wordR (s : ByteArray) (m h : Int) (r : Except Int Int) : ByteArray × Int × Int × Int × Int := match r with
  | .ok y => (s, y, m, h, 0)
  | .error p => (s, p, m, p, 140)
theorem rword (s t : ByteArray) (hs : s.size ≤ 1073741824) (ht : t.size ≤ 1073741824) (m h : Int) : ∀ (n k : Nat) (i : Nat) (x : Int), i + n = t.size → 2 * n < k → 0 ≤ x → x ≤ (s.size : Int) → signetryref14_Reader_word.l0 (k + 1) t (i : Int) s x m h 0 = some (wordR s m h (wordF s ((bytesOf t).drop i) x))
 | 0, k, i, x, hi, hk, h0, h1 => by
  obtain ⟨k, rfl⟩ : ∃ k', k = k' + 1 := ⟨k - 1, by omega⟩
  have hd : (bytesOf t).drop i = [] := by rw [List.drop_eq_nil_iff, bytesOf_length]; omega
  rw [signetryref14_Reader_word.l0, if_neg (by omega), signetryref14_Reader_word.j1, if_neg (by decide), hd]
  rfl
 | n + 1, k, i, x, hi, hk, h0, h1 => by
  obtain ⟨k, rfl⟩ : ∃ k', k = k' + 2 := ⟨k - 2, by omega⟩
  have hd : (bytesOf t).drop i = bt t (i : Int) :: (bytesOf t).drop (i + 1) := by
   have := drop_bt t (y := (i : Int)) (by omega) (by omega)
   rwa [Int.toNat_natCast] at this
  rw [signetryref14_Reader_word.l0, if_pos (by omega), signetryref14_Reader_word.j1, if_pos (show ((0 : Int) == 0) = true from rfl), hd, wordF]
  by_cases hx : x = (s.size : Int)
  case pos =>
   rw [if_pos (by omega), rfail, if_pos hx]
   rfl
  rw [if_neg (by omega), if_pos h0, if_pos (by omega), if_pos (by omega), if_pos (by omega), if_neg hx]
  by_cases hb : bt s x = bt t (i : Int)
  case neg =>
   rw [if_neg hb, if_neg hb, rfail]
   rfl
  rw [if_pos hb, if_pos hb, w64 (by omega) (by omega), w64 (by omega) (by omega)]
  have := rword s t hs ht m h n k (i + 1) (x + 1) (by omega) (by omega) (by omega) (by omega)
  rwa [Int.natCast_add] at this
theorem rword_f {s t : ByteArray} (hs : s.size ≤ 1073741824) (ht : t.size ≤ 8) {x m h : Int} (h0 : 0 ≤ x) (h1 : x ≤ (s.size : Int)) {k : Nat} (hk : 20 ≤ k) : signetryref14_Reader_word.f k s x m h 0 t = some (wordR s m h (wordF s (bytesOf t) x)) := by
  obtain ⟨k, rfl⟩ : ∃ k', k = k' + 1 := ⟨k - 1, by omega⟩
  have := rword s t hs (by omega) m h t.size k 0 x (by omega) (by omega) h0 h1
  rwa [List.drop_zero] at this
theorem rword_err {s t : ByteArray} {x m h e : Int} (he : e ≠ 0) {k : Nat} (hk : 2 ≤ k) : signetryref14_Reader_word.f k s x m h e t = some (s, x, m, h, e) := by
 obtain ⟨k, rfl⟩ : ∃ k', k = k' + 2 := ⟨k - 2, by omega⟩
 have hb : (e == 0) = false := beq_eq_false_iff_ne.mpr he
 unfold signetryref14_Reader_word.f
 rw [signetryref14_Reader_word.l0]
 split
 ·rw [signetryref14_Reader_word.j1, hb, if_neg (by decide)]
 ·rw [signetryref14_Reader_word.j1, if_neg (by decide)]
/-! ### numbers -/
theorem isDgt_iff (c : Int) : isDgt c = true ↔ 48 ≤ c ∧ c ≤ 57 := by
  unfold isDgt
  simp
theorem dg_in {s : ByteArray} {y : Int} (h0 : 0 ≤ y) (h1 : y < (s.size : Int)) : ndg ((bytesOf s).drop y.toNat) = if isDgt (bt s y) = true then ndg ((bytesOf s).drop (y + 1).toNat) + 1 else 0 := by
 unfold ndg
 rw [drop_bt s h0 h1, List.takeWhile_cons, show (y + 1).toNat = y.toNat + 1 by omega]
 split
 ·rw [List.length_cons]
 ·rfl
theorem rdigits (s : ByteArray) (hs : s.size ≤ 1073741824) (y : Int) (h0 : 0 ≤ y) : ∀ (k : Nat) (j : Int), 0 ≤ j → y + j ≤ (s.size : Int) → (s.size : Int) - (y + j) < k → signetryref14_digits.l0 k s y j = some (j + (ndg ((bytesOf s).drop (y + j).toNat) : Int))
 | 0, j, hj, h1, hk => by omega
 | k + 1, j, hj, h1, hk => by
  rw [signetryref14_digits.l0, w64 (by omega) (by omega)]
  by_cases hx : y + j < (s.size : Int)
  case neg =>
   have hd : (bytesOf s).drop (y + j).toNat = [] := by rw [List.drop_eq_nil_iff, bytesOf_length]; omega
   rw [if_neg hx, hd]
   simp [ndg]
  have ih := rdigits s hs y h0 k (j + 1) (by omega) (by omega) (by omega)
  have hb := dg_in (s := s) (y := y + j) (by omega) hx
  have hi := isDgt_iff (bt s (y + j))
  rw [if_pos hx, if_pos (by omega), w64 (by omega) (by omega), ih]
  by_cases c1 : bt s (y + j) ≥ 48
  case neg =>
   rw [if_neg c1, hb, if_neg (fun h => c1 (hi.1 h).1)]
   simp
  rw [if_pos c1]
  by_cases c2 : bt s (y + j) ≤ 57
  case neg =>
   rw [if_neg c2, hb, if_neg (fun h => c2 (hi.1 h).2)]
   simp
  rw [if_pos c2, hb, if_pos (hi.2 ⟨c1, c2⟩), show y + (j + 1) = y + j + 1 by omega]
  congr 1
  omega
/-- What is left behind a number. -/
def numR (s : ByteArray) (m h : Int) (r : Except (Int × Int) (S28 × Int × Int × Int)) (o : ByteArray × ByteArray × Int × Int × Int × Int) : Prop := match r with
  | .ok (nd, z, _, _) => o = (nd.f1, s, z, m, h, 0)
  | .error (p, c) => ∃ y, o = (⟨#[]⟩, s, y, m, p, c) ∧ 0 ≤ y ∧ y ≤ (s.size : Int)
theorem rnumber {s : ByteArray} (hs : s.size ≤ 1073741824) {x m h mm dd : Int} (h0 : 0 ≤ x) (h1 : x ≤ (s.size : Int)) : ∃ o, (∀ k, s.size + 5 ≤ k → signetryref14_Reader_number.f k s x m h 0 = some o) ∧ numR s m h (numberF s x mm dd) o := by
 obtain ⟨y, hy⟩ : ∃ y, numAt s x = y := ⟨_, rfl⟩
 have hyb := numAt_bd h0 h1
 rw [hy] at hyb
 obtain ⟨n, hn⟩ : ∃ n, ndg ((bytesOf s).drop y.toNat) = n := ⟨_, rfl⟩
 have hnl : y + (n : Int) ≤ (s.size : Int) := by
  have := ndg_le ((bytesOf s).drop y.toNat)
  rw [List.length_drop, bytesOf_length, hn] at this
  omega
 have hat : ∀ k, s.size + 5 ≤ k → signetryref14_Reader_number.f k s x m h 0 = signetryref14_Reader_number.j0 k x s y m h 0 := by
  intro k hk
  unfold signetryref14_Reader_number.f
  rw [rnow h0 h1, Option.bind_some]
  simp only
  unfold numAt at hy
  by_cases h45 : nowF s x = 45
  case neg =>
   rw [if_neg h45] at hy ⊢
   rw [hy]
  rw [if_pos h45] at hy ⊢
  rw [w64 (by omega) (by omega), hy]
 have hlen : numLen s y = if nowF s y = 48 then 1 else (n : Int) := by
  unfold numLen
  rw [hn]
 unfold numberF
 rw [hy, hn, hlen]
 have hj : ∀ k, s.size + 4 ≤ k → ∃ n', signetryref14_Reader_number.j0 (k + 1) x s y m h 0 = signetryref14_Reader_number.j2 (k - 1) x n' s y m h 0 ∧ n' = if n > 1 ∧ nowF s y = 48 then 1 else (n : Int) := by
  intro k hk
  obtain ⟨k, rfl⟩ : ∃ k', k = k' + 1 := ⟨k - 1, by omega⟩
  have hdg : signetryref14_digits.f (k + 1) s y = some (n : Int) := by
   unfold signetryref14_digits.f
   have := rdigits s hs y (by omega) (k + 1) 0 (by omega) (by omega) (by omega)
   rw [show y + 0 = y by omega, hn, show (0 : Int) + (n : Int) = n by omega] at this
   exact this
  refine ⟨_, ?_, rfl⟩
  rw [signetryref14_Reader_number.j0, hdg, Option.bind_some]
  by_cases h1n : n > 1
  case neg =>
   rw [if_neg (by omega), signetryref14_Reader_number.j1, if_neg (by decide), if_neg (fun h => h1n h.1)]
   rfl
  have hnw : nowF s y = bt s y := by unfold nowF; rw [if_neg (by omega)]
  rw [if_pos (by omega), if_pos (by omega), if_pos (by omega), signetryref14_Reader_number.j1, hnw]
  by_cases h48 : bt s y = 48
  case pos =>
   rw [if_pos (beq_iff_eq.mpr h48), if_pos ⟨h1n, h48⟩]
   rfl
  rw [if_neg (by simpa using h48), if_neg (fun h => h48 h.2)]
  rfl
 by_cases hn0 : n = 0
 case pos =>
  rw [if_pos hn0]
  refine ⟨(⟨#[]⟩, s, y, m, y, 140), fun k hk => ?_, y, rfl, by omega, by omega⟩
  rw [hat k hk]
  obtain ⟨k, rfl⟩ : ∃ k', k = k' + 1 := ⟨k - 1, by omega⟩
  obtain ⟨n', e1, e2⟩ := hj k (by omega)
  rw [if_neg (by omega)] at e2
  subst e2
  obtain ⟨q, hq⟩ : ∃ q, k - 1 = q + 1 := ⟨k - 2, by omega⟩
  rw [e1, hq, signetryref14_Reader_number.j2, if_neg (by omega), if_pos (by omega), show y + (n : Int) = y by omega, w64 (by omega) (by omega), rfail, Option.bind_some]
 rw [if_neg hn0]
 by_cases h48 : nowF s y = 48
 case pos =>
  rw [if_neg (fun h => h.1 h48), if_pos h48]
  refine ⟨(s.extract x.toNat (y + 1).toNat, s, y + 1, m, h, 0), fun k hk => ?_, rfl⟩
  rw [hat k hk]
  obtain ⟨k, rfl⟩ : ∃ k', k = k' + 1 := ⟨k - 1, by omega⟩
  obtain ⟨n', e1, e2⟩ := hj k (by omega)
  have e3 : n' = 1 := by
   rw [e2]
   split
   ·rfl
   ·rename_i hq
    have : ¬ n > 1 := fun h => hq ⟨h, h48⟩
    omega
  subst e3
  obtain ⟨q, hq⟩ : ∃ q, k - 1 = q + 1 := ⟨k - 2, by omega⟩
  rw [e1, hq, signetryref14_Reader_number.j2, if_neg (by decide), if_neg (by decide), w64 (by omega) (by omega), if_pos h0, if_pos (by omega), if_pos (by omega)]
 rw [if_neg h48]
 by_cases h40 : 40 < n
 case pos =>
  rw [if_pos ⟨h48, h40⟩]
  refine ⟨(⟨#[]⟩, s, y, m, x, 140), fun k hk => ?_, y, rfl, by omega, by omega⟩
  rw [hat k hk]
  obtain ⟨k, rfl⟩ : ∃ k', k = k' + 1 := ⟨k - 1, by omega⟩
  obtain ⟨n', e1, e2⟩ := hj k (by omega)
  rw [if_neg (fun h => h48 h.2)] at e2
  subst e2
  obtain ⟨q, hq⟩ : ∃ q, k - 1 = q + 1 := ⟨k - 2, by omega⟩
  rw [e1, hq, signetryref14_Reader_number.j2, if_pos (by omega), rfail, Option.bind_some]
 rw [if_neg (fun h => h40 h.2)]
 refine ⟨(s.extract x.toNat (y + (n : Int)).toNat, s, y + (n : Int), m, h, 0), fun k hk => ?_, rfl⟩
 rw [hat k hk]
 obtain ⟨k, rfl⟩ : ∃ k', k = k' + 1 := ⟨k - 1, by omega⟩
 obtain ⟨n', e1, e2⟩ := hj k (by omega)
 rw [if_neg (fun h => h48 h.2)] at e2
 subst e2
 obtain ⟨q, hq⟩ : ∃ q, k - 1 = q + 1 := ⟨k - 2, by omega⟩
 rw [e1, hq, signetryref14_Reader_number.j2, if_neg (by omega), if_neg (by omega), w64 (by omega) (by omega), if_pos h0, if_pos (by omega), if_pos (by omega)]
end Go.Proofs.YtodnggilomanbaaGreatDoor.Pure
end
section
namespace Go.Proofs.YtodnggilomanbaaGreatDoor.Pure
open Go.RowKit Go.Lib Go.Proofs.YtodnggilomanbaaGreatDoor.PAll Go.Proofs.YtodnggilomanbaaGreatDoorW.PrintWords Go.Proofs.YtodnggilomanbaaGreatDoorW.PrintLast Go.Proofs.YtodnggilomanbaaGreatDoorW.PrintMore Go.Proofs.YtodnggilomanbaaGreatDoor.Hand
set_option linter.unusedVariables false
set_option linter.unusedSimpArgs false
set_option maxRecDepth 4000

theorem isBy_take {l : List Int} (h : isBy l = true) (n : Nat) : isBy (l.take n) = true := List.all_eq_true.2 fun x hx => List.all_eq_true.1 h x (List.mem_of_mem_take hx)
theorem isBy_drop {l : List Int} (h : isBy l = true) (n : Nat) : isBy (l.drop n) = true := List.all_eq_true.2 fun x hx => List.all_eq_true.1 h x (List.mem_of_mem_drop hx)
theorem isBy_mem {l : List Int} (h : isBy l = true) {x : Int} (hx : x ∈ l) : 0 ≤ x ∧ x ≤ 255 := by
  have := List.all_eq_true.1 h x hx
  simpa using this
theorem isBy_bytesOf (s : ByteArray) : isBy (bytesOf s) = true := by
  refine List.all_eq_true.2 fun x hx => ?_
  simp only [bytesOf, List.mem_map] at hx
  obtain ⟨b, _, rfl⟩ := hx
  have := b.toNat_lt
  simp
  omega
theorem copy_f {l : List Int} (h : l.length < 140737488355328) : signetryref00_CopyBytes.f l = some l := by
  unfold signetryref00_CopyBytes.f
  rw [if_pos (by simpa using h)]
  rfl
theorem eq_refl_f (l : List Int) : signetryref00_EqBytes.f l l = some true := by simp [signetryref00_EqBytes.f]
theorem rd_drop {l : List Int} {i : Nat} {c : Int} {u : List Int} (h : l.drop i = c :: u) : rd l i = c ∧ l.drop (i + 1) = u ∧ i < l.length := by
 have hi : i < l.length := by
  rcases Nat.lt_or_ge i l.length with h' | h'
  ·exact h'
  ·rw [List.drop_of_length_le h'] at h
   cases h
 rw [List.drop_eq_getElem_cons hi] at h
 simp only [List.cons.injEq] at h
 refine ⟨?_, h.2, hi⟩
 rw [rd, ← h.1]
 simp [List.getD_eq_getElem?_getD, List.getElem?_eq_getElem hi]
theorem rd_cons {l : List Int} {i : Nat} {c : Int} {u : List Int} (h : l.drop i = c :: u) : rd l (i : Int) = c ∧ l.drop (i + 1) = u ∧ i < l.length := rd_drop h
theorem bytesOf_str {l : List Int} (h : isBy l = true) : bytesOf (strOfNums l) = l := by
  have e : (strOfNums l).data.toList = u8s l := rfl
  rw [bytesOf, e, u8s, List.map_map]
  conv => rhs; rw [← List.map_id l]
  refine List.map_congr_left fun x hx => ?_
  obtain ⟨h0, h1⟩ := isBy_mem h hx
  simp only [Function.comp, id]
  rw [UInt8.toNat_ofNat']
  omega
def rnsL : Nat → List UInt8 → Nat → List Int → List Int × Int × Int
  | 0, _, _, acc => (acc, 0, 0)
  | f + 1, u, pos, acc => if u = [] then (acc, 0, 0) else if (decodeL u).1 = 65533 ∧ (decodeL u).2 = 1 then ([], (pos : Int), 20) else rnsL f (u.drop (decodeL u).2) (pos + (decodeL u).2) (acc ++ [((decodeL u).1 : Int)])
theorem rns_enc : ∀ (rs : List Int) (f pos : Nat) (acc : List Int), (∀ r ∈ rs, isRn r = true) → rs.length < f → rnsL f (u8s (encs8 rs)) pos acc = (acc ++ rs, 0, 0)
  | [], f, pos, acc, _, hf => by
    obtain ⟨q, rfl⟩ : ∃ q, f = q + 1 := ⟨f - 1, by omega⟩
    simp [rnsL, encs8, u8s]
  | r :: rs, f, pos, acc, h, hf => by
    obtain ⟨q, rfl⟩ : ∃ q, f = q + 1 := ⟨f - 1, by omega⟩
    have hr := h r (by simp)
    have hr2 := isRn_of hr
    rw [encs8_cons, rnsL, if_neg (enc_ne _), dec_enc hr, if_neg (enc_not_bad hr), enc_drop, rns_enc rs q _ _ (fun x hx => h x (by simp [hx])) (by simpa using hf)]
    rw [show ((r.toNat : Nat) : Int) = r by omega]
    simp
def Kp (p : Prop) : Prop := p
theorem w_nat {a b : Nat} (h : a + b ≤ 4611686018427387904) : wrap64 ((a : Int) + (b : Int)) = ((a + b : Nat) : Int) := by rw [w64 (by omega) (by omega)]; omega
theorem w_one {a : Nat} (h : a < 4611686018427387904) : wrap64 ((a : Int) + 1) = ((a + 1 : Nat) : Int) := by rw [w64 (by omega) (by omega)]; omega
theorem rRune {l : List Int} {n : Int} (hl : l.length ≤ 1099511627776) : signetryref02_Rune.f l n = some (if isRn n = true then (l ++ encodeRuneZ n, 0) else ([], 20)) := by
 unfold signetryref02_Rune.f
 have hr : signetryref02_isRune.f n = some (isRn n) := by
  unfold signetryref02_isRune.f isRn
  by_cases h0 : n ≥ 0
  case neg =>
   rw [if_neg h0, decide_eq_false (show ¬ (0 ≤ n ∧ n < 55296) by omega), decide_eq_false (show ¬ (57343 < n ∧ n ≤ 1114111) by omega)]
   rfl
  rw [if_pos h0]
  by_cases h1 : n ≤ 1114111
  case neg =>
   rw [if_neg h1, decide_eq_false (show ¬ (0 ≤ n ∧ n < 55296) by omega), decide_eq_false (show ¬ (57343 < n ∧ n ≤ 1114111) by omega)]
   rfl
  rw [if_pos h1]
  by_cases h2 : n < 55296
  case pos =>
   rw [if_pos h2, decide_eq_true (show 0 ≤ n ∧ n < 55296 by omega)]; rfl
  rw [if_neg h2, decide_eq_false (show ¬ (0 ≤ n ∧ n < 55296) by omega)]
  simp only [Bool.false_or, Option.some.injEq]
  rw [Bool.eq_iff_iff]
  simp only [decide_eq_true_eq]
  omega
 rw [hr, Option.bind_some]
 by_cases h : isRn n = true
 case neg =>
  rw [if_neg h, if_neg h]

 rw [if_pos h, if_pos h, copy_f (by omega), Option.bind_some]
 have hn := (by simpa [isRn] using h : (0 ≤ n ∧ n < 55296) ∨ (57343 < n ∧ n ≤ 1114111))
 simp only [Option.bind_some, List.length_cons, List.length_nil]
 have t1 : Int.tdiv n 64 = n / 64 := Int.tdiv_eq_ediv_of_nonneg (by omega)
 have t2 : Int.tdiv n 4096 = n / 4096 := Int.tdiv_eq_ediv_of_nonneg (by omega)
 have t3 : Int.tdiv n 262144 = n / 262144 := Int.tdiv_eq_ediv_of_nonneg (by omega)
 have m1 : Int.tmod n 64 = n % 64 := Int.tmod_eq_emod_of_nonneg (by omega)
 have q1 : wrap64 (n / 64) = n / 64 := w64 (by omega) (by omega)
 have q2 : wrap64 (n / 4096) = n / 4096 := w64 (by omega) (by omega)
 have q3 : wrap64 (n / 262144) = n / 262144 := w64 (by omega) (by omega)
 have m2 : Int.tmod (n / 64) 64 = n / 64 % 64 := Int.tmod_eq_emod_of_nonneg (by omega)
 have m3 : Int.tmod (n / 4096) 64 = n / 4096 % 64 := Int.tmod_eq_emod_of_nonneg (by omega)
 rw [t1, t2, t3, m1, q1, q2, q3, m2, m3]
 by_cases c1 : n < 128
 case pos =>
  rw [if_pos c1, if_pos (by omega), encodeRuneZ_one (by omega) (by omega), show n % 256 = n by omega]
 rw [if_neg c1]
 by_cases c2 : n < 2048
 case pos =>
  rw [if_pos c2, if_pos (by omega), encodeRuneZ_two (by omega) (by omega), show (192 + n / 64 % 256) % 256 = 192 + n / 64 by omega, show (128 + n % 64 % 256) % 256 = 128 + n % 64 by omega]
 rw [if_neg c2]
 by_cases c3 : n < 65536
 case pos =>
  rw [if_pos c3, if_pos (by omega), encodeRuneZ_three (by omega), show (224 + n / 4096 % 256) % 256 = 224 + n / 4096 by omega, show (128 + n / 64 % 64 % 256) % 256 = 128 + n / 64 % 64 by omega, show (128 + n % 64 % 256) % 256 = 128 + n % 64 by omega]
 rw [if_neg c3, if_pos (by omega), encodeRuneZ_four (by omega) (by omega), show (240 + n / 262144 % 256) % 256 = 240 + n / 262144 by omega, show (128 + n / 4096 % 64 % 256) % 256 = 128 + n / 4096 % 64 by omega, show (128 + n / 64 % 64 % 256) % 256 = 128 + n / 64 % 64 by omega, show (128 + n % 64 % 256) % 256 = 128 + n % 64 by omega]
def isBad (l : List Int) : Prop := (decodeL (u8s l)).1 = 65533 ∧ (decodeL (u8s l)).2 = 1
instance (l : List Int) : Decidable (isBad l) := by unfold isBad; exact inferInstance
theorem u8_getD {l : List Int} (hB : isBy l = true) (i : Nat) : ((u8s l).getD i 0).toNat = (l.getD i 0).toNat := by
 by_cases h : i < l.length
 case neg =>
  rw [List.getD_eq_getElem?_getD, List.getD_eq_getElem?_getD, List.getElem?_eq_none (by rw [u8s_len]; omega), List.getElem?_eq_none (by omega)]
  rfl
 have hm := isBy_mem hB (List.getElem_mem h)
 rw [List.getD_eq_getElem?_getD, List.getD_eq_getElem?_getD, List.getElem?_eq_getElem (by rw [u8s_len]; exact h), List.getElem?_eq_getElem h]
 simp only [Option.getD_some, u8s, List.getElem_map]
 exact toNat_of hm.1 (by omega)
theorem dec_of {l : List Int} (hB : isBy l = true) : decodeL (u8s l) = decodeN l.length (l.getD 0 0).toNat (l.getD 1 0).toNat (l.getD 2 0).toNat (l.getD 3 0).toNat := by
  rw [decodeL_N, u8s_len, u8_getD hB, u8_getD hB, u8_getD hB, u8_getD hB]
theorem dec_shape {l : List Int} {d : Nat × Nat} (hB : isBy l = true) (hne : l ≠ []) (hd : decodeN l.length (l.getD 0 0).toNat (l.getD 1 0).toNat (l.getD 2 0).toNat (l.getD 3 0).toNat = d) (hg : ¬ (d.1 = 65533 ∧ d.2 = 1)) :
 isRn (d.1 : Int) = true ∧ ∃ rest, l = encodeRuneZ (d.1 : Int) ++ rest ∧ (encodeRuneZ (d.1 : Int)).length = d.2 := by
 rcases l with _ | ⟨b0, l1⟩
 ·exact absurd rfl hne
 obtain ⟨p0, q0⟩ := isBy_mem hB (show b0 ∈ b0 :: l1 by simp)
 have hB1 : isBy l1 = true := isBy_drop hB 1
 unfold decodeN at hd
 simp only [List.getD_cons_zero, List.getD_cons_succ, List.length_cons] at hd
 split at hd
 ·subst hd
  have e := encodeRuneZ_one (r := b0) (by omega) (by omega)
  have e2 : ((b0.toNat : Nat) : Int) = b0 := by omega
  simp only [e2, e, isRn, Bool.or_eq_true, decide_eq_true_eq]
  exact ⟨by omega, l1, rfl, rfl⟩
 ·rcases l1 with _ | ⟨b1, l2⟩
  ·rw [if_neg (by simp), if_neg (by simp), if_neg (by simp)] at hd
   subst hd
   exact absurd ⟨rfl, rfl⟩ hg
  obtain ⟨p1, q1⟩ := isBy_mem hB1 (show b1 ∈ b1 :: l2 by simp)
  have hB2 : isBy l2 = true := isBy_drop hB1 1
  simp only [List.getD_cons_zero, List.getD_cons_succ, List.length_cons] at hd
  split at hd
  ·rename_i h
   split at hd
   ·rename_i h2
    subst hd
    have e := encodeRuneZ_two (r := ((b0.toNat % 32 * 64 + b1.toNat % 64 : Nat) : Int)) (by omega) (by omega)
    have e2 : 192 + ((b0.toNat % 32 * 64 + b1.toNat % 64 : Nat) : Int) / 64 = b0 := by omega
    have e3 : 128 + ((b0.toNat % 32 * 64 + b1.toNat % 64 : Nat) : Int) % 64 = b1 := by omega
    rw [e2, e3] at e
    refine ⟨?_, l2, ?_, ?_⟩
    ·simp only [isRn, Bool.or_eq_true, decide_eq_true_eq]; omega
    ·simp only [e]; rfl
    ·simp only [e]; rfl
   ·subst hd
    exact absurd ⟨rfl, rfl⟩ hg
  ·rcases l2 with _ | ⟨b2, l3⟩
   ·rw [if_neg (by simp), if_neg (by simp)] at hd
    subst hd
    exact absurd ⟨rfl, rfl⟩ hg
   obtain ⟨p2, q2⟩ := isBy_mem hB2 (show b2 ∈ b2 :: l3 by simp)
   have hB3 : isBy l3 = true := isBy_drop hB2 1
   simp only [List.getD_cons_zero, List.getD_cons_succ, List.length_cons] at hd
   split at hd
   ·rename_i h
    split at hd
    ·rename_i h2
     subst hd
     have e := encodeRuneZ_three (r := ((b0.toNat % 16 * 4096 + b1.toNat % 64 * 64 + b2.toNat % 64 : Nat) : Int)) (by omega)
     have e2 : 224 + ((b0.toNat % 16 * 4096 + b1.toNat % 64 * 64 + b2.toNat % 64 : Nat) : Int) / 4096 = b0 := by omega
     have e3 : 128 + ((b0.toNat % 16 * 4096 + b1.toNat % 64 * 64 + b2.toNat % 64 : Nat) : Int) / 64 % 64 = b1 := by omega
     have e4 : 128 + ((b0.toNat % 16 * 4096 + b1.toNat % 64 * 64 + b2.toNat % 64 : Nat) : Int) % 64 = b2 := by omega
     rw [e2, e3, e4] at e
     refine ⟨?_, l3, ?_, ?_⟩
     ·simp only [isRn, Bool.or_eq_true, decide_eq_true_eq]; omega
     ·simp only [e]; rfl
     ·simp only [e]; rfl
    ·subst hd
     exact absurd ⟨rfl, rfl⟩ hg
   ·rcases l3 with _ | ⟨b3, l4⟩
    ·rw [if_neg (by simp)] at hd
     subst hd
     exact absurd ⟨rfl, rfl⟩ hg
    obtain ⟨p3, q3⟩ := isBy_mem hB3 (show b3 ∈ b3 :: l4 by simp)
    simp only [List.getD_cons_zero, List.getD_cons_succ, List.length_cons] at hd
    split at hd
    ·rename_i h
     split at hd
     ·rename_i h2
      subst hd
      have e := encodeRuneZ_four (r := ((b0.toNat % 8 * 262144 + b1.toNat % 64 * 4096 + b2.toNat % 64 * 64 + b3.toNat % 64 : Nat) : Int)) (by omega) (by omega)
      have e2 : 240 + ((b0.toNat % 8 * 262144 + b1.toNat % 64 * 4096 + b2.toNat % 64 * 64 + b3.toNat % 64 : Nat) : Int) / 262144 = b0 := by omega
      have e3 : 128 + ((b0.toNat % 8 * 262144 + b1.toNat % 64 * 4096 + b2.toNat % 64 * 64 + b3.toNat % 64 : Nat) : Int) / 4096 % 64 = b1 := by omega
      have e4 : 128 + ((b0.toNat % 8 * 262144 + b1.toNat % 64 * 4096 + b2.toNat % 64 * 64 + b3.toNat % 64 : Nat) : Int) / 64 % 64 = b2 := by omega
      have e5 : 128 + ((b0.toNat % 8 * 262144 + b1.toNat % 64 * 4096 + b2.toNat % 64 * 64 + b3.toNat % 64 : Nat) : Int) % 64 = b3 := by omega
      rw [e2, e3, e4, e5] at e
      refine ⟨?_, l4, ?_, ?_⟩
      ·simp only [isRn, Bool.or_eq_true, decide_eq_true_eq]; omega
      ·simp only [e]; rfl
      ·simp only [e]; rfl
     ·subst hd
      exact absurd ⟨rfl, rfl⟩ hg
    ·subst hd
     exact absurd ⟨rfl, rfl⟩ hg
theorem dec_ok {l : List Int} (hB : isBy l = true) (hne : l ≠ []) (hg : ¬ isBad l) :
 ∃ (r : Int) (rest : List Int), isRn r = true ∧ l = encodeRuneZ r ++ rest ∧ decodeL (u8s l) = (r.toNat, (encodeRuneZ r).length) := by
 obtain ⟨h1, rest, h2, h3⟩ := dec_shape (d := decodeL (u8s l)) hB hne (dec_of hB).symm hg
 refine ⟨((decodeL (u8s l)).1 : Int), rest, h1, h2, ?_⟩
 refine Prod.ext ?_ ?_
 ·simp
 ·exact h3.symm
theorem enc_good {r : Int} (h : isRn r = true) (rest : List Int) : ¬ isBad (encodeRuneZ r ++ rest) ∧ decodeL (u8s (encodeRuneZ r ++ rest)) = (r.toNat, (encodeRuneZ r).length) := by
  have e := dec_enc h (u8s rest)
  rw [← u8s_append] at e
  refine ⟨?_, e⟩
  unfold isBad
  rw [e]
  simp only
  exact enc_not_bad h

def lead (c : Int) : Nat := if 240 ≤ c then 4 else if 224 ≤ c then 3 else if 192 ≤ c then 2 else 1
def lnum (c : Int) : Int := if 240 ≤ c then c % 8 else if 224 ≤ c then c % 16 else if 192 ≤ c then c % 32 else c
def fold64 (n : Int) (l : List Int) : Int := l.foldl (fun a b => 64 * a + b % 64) n
def fst8 (l : List Int) : Int × Int :=
  if isRn (fold64 (lnum (l.getD 0 0)) ((l.drop 1).take (lead (l.getD 0 0) - 1))) = true ∧ lead (l.getD 0 0) ≤ l.length ∧ encodeRuneZ (fold64 (lnum (l.getD 0 0)) ((l.drop 1).take (lead (l.getD 0 0) - 1))) = l.take (lead (l.getD 0 0))
  then (fold64 (lnum (l.getD 0 0)) ((l.drop 1).take (lead (l.getD 0 0) - 1)), (lead (l.getD 0 0) : Int)) else (0, 0)
theorem eqb_f {a b : List Int} (ha : isBy a = true) (hb : isBy b = true) : signetryref00_EqBytes.f a b = some (decide (a = b)) := by
 unfold signetryref00_EqBytes.f
 congr 1
 rw [Bool.eq_iff_iff]
 simp only [beq_iff_eq, decide_eq_true_eq]
 constructor
 ·intro h
  have h2 : strOfNums a = strOfNums b := by
   rw [ByteArray.toList_eq, ByteArray.toList_eq] at h
   cases hx : strOfNums a; cases hy : strOfNums b
   rw [hx, hy] at h
   simp only at h
   congr 1
   exact Array.toList_inj.1 h
  rw [← bytesOf_str ha, ← bytesOf_str hb, h2]
 ·rintro rfl; rfl
theorem first_j2 (l : List Int) (hB : isBy l = true) (m : Nat) (n : Int) (k : Nat) : signetryref02_first.j2 (k + 1) l (m : Int) n = some (if isRn n = true ∧ m ≤ l.length ∧ encodeRuneZ n = l.take m then (n, (m : Int)) else (0, 0)) := by
 rw [signetryref02_first.j2, rRune (by simp), Option.bind_some]
 by_cases hr : isRn n = true
 case neg =>
  rw [if_neg hr, if_neg (by decide), if_neg (fun e => hr e.1)]
 rw [if_pos hr, if_pos rfl, List.nil_append]
 by_cases hm : m ≤ l.length
 case neg =>
  rw [if_pos (by omega), if_neg (fun e => hm e.2.1)]
 have hE : isBy (encodeRuneZ n) = true := List.all_eq_true.2 fun x hx => by
  have := encodeRuneZ_byte n x hx
  simp
  omega
 rw [if_neg (by omega), if_pos (by omega), if_pos (by omega), Int.toNat_natCast, eqb_f hE (isBy_take hB m), Option.bind_some]
 by_cases he : encodeRuneZ n = l.take m
 case pos =>
  rw [decide_eq_true he, if_pos rfl, if_pos ⟨hr, hm, he⟩]
 rw [decide_eq_false he, if_neg Bool.false_ne_true, if_neg (fun e => he e.2.2)]
theorem first_step {i m : Nat} {n c : Int} (hi : i < 4) (h1 : 1 ≤ i) (h0 : 0 ≤ n) (hn : Kp (n + 1 ≤ 64 ^ i * 256)) (b0 : 0 ≤ c) (b1 : c ≤ 255) :
    wrap64 ((wrap64 (64 * n)) + (wrap64 (Int.tmod c 64))) = 64 * n + c % 64 ∧ 0 ≤ 64 * n + c % 64 ∧ Kp (64 * n + c % 64 + 1 ≤ 64 ^ (i + 1) * 256) := by
  have hp2 : (64 : Int) ^ (i + 1) = 64 ^ i * 64 := Int.pow_succ _ _
  have hp : (64 : Int) ^ i * 256 ≤ 4294967296 := by
    have : i = 1 ∨ i = 2 ∨ i = 3 := by omega
    rcases this with rfl | rfl | rfl <;> decide
  have t1 : Int.tmod c 64 = c % 64 := Int.tmod_eq_emod_of_nonneg b0
  unfold Kp at hn ⊢
  rw [hp2, t1]
  generalize (64 : Int) ^ i = P at hn hp
  unfold wrap64
  omega
theorem first_l0 (l : List Int) (hB : isBy l = true) (hl : l.length ≤ 1099511627776) (m : Nat) (hm : m ≤ 4) (k : Nat) : ∀ (d i : Nat) (n : Int), i + d = m → 1 ≤ i → 0 ≤ n → Kp (n + 1 ≤ 64 ^ i * 256) →
 signetryref02_first.l0 (d + 2 + k) l (m : Int) n (i : Int) = some (if isRn (fold64 n ((l.drop i).take d)) = true ∧ m ≤ l.length ∧ encodeRuneZ (fold64 n ((l.drop i).take d)) = l.take m then (fold64 n ((l.drop i).take d), (m : Int)) else (0, 0))
 | 0, i, n, hi, h1, h0, hn => by
  have hk : 0 + 2 + k = (k + 1) + 1 := by omega
  have hlt : ¬ (i : Int) < (m : Int) := by omega
  rw [hk, signetryref02_first.l0, if_neg hlt, first_j2 l hB, List.take_zero]
  rfl
 | d + 1, i, n, hi, h1, h0, hn => by
  rw [show d + 1 + 2 + k = (d + 2 + k) + 1 by omega, signetryref02_first.l0, if_pos (by omega)]
  rcases hu : l.drop i with _ | ⟨c, u⟩
  ·have := List.drop_eq_nil_iff.1 hu
   rw [if_neg (by omega), show d + 2 + k = (d + 1 + k) + 1 by omega, first_j2 l hB]
   simp [fold64]
  ·obtain ⟨e1, e2, e3⟩ := rd_drop hu
   obtain ⟨b0, b1⟩ := isBy_mem (isBy_drop hB i) (show c ∈ l.drop i by rw [hu]; simp)
   obtain ⟨s1, s2, s3⟩ := first_step (m := m) (by omega) h1 h0 hn b0 b1
   have g1 : (i : Int) < (l.length : Int) := by omega
   have g2 : (0 : Int) ≤ (i : Int) := by omega
   have g3 : i + 1 + d = m := by omega
   have ih := first_l0 l hB hl m hm k d (i + 1) (64 * n + c % 64) g3 (Nat.le_add_left _ _) s2 s3
   rw [if_pos g1, if_pos g2, e1, s1, w_one (by omega), ih, e2]
   rfl
theorem rfirst {l : List Int} {k : Nat} (hB : isBy l = true) (hl : l.length ≤ 1099511627776) (hne : l ≠ []) (hk : 10 ≤ k) : signetryref02_first.f k l = some (fst8 l) := by
 obtain ⟨c, u, rfl⟩ : ∃ c u, l = c :: u := by
  rcases l with _ | ⟨c, u⟩
  ·exact absurd rfl hne
  ·exact ⟨c, u, rfl⟩
 obtain ⟨b0, b1⟩ := isBy_mem hB (show c ∈ c :: u by simp)
 have hrd : rd (c :: u) 0 = c := rfl
 have go : ∀ (m : Nat) (n : Int), 1 ≤ m → m ≤ 4 → 0 ≤ n → n ≤ 255 → signetryref02_first.j0 k (c :: u) (m : Int) n = some (if isRn (fold64 n (u.take (m - 1))) = true ∧ m ≤ (c :: u).length ∧ encodeRuneZ (fold64 n (u.take (m - 1))) = (c :: u).take m then (fold64 n (u.take (m - 1)), (m : Int)) else (0, 0)) := by
  intro m n h1 h4 h0 h255
  obtain ⟨q, rfl⟩ : ∃ q, k = q + 1 := ⟨k - 1, by omega⟩
  have := first_l0 (c :: u) hB hl m h4 (q - (m - 1 + 2)) (m - 1) 1 n (by omega) (Nat.le_refl _) h0 (by unfold Kp; omega)
  rw [show m - 1 + 2 + (q - (m - 1 + 2)) = q by omega] at this
  rw [signetryref02_first.j0]
  exact this
 unfold signetryref02_first.f fst8 lead lnum
 rw [if_pos (by simp only [List.length_cons]; omega), hrd, List.getD_cons_zero, List.drop_succ_cons, List.drop_zero]
 rw [Int.tmod_eq_emod_of_nonneg b0, Int.tmod_eq_emod_of_nonneg b0, Int.tmod_eq_emod_of_nonneg b0, w64 (x := c % 8) (by omega) (by omega), w64 (x := c % 16) (by omega) (by omega), w64 (x := c % 32) (by omega) (by omega), w64 (x := c) (by omega) (by omega)]
 by_cases c1 : c ≥ 240
 case pos =>
  rw [if_pos c1, if_pos (show 240 ≤ c from c1), if_pos (show 240 ≤ c from c1)]
  exact go 4 (c % 8) (by decide) (by decide) (by omega) (by omega)
 rw [if_neg c1, if_neg (show ¬ 240 ≤ c from c1), if_neg (show ¬ 240 ≤ c from c1)]
 by_cases c2 : c ≥ 224
 case pos =>
  rw [if_pos c2, if_pos (show 224 ≤ c from c2), if_pos (show 224 ≤ c from c2)]
  exact go 3 (c % 16) (by decide) (by decide) (by omega) (by omega)
 rw [if_neg c2, if_neg (show ¬ 224 ≤ c from c2), if_neg (show ¬ 224 ≤ c from c2)]
 by_cases c3 : c ≥ 192
 case neg =>
  rw [if_neg c3, if_neg (show ¬ 192 ≤ c from c3), if_neg (show ¬ 192 ≤ c from c3)]
  exact go 1 c (by decide) (by decide) b0 b1
 rw [if_pos c3, if_pos (show 192 ≤ c from c3), if_pos (show 192 ≤ c from c3)]
 exact go 2 (c % 32) (by decide) (by decide) (by omega) (by omega)
theorem fst8_enc {r : Int} (h : isRn r = true) (rest : List Int) : fst8 (encodeRuneZ r ++ rest) = (r, ((encodeRuneZ r).length : Int)) := by
 have hr := isRn_of h
 have fin : ∀ (e : List Int) (m : Nat), encodeRuneZ r = e → lead ((e ++ rest).getD 0 0) = m → e.length = m → fold64 (lnum ((e ++ rest).getD 0 0)) (((e ++ rest).drop 1).take (m - 1)) = r → fst8 (encodeRuneZ r ++ rest) = (r, ((encodeRuneZ r).length : Int)) := by
  intro e m he h1 h2 h3
  unfold fst8
  rw [he, h1, h3, he, if_pos ⟨h, by rw [List.length_append]; omega, by rw [← h2, List.take_left]⟩, h2]
 by_cases c1 : r ≤ 127
 case pos =>
  refine fin [r] 1 (encodeRuneZ_one (by omega) c1) ?_ rfl ?_
  ·unfold lead; simp only [List.cons_append, List.getD_cons_zero]; rw [if_neg (by omega), if_neg (by omega), if_neg (by omega)]
  ·unfold lnum; simp only [List.cons_append, List.getD_cons_zero]; rw [if_neg (by omega), if_neg (by omega), if_neg (by omega)]; simp [fold64]
 by_cases c2 : r ≤ 2047
 case pos =>
  refine fin [192 + r / 64, 128 + r % 64] 2 (encodeRuneZ_two (by omega) c2) ?_ rfl ?_
  ·unfold lead; simp only [List.cons_append, List.getD_cons_zero]; rw [if_neg (by omega), if_neg (by omega), if_pos (by omega)]
  ·unfold lnum; simp only [List.cons_append, List.getD_cons_zero, List.drop_succ_cons, List.drop_zero]; rw [if_neg (by omega), if_neg (by omega), if_pos (by omega)]; simp only [fold64, Nat.reduceSub, List.take_succ_cons, List.take_zero, List.foldl_cons, List.foldl_nil]; omega
 by_cases c3 : r ≤ 65535
 case neg =>
  refine fin [240 + r / 262144, 128 + r / 4096 % 64, 128 + r / 64 % 64, 128 + r % 64] 4 (encodeRuneZ_four (by omega) (by omega)) ?_ rfl ?_
  ·unfold lead; simp only [List.cons_append, List.getD_cons_zero]; rw [if_pos (by omega)]
  ·unfold lnum; simp only [List.cons_append, List.getD_cons_zero, List.drop_succ_cons, List.drop_zero]; rw [if_pos (by omega)]; simp only [fold64, Nat.reduceSub, List.take_succ_cons, List.take_zero, List.foldl_cons, List.foldl_nil]; omega
 refine fin [224 + r / 4096, 128 + r / 64 % 64, 128 + r % 64] 3 (encodeRuneZ_three (by omega)) ?_ rfl ?_
 ·unfold lead; simp only [List.cons_append, List.getD_cons_zero]; rw [if_neg (by omega), if_pos (by omega)]
 ·unfold lnum; simp only [List.cons_append, List.getD_cons_zero, List.drop_succ_cons, List.drop_zero]; rw [if_neg (by omega), if_pos (by omega)]; simp only [fold64, Nat.reduceSub, List.take_succ_cons, List.take_zero, List.foldl_cons, List.foldl_nil]; omega
theorem fst8_bad {l : List Int} (h : isBad l) : fst8 l = (0, 0) := by
  unfold fst8
  refine if_neg fun hh => ?_
  obtain ⟨h1, h2, h3⟩ := hh
  have e := (enc_good h1 (l.drop (lead (l.getD 0 0)))).1
  rw [h3, List.take_append_drop] at e
  exact e h

theorem rRunes_loop (l : List Int) (hB : isBy l = true) (hl : l.length ≤ 1000) : ∀ (f : Nat) (u : List Int) (p k : Nat) (acc : List Int), l.drop p = u → u.length < f → acc.length ≤ p → p ≤ l.length → f + 10 ≤ k → signetryref02_Runes.l0 k l acc (p : Int) = some (rnsL f (u8s u) p acc)
 | 0, u, p, k, acc, hu, hf, ha, hp, hk => by omega
 | f + 1, u, p, k, acc, hu, hf, ha, hp, hk => by
  obtain ⟨q, rfl⟩ : ∃ q, k = q + 1 := ⟨k - 1, by omega⟩
  have hul : u.length = l.length - p := by rw [← hu, List.length_drop]
  have hBu : isBy u = true := by rw [← hu]; exact isBy_drop hB p
  rw [signetryref02_Runes.l0, rnsL]
  by_cases hn : u = []
  case pos =>
   have h0 : u8s u = [] := by rw [hn]; rfl
   rw [if_neg (by rw [hn] at hul; simp at hul; omega), if_pos h0]
  have h0 : u8s u ≠ [] := fun e => hn (List.eq_nil_of_length_eq_zero (by rw [← u8s_len, e]; rfl))
  have hpos : 1 ≤ u.length := List.length_pos_iff.2 hn
  rw [if_pos (by omega), if_pos (by omega), if_pos (by omega), Int.toNat_natCast, hu, rfirst hBu (by omega) hn (by omega), Option.bind_some, if_neg h0]
  by_cases hb : isBad u
  case pos =>
   have hb2 := hb
   unfold isBad at hb2
   rw [fst8_bad hb, if_pos rfl, if_pos hb2]
  obtain ⟨r, rest, h1, h2, h3⟩ := dec_ok hBu hn hb
  have hb2 := hb
  unfold isBad at hb2
  have hr := isRn_of h1
  have hlen := encodeRuneZ_length r
  have hul2 : u.length = (encodeRuneZ r).length + rest.length := by rw [h2, List.length_append]
  have hf8 : fst8 u = (r, ((encodeRuneZ r).length : Int)) := by rw [h2]; exact fst8_enc h1 rest
  have hdr : (u8s u).drop (encodeRuneZ r).length = u8s rest := by rw [h2, u8s_append, enc_drop]
  have hdr2 : l.drop (p + (encodeRuneZ r).length) = rest := by rw [← List.drop_drop, hu, h2, List.drop_left]
  have hz : ¬ ((encodeRuneZ r).length : Int) = 0 := by omega
  have ha2 : acc.length < 17592186044416 := by omega
  rw [hf8, if_neg hz, if_pos ha2, if_neg hb2, h3]
  simp only
  rw [w_nat (by omega), show ((r.toNat : Nat) : Int) = r by omega, hdr]
  exact rRunes_loop l hB hl f rest _ q _ hdr2 (by omega) (by rw [List.length_append]; simp; omega) (by omega) (by omega)
theorem rRunes {l : List Int} {k : Nat} (hB : isBy l = true) (hl : l.length ≤ 1000) (hk : l.length + 11 ≤ k) : signetryref02_Runes.f k l = some (rnsL (l.length + 1) (u8s l) 0 []) := by
  unfold signetryref02_Runes.f
  exact rRunes_loop l hB hl (l.length + 1) l 0 k [] rfl (by omega) (by simp) (by omega) (by omega)
theorem rns_like : ∀ (f : Nat) (u : List Int) (p : Nat) (acc : List Int), isBy u = true → u.length < f →
 (validD (u8s u) = true ∧ ∃ rs, (∀ r ∈ rs, isRn r = true) ∧ rs.length ≤ u.length ∧ u = encs8 rs ∧ rnsL f (u8s u) p acc = (acc ++ rs, 0, 0)) ∨
 (validD (u8s u) = false ∧ ∃ (a : Nat), a < u.length ∧ rnsL f (u8s u) p acc = ([], ((p + a : Nat) : Int), 20) ∧ isBad (u.drop a) ∧ ∃ rs, (∀ r ∈ rs, isRn r = true) ∧ rs.length ≤ a ∧ u.take a = encs8 rs)
 | 0, u, p, acc, hB, hf => by omega
 | f + 1, u, p, acc, hB, hf => by
  rw [rnsL]
  by_cases hn : u = []
  case pos =>
   left
   subst hn
   exact ⟨rfl, [], by simp, Nat.le_refl _, rfl, by simp [u8s]⟩
  have h0 : u8s u ≠ [] := fun e => hn (List.eq_nil_of_length_eq_zero (by rw [← u8s_len, e]; rfl))
  have hpos : 1 ≤ u.length := List.length_pos_iff.2 hn
  rw [if_neg h0, validD_step _ h0]
  by_cases hb : isBad u
  case pos =>
   have hb2 := hb
   unfold isBad at hb2
   right
   rw [if_pos hb2, if_pos hb2]
   exact ⟨rfl, 0, by omega, rfl, hb, [], by simp, Nat.le_refl _, rfl⟩
  obtain ⟨r, rest, h1, h2, h3⟩ := dec_ok hB hn hb
  have hb2 := hb
  unfold isBad at hb2
  have hr := isRn_of h1
  have hlen := encodeRuneZ_length r
  have hul2 : u.length = (encodeRuneZ r).length + rest.length := by rw [h2, List.length_append]
  have hdr : (u8s u).drop (encodeRuneZ r).length = u8s rest := by rw [h2, u8s_append, enc_drop]
  have hBr : isBy rest = true := by
   have := isBy_drop hB (encodeRuneZ r).length
   rwa [h2, List.drop_left] at this
  rw [if_neg hb2, if_neg hb2, h3]
  simp only
  rw [show ((r.toNat : Nat) : Int) = r by omega, hdr]
  rcases rns_like f rest (p + (encodeRuneZ r).length) (acc ++ [r]) hBr (by omega) with ⟨v, rs, g1, g2, g3, g4⟩ | ⟨v, a, g1, g2, g3, rs, g4, g5, g6⟩
  ·left
   refine ⟨v, r :: rs, ?_, by simp; omega, ?_, ?_⟩
   ·intro x hx
    rcases List.mem_cons.1 hx with rfl | hx
    ·exact h1
    ·exact g1 x hx
   ·rw [h2, g3]; rfl
   ·rw [g4]; simp
  ·right
   refine ⟨v, (encodeRuneZ r).length + a, by omega, ?_, ?_, r :: rs, ?_, by simp; omega, ?_⟩
   ·rw [g2, Nat.add_assoc]
   ·rw [h2, ← List.drop_drop, List.drop_left]; exact g3
   ·intro x hx
    rcases List.mem_cons.1 hx with rfl | hx
    ·exact h1
    ·exact g4 x hx
   ·rw [h2, List.take_length_add_append, g6]; rfl
/-- Valid. -/
theorem rvalid {l : List Int} (hB : isBy l = true) (hl : l.length ≤ 1000) {k : Nat} (hk : l.length + 11 ≤ k) : signetryref02_Valid.f k l = some (validD (u8s l)) := by
 unfold signetryref02_Valid.f
 rw [rRunes hB hl hk, Option.bind_some]
 rcases rns_like (l.length + 1) l 0 [] hB (by omega) with ⟨v, rs, g1, g2, g3, g4⟩ | ⟨v, a, g1, g2, g3, g4⟩
 ·rw [g4, v]
  rfl
 ·rw [g2, v]
  rfl
end Go.Proofs.YtodnggilomanbaaGreatDoor.Pure
end
section
namespace Go.Proofs.YtodnggilomanbaaGreatDoor.Pure
open Go.RowKit Go.Lib Go.Proofs.YtodnggilomanbaaGreatDoor.PAll Go.Proofs.YtodnggilomanbaaGreatDoorW.PrintWords Go.Proofs.YtodnggilomanbaaGreatDoorW.PrintLast Go.Proofs.YtodnggilomanbaaGreatDoorW.PrintMore Go.Proofs.YtodnggilomanbaaGreatDoor.Hand
set_option linter.unusedVariables false
set_option linter.unusedSimpArgs false

theorem dropb {s : ByteArray} {i : Nat} (h : i < s.size) : (bytesOf s).drop i = bt s (i : Int) :: (bytesOf s).drop (i + 1) := by
  have := drop_bt s (y := (i : Int)) (by omega) (by omega)
  rwa [Int.toNat_natCast] at this
theorem drop_out {s : ByteArray} {i : Nat} (h : s.size ≤ i) : (bytesOf s).drop i = [] := by rw [List.drop_eq_nil_iff, bytesOf_length]; exact h
/-! ### end -/
theorem rend (s : ByteArray) (hs : s.size ≤ 1073741824) : ∀ (k i : Nat), i ≤ s.size + 1 → s.size + 1 - i < k → signetryref14_end.l0 k s (i : Int) = some (if i + scanE ((bytesOf s).drop i) < s.size then (((i + scanE ((bytesOf s).drop i) : Nat) : Int), true) else (0, false))
 | 0, i, _, h => by omega
 | k + 1, i, hi, hk => by
  rw [signetryref14_end.l0]
  by_cases hx : i < s.size
  case neg =>
   rw [if_neg (by omega), drop_out (by omega), if_neg (by simp [scanE]; omega)]
  have hd := dropb hx
  rw [if_pos (by omega), if_pos (by omega), hd, scanE_at]
  by_cases c1 : bt s (i : Int) = 34
  case pos =>
   rw [if_pos c1, if_pos c1, if_pos (by omega)]
   rfl
  rw [if_neg c1, if_neg c1]
  by_cases c2 : bt s (i : Int) = 92
  case neg =>
   rw [if_neg c2, if_neg c2, w64 (by omega) (by omega)]
   have := rend s hs k (i + 1) (by omega) (by omega)
   rw [show ((i : Int) + 1) = ((i + 1 : Nat) : Int) by omega, this, show i + (1 + scanE ((bytesOf s).drop (i + 1))) = i + 1 + scanE ((bytesOf s).drop (i + 1)) by omega]
  rw [if_pos c2, if_pos c2, w64 (x := (i : Int) + 1) (by omega) (by omega), w64 (by omega) (by omega), List.drop_drop]
  have := rend s hs k (i + 2) (by omega) (by omega)
  rw [show ((i : Int) + 1 + 1) = ((i + 2 : Nat) : Int) by omega, this, show i + 1 + 1 = i + 2 from rfl, show i + (2 + scanE ((bytesOf s).drop (i + 2))) = i + 2 + scanE ((bytesOf s).drop (i + 2)) by omega]
/-! ### half -/
def lowT : ByteArray := ⟨#[48, 49, 50, 51, 52, 53, 54, 55, 56, 57, 97, 98, 99, 100, 101, 102]⟩
def upT : ByteArray := ⟨#[48, 49, 50, 51, 52, 53, 54, 55, 56, 57, 65, 66, 67, 68, 69, 70]⟩
def loopD : Nat → Int → Int → Int → Int
  | 0, _, _, k => k
  | n + 1, c, d, k => loopD n c (d + 1) (if c = bt lowT d then d else if c = bt upT d then d else k)
theorem loopD_tab : ∀ c : Fin 256, loopD 16 (c.val : Int) 0 (-1) = if dig (c.val : Int) = true then hx1 (lowc (c.val : Int)) else -1 := by decide +kernel
theorem loopD_at {c : Int} (h0 : 0 ≤ c) (h1 : c ≤ 255) : loopD 16 c 0 (-1) = if dig c = true then hx1 (lowc c) else -1 := by
  have := loopD_tab ⟨c.toNat, by omega⟩
  simp only at this
  rwa [show ((c.toNat : Nat) : Int) = c from Int.toNat_of_nonneg h0] at this
theorem dig_hx {c : Int} (h : dig c = true) : 0 ≤ hx1 (lowc c) ∧ hx1 (lowc c) ≤ 15 := by
 unfold dig at h
 rcases hx1_is (c := lowc c) with ⟨_, h1, h2⟩ | ⟨h1, _⟩
 ·exact ⟨h1, h2⟩
 ·rw [h1] at h
  cases h
theorem rhalf_in (s : ByteArray) (at_ acc : Int) (i p : Nat) (hp : at_ + (i : Int) = (p : Int)) (hps : p < s.size) (hs : s.size ≤ 1073741824) : ∀ (n : Nat) (d k : Int) (K : Nat), d + n = 16 → 0 ≤ d → signetryref14_half.l1 (K + n) s at_ acc (i : Int) k d = signetryref14_half.l1 K s at_ acc (i : Int) (loopD n (bt s (p : Int)) d k) 16
 | 0, d, k, K, hd, h0 => by
  obtain rfl : d = 16 := by omega
  rfl
 | n + 1, d, k, K, hd, h0 => by
  rw [show K + (n + 1) = K + n + 1 by omega, signetryref14_half.l1, hp, w64 (by omega) (by omega), if_pos (by omega), if_pos (by omega), if_pos (by omega), if_pos h0, w64 (x := d + 1) (by omega) (by omega), loopD]
  show (if bt s (p : Int) = bt lowT d then _ else if bt s (p : Int) = bt upT d then _ else _) = _
  by_cases c1 : bt s (p : Int) = bt lowT d
  case pos =>
   rw [if_pos c1, if_pos c1]
   exact rhalf_in s at_ acc i p hp hps hs n (d + 1) d K (by omega) (by omega)
  rw [if_neg c1, if_neg c1]
  by_cases c2 : bt s (p : Int) = bt upT d
  case neg =>
   rw [if_neg c2, if_neg c2]
   exact rhalf_in s at_ acc i p hp hps hs n (d + 1) k K (by omega) (by omega)
  rw [if_pos c2, if_pos c2]
  exact rhalf_in s at_ acc i p hp hps hs n (d + 1) d K (by omega) (by omega)
def hw : List Int → Nat → Int → Int
  | _, 0, acc => acc
  | [], _ + 1, _ => -1
  | c :: L, n + 1, acc => if dig c = true then hw L n (16 * acc + hx1 (lowc c)) else -1
theorem rhalf_out (s : ByteArray) (hs : s.size ≤ 1073741824) (at_ : Nat) : ∀ (n i : Nat) (acc : Int) (K : Nat), i + n = 4 → 0 ≤ acc → acc + 1 ≤ 16 ^ i → at_ + i ≤ s.size → signetryref14_half.l0 (K + 18 * n + 1) s (at_ : Int) acc (i : Int) = some (hw ((bytesOf s).drop (at_ + i)) n acc)
 | 0, i, acc, K, hi, h0, h1, hp => by
  obtain rfl : i = 4 := by omega
  rw [show K + 18 * 0 + 1 = K + 1 by omega, signetryref14_half.l0, if_neg (by omega)]
  cases (bytesOf s).drop (at_ + 4) <;> rfl
 | n + 1, i, acc, K, hi, h0, h1, hp => by
  have hpow : (16 : Int) ^ i ≤ 4096 := by
   have : i = 0 ∨ i = 1 ∨ i = 2 ∨ i = 3 := by omega
   rcases this with rfl | rfl | rfl | rfl <;> decide
  have hpow2 : (16 : Int) ^ (i + 1) = 16 * 16 ^ i := by rw [Int.pow_succ]; omega
  rw [show K + 18 * (n + 1) + 1 = (K + 18 * n + 1 + 16 + 1) + 1 by omega, signetryref14_half.l0, if_pos (by omega)]
  rw [show ((at_ : Int) + (i : Int)) = ((at_ + i : Nat) : Int) by omega, w64 (by omega) (by omega)]
  by_cases hx : at_ + i < s.size
  case neg =>
   rw [if_pos (by omega), drop_out (by omega)]
   rfl
  rw [if_neg (by omega), dropb hx, show (K + 18 * n + 1 + 16 + 1) = (K + 18 * n + 1 + 1) + 16 by omega, rhalf_in s (at_ : Int) acc i (at_ + i) (by omega) hx hs 16 0 (-1) (K + 18 * n + 1 + 1) (by omega) (by omega), signetryref14_half.l1, if_neg (by omega)]
  have hb := bt_range s ((at_ + i : Nat) : Int)
  rw [loopD_at hb.1 hb.2, hw]
  by_cases hd : dig (bt s ((at_ + i : Nat) : Int)) = true
  case neg =>
   rw [if_neg hd, if_pos (by omega), if_neg hd]
  have hh := dig_hx hd
  rw [if_pos hd, if_neg (by omega), if_pos hd, w64 (x := 16 * acc) (by omega) (by omega), w64 (by omega) (by omega), w64 (by omega) (by omega)]
  have := rhalf_out s hs at_ n (i + 1) (16 * acc + hx1 (lowc (bt s ((at_ + i : Nat) : Int)))) K (by omega) (by omega) (by omega) (by omega)
  rw [show ((i : Int) + 1) = ((i + 1 : Nat) : Int) by omega, this]
  rfl
theorem hw_half {t : ByteArray} {L : List Int} (h : bytesOf t = L) : halfF t = hw L 4 0 := by
 have hz := size_of h
 rcases L with _ | ⟨a, _ | ⟨b, _ | ⟨c, _ | ⟨d, r⟩⟩⟩⟩
 ·unfold halfF
  rw [if_pos (by rw [hz]; decide)]
  rfl
 ·unfold halfF
  rw [if_pos (by rw [hz]; simp)]
  simp [hw]
 ·unfold halfF
  rw [if_pos (by rw [hz]; simp)]
  simp [hw]
 ·unfold halfF
  rw [if_pos (by rw [hz]; simp)]
  simp [hw]
 ·rw [half_at h]
  unfold hv4 hfold
  simp only [hw, List.all_cons, List.all_nil, Bool.and_true, List.map_cons, List.map_nil, List.foldl_cons, List.foldl_nil]
  show (if (dig a && (dig b && (dig c && dig d))) = true then _ else _) = _
  by_cases h1 : dig a = true
  case neg =>
   rw [if_neg (by simp [h1]), if_neg h1]
  by_cases h2 : dig b = true
  case neg =>
   rw [if_neg (by simp [h2]), if_pos h1, if_neg h2]
  by_cases h3 : dig c = true
  case neg =>
   rw [if_neg (by simp [h3]), if_pos h1, if_pos h2, if_neg h3]
  by_cases h4 : dig d = true
  case neg =>
   rw [if_neg (by simp [h4]), if_pos h1, if_pos h2, if_pos h3, if_neg h4]
  rw [if_pos (by rw [h1, h2, h3, h4]; rfl), if_pos h1, if_pos h2, if_pos h3, if_pos h4]
  omega
theorem half_bd (t : ByteArray) : -1 ≤ halfF t ∧ halfF t ≤ 65535 := by
 rw [hw_half (t := t) rfl]
 rcases bytesOf t with _ | ⟨a, _ | ⟨b, _ | ⟨c, _ | ⟨d, r⟩⟩⟩⟩
 ·exact ⟨Int.le_refl _, by decide⟩
 ·simp only [hw]
  split <;> exact ⟨Int.le_refl _, by decide⟩
 ·simp only [hw]
  repeat' split
  all_goals exact ⟨Int.le_refl _, by decide⟩
 ·simp only [hw]
  repeat' split
  all_goals exact ⟨Int.le_refl _, by decide⟩
 ·simp only [hw]
  split
  ·rename_i h1
   have := dig_hx h1
   split
   ·rename_i h2
    have := dig_hx h2
    split
    ·rename_i h3
     have := dig_hx h3
     split
     ·rename_i h4
      have := dig_hx h4
      omega
     ·exact ⟨Int.le_refl _, by decide⟩
    ·exact ⟨Int.le_refl _, by decide⟩
   ·exact ⟨Int.le_refl _, by decide⟩
  ·exact ⟨Int.le_refl _, by decide⟩
theorem half_digs {t : ByteArray} (h : 0 ≤ halfF t) : ∃ a b c d r, bytesOf t = a :: b :: c :: d :: r ∧ dig a = true ∧ dig b = true ∧ dig c = true ∧ dig d = true := by
 rw [hw_half (t := t) rfl] at h
 rcases hL : bytesOf t with _ | ⟨a, _ | ⟨b, _ | ⟨c, _ | ⟨d, r⟩⟩⟩⟩ <;> rw [hL] at h <;> simp only [hw] at h
 ·exact absurd h (by decide)
 ·split at h <;> exact absurd h (by decide)
 ·repeat' split at h
  all_goals exact absurd h (by decide)
 ·repeat' split at h
  all_goals exact absurd h (by decide)
 ·split at h
  ·rename_i h1
   split at h
   ·rename_i h2
    split at h
    ·rename_i h3
     split at h
     ·rename_i h4
      exact ⟨a, b, c, d, r, rfl, h1, h2, h3, h4⟩
     ·exact absurd h (by decide)
    ·exact absurd h (by decide)
   ·exact absurd h (by decide)
  ·exact absurd h (by decide)
theorem rhalf {s : ByteArray} (hs : s.size ≤ 1073741824) {p : Nat} (hp : p ≤ s.size) {k : Nat} (hk : 73 ≤ k) : signetryref14_half.f k s (p : Int) = some (halfF (s.extract p s.size)) := by
  obtain ⟨K, rfl⟩ : ∃ K, k = K + 18 * 4 + 1 := ⟨k - 73, by omega⟩
  unfold signetryref14_half.f
  have := rhalf_out s hs p 4 0 0 K rfl (Int.le_refl _) (by decide) (by omega)
  rw [show ((0 : Nat) : Int) = 0 from rfl] at this
  rw [this, hw_half (bytes_ext s p), Nat.add_zero]
/-! ### escape -/
def escT : ByteArray := ⟨#[34, 92, 47, 98, 102, 110, 114, 116]⟩
def escO : List Int := [34, 92, 47, 8, 12, 10, 13, 9]
theorem resc_step (s : ByteArray) (p : Nat) (hp : p < s.size) (j : Nat) (hj : j < 8) (K : Nat) : signetryref14_escape.l0 (K + 1) s (p : Int) (j : Int) = if bt s (p : Int) = bt escT (j : Int) then some ([rd escO (j : Int)], 1) else signetryref14_escape.l0 K s (p : Int) ((j + 1 : Nat) : Int) := by
  rw [signetryref14_escape.l0, if_pos (by omega), if_pos (by omega), if_pos (by omega), if_pos (by omega), w64 (by omega) (by omega), Option.bind_some, if_pos (show (j : Int) < (([34, 92, 47, 8, 12, 10, 13, 9] : List Int).length : Int) by simp; omega)]
  rfl
theorem resc_tab {s : ByteArray} {p : Nat} (hp : p < s.size) (K : Nat) : signetryref14_escape.l0 (K + 8) s (p : Int) 0 = if escH (bt s (p : Int)) = true then some ([escV (bt s (p : Int))], 1) else signetryref14_escape.l0 K s (p : Int) 8 := by
 have h0 := resc_step s p hp 0 (by decide) (K + 7)
 have h1 := resc_step s p hp 1 (by decide) (K + 6)
 have h2 := resc_step s p hp 2 (by decide) (K + 5)
 have h3 := resc_step s p hp 3 (by decide) (K + 4)
 have h4 := resc_step s p hp 4 (by decide) (K + 3)
 have h5 := resc_step s p hp 5 (by decide) (K + 2)
 have h6 := resc_step s p hp 6 (by decide) (K + 1)
 have h7 := resc_step s p hp 7 (by decide) K
 have e : signetryref14_escape.l0 (K + 8) s (p : Int) 0 = if bt s (p : Int) = 34 then some ([34], 1) else if bt s (p : Int) = 92 then some ([92], 1) else if bt s (p : Int) = 47 then some ([47], 1) else if bt s (p : Int) = 98 then some ([8], 1) else if bt s (p : Int) = 102 then some ([12], 1) else if bt s (p : Int) = 110 then some ([10], 1) else if bt s (p : Int) = 114 then some ([13], 1) else if bt s (p : Int) = 116 then some ([9], 1) else signetryref14_escape.l0 K s (p : Int) 8 :=
  h0.trans (by
   rw [h1, h2, h3, h4, h5, h6, h7]
   rfl)
 rw [e]
 generalize bt s (p : Int) = c
 unfold escH escV
 by_cases c1 : c = 34
 ·simp [c1]
 by_cases c2 : c = 92
 ·simp [c2]
 by_cases c3 : c = 47
 ·simp [c3]
 by_cases c4 : c = 98
 ·simp [c4]
 by_cases c5 : c = 102
 ·simp [c5]
 by_cases c6 : c = 110
 ·simp [c6]
 by_cases c7 : c = 114
 ·simp [c7]
 by_cases c8 : c = 116
 ·simp [c8]
 simp [c1, c2, c3, c4, c5, c6, c7, c8]
end Go.Proofs.YtodnggilomanbaaGreatDoor.Pure
end
section
namespace Go.Proofs.YtodnggilomanbaaGreatDoor.Pure
open Go.RowKit Go.Lib Go.Proofs.YtodnggilomanbaaGreatDoor.PAll Go.Proofs.YtodnggilomanbaaGreatDoorW.PrintWords Go.Proofs.YtodnggilomanbaaGreatDoorW.PrintLast Go.Proofs.YtodnggilomanbaaGreatDoorW.PrintMore Go.Proofs.YtodnggilomanbaaGreatDoor.Hand
set_option linter.unusedVariables false
set_option linter.unusedSimpArgs false

theorem bytes_eq {a b : ByteArray} (h : bytesOf a = bytesOf b) : a = b := by
  have h1 : bytesOf a = bytesOf b := h
  have e : ∀ s : ByteArray, strOfNums (bytesOf s) = s := fun s => by
    apply ByteArray.ext
    apply Array.toList_inj.1
    show u8s (bytesOf s) = s.data.toList
    unfold u8s bytesOf
    rw [List.map_map]
    have : (fun b : UInt8 => ((fun n : Int => UInt8.ofNat n.toNat) ∘ fun b : UInt8 => (b.toNat : Int)) b) = id := by
      funext b
      simp
    conv => rhs; rw [← List.map_id s.data.toList]
    apply List.map_congr_left
    intro b _
    simp [Function.comp]
  rw [← e a, h, e b]
theorem ext_ext (u : ByteArray) (p j : Nat) : (u.extract p u.size).extract j (u.extract p u.size).size = u.extract (p + j) u.size := bytes_eq (by rw [bytes_ext, bytes_ext, bytes_ext, List.drop_drop])
theorem bt_ext0 {u : ByteArray} {p : Nat} (h : p < u.size) : bt (u.extract p u.size) 0 = bt u (p : Int) := bt_head (by rw [bytes_ext, dropb h])
theorem isU_iff {t : ByteArray} : isU t = true ↔ ∃ r, bytesOf t = 92 :: 117 :: r := by
 constructor
 ·intro h
  unfold isU Lib.hasPrefix at h
  unfold bytesOf
  rcases hL : t.data.toList with _ | ⟨a, _ | ⟨b, r⟩⟩ <;> rw [hL] at h
  ·cases h
  ·simp [List.isPrefixOf] at h
  ·simp only [List.isPrefixOf, Bool.and_eq_true, beq_iff_eq, and_true] at h
   obtain ⟨rfl, rfl⟩ := h
   exact ⟨_, rfl⟩
 ·rintro ⟨r, h⟩
  exact isU_at h
/-- What stands behind a \ at p, of many bytes, is read as b. -/
structure EscAt (u : ByteArray) (p : Nat) (b : List Int) (many : Nat) : Prop where
  sp : spell (u.extract p u.size) = (b, u.extract (p + many) u.size, true)
  le : p + many ≤ u.size
  ge : 1 ≤ many
  sc : ∀ tail, scanE (92 :: ((bytesOf u).drop p ++ tail)) = 1 + many + scanE ((bytesOf u).drop (p + many) ++ tail)
  sh : b.length ≤ many ∧ isBy b = true
theorem rune_by (r : Int) : (encodeRuneZ r).length ≤ 4 ∧ isBy (encodeRuneZ r) = true := by
  refine ⟨(encodeRuneZ_length r).2, ?_⟩
  unfold isBy
  refine List.all_eq_true.2 fun x hx => ?_
  have := encodeRuneZ_byte r x hx
  simp only [Bool.and_eq_true, decide_eq_true_eq]
  omega
theorem scan_u {a b c d : Int} (hd : dig a = true ∧ dig b = true ∧ dig c = true ∧ dig d = true) (r : List Int) : scanE (92 :: 117 :: a :: b :: c :: d :: r) = 6 + scanE r := by
  rw [scanE_at, if_neg (by decide), if_pos rfl]
  show 2 + scanE (a :: b :: c :: d :: r) = _
  rw [scan_dig _ _ hd.1, scan_dig _ _ hd.2.1, scan_dig _ _ hd.2.2.1, scan_dig _ _ hd.2.2.2]
  omega
theorem rescape (u : ByteArray) (hu : u.size ≤ 1073741824) (p : Nat) (hp : p < u.size) :
 (∃ b many, (∀ k, 200 ≤ k → signetryref14_escape.f k u (p : Int) = some (b, ((many : Nat) : Int))) ∧ EscAt u p b many) ∨ ((∀ k, 200 ≤ k → signetryref14_escape.f k u (p : Int) = some ([], 0)) ∧ (spell (u.extract p u.size)).2.2 = false) := by
 have hf : ∀ K, signetryref14_escape.f (K + 8) u (p : Int) = if escH (bt u (p : Int)) = true then some ([escV (bt u (p : Int))], 1) else signetryref14_escape.l0 K u (p : Int) 8 := fun K => resc_tab hp K
 have hdp := dropb hp
 by_cases hE : escH (bt u (p : Int)) = true
 case pos =>
  left
  refine ⟨[escV (bt u (p : Int))], 1, fun k hk => ?_, ?_, by omega, Nat.le_refl _, fun tail => ?_, (by simp), ?_⟩
  ·obtain ⟨K, rfl⟩ : ∃ K, k = K + 8 := ⟨k - 8, by omega⟩
   rw [hf, if_pos hE]
   rfl
  ·unfold spell
   rw [bt_ext0 hp, if_pos hE, ext_ext]
  ·rw [hdp, List.cons_append, scanE_at, if_neg (by decide), if_pos rfl]
   rfl
  ·unfold isBy escV
   simp only [List.all_cons, List.all_nil, Bool.and_true, Bool.and_eq_true, decide_eq_true_eq]
   repeat' split
   all_goals omega
 have hs0 : spell (u.extract p u.size) = if bt u (p : Int) = 117 ∧ 0 ≤ halfF (u.extract (p + 1) u.size) then
  ((runeB (pairF (u.extract (p + 5) u.size) (halfF (u.extract (p + 1) u.size))).1).1, (pairF (u.extract (p + 5) u.size) (halfF (u.extract (p + 1) u.size))).2, decide ((runeB (pairF (u.extract (p + 5) u.size) (halfF (u.extract (p + 1) u.size))).1).2 = 0))
  else ([], ⟨#[]⟩, false) := by
  unfold spell
  rw [bt_ext0 hp, if_neg hE, ext_ext, ext_ext]
 have hl : ∀ K, 90 ≤ K → signetryref14_escape.f (K + 9) u (p : Int) = if bt u (p : Int) = 117 then signetryref14_escape.j1 K u (p : Int) (halfF (u.extract (p + 1) u.size)) (decide (halfF (u.extract (p + 1) u.size) < 0)) else signetryref14_escape.j1 K u (p : Int) (halfF (u.extract (p + 1) u.size)) true := fun K hK => by
  have h1 := rhalf hu (p := p + 1) (by omega) (show 73 ≤ K by omega)
  rw [show K + 9 = (K + 1) + 8 by omega, hf, if_neg hE, signetryref14_escape.l0, if_neg (by decide), w64 (by omega) (by omega), show (p : Int) + 1 = ((p + 1 : Nat) : Int) by omega, h1, Option.bind_some, if_pos (by omega), if_pos (by omega)]
 obtain ⟨h, hh⟩ : ∃ h, halfF (u.extract (p + 1) u.size) = h := ⟨_, rfl⟩
 rw [hh] at hs0
 simp only [hh] at hl
 have hbd := half_bd (u.extract (p + 1) u.size)
 rw [hh] at hbd
 have none_ : (∀ K, 90 ≤ K → signetryref14_escape.f (K + 9) u (p : Int) = some ([], 0)) → (∀ k, 200 ≤ k → signetryref14_escape.f k u (p : Int) = some ([], 0)) := fun q k hk => by
  obtain ⟨K, rfl⟩ : ∃ K, k = K + 9 := ⟨k - 9, by omega⟩
  exact q K (by omega)
 by_cases h117 : bt u (p : Int) = 117
 case neg =>
  right
  refine ⟨none_ fun K hK => ?_, by rw [hs0, if_neg (fun q => h117 q.1)]⟩
  obtain ⟨K, rfl⟩ : ∃ K', K = K' + 1 := ⟨K - 1, by omega⟩
  rw [hl _ hK, if_neg h117, signetryref14_escape.j1, if_pos rfl]
 by_cases hneg : h < 0
 case pos =>
  right
  refine ⟨none_ fun K hK => ?_, by rw [hs0, if_neg (fun q => by omega)]⟩
  obtain ⟨K, rfl⟩ : ∃ K', K = K' + 1 := ⟨K - 1, by omega⟩
  rw [hl _ hK, if_pos h117, decide_eq_true hneg, signetryref14_escape.j1, if_pos rfl]
 obtain ⟨a, b, c, d, r, hL, hd⟩ := half_digs (t := u.extract (p + 1) u.size) (by rw [hh]; omega)
 rw [bytes_ext] at hL
 have hlen := congrArg List.length hL
 simp only [List.length_drop, bytesOf_length, List.length_cons] at hlen
 have hL5 : (bytesOf u).drop (p + 5) = r := by
  have := congrArg (List.drop 4) hL
  rw [List.drop_drop] at this
  exact this
 have hsc5 : ∀ tail, scanE (92 :: ((bytesOf u).drop p ++ tail)) = 1 + 5 + scanE ((bytesOf u).drop (p + 5) ++ tail) := fun tail => by
  rw [hdp, h117, hL, hL5]
  exact scan_u hd _
 rw [if_pos ⟨h117, by omega⟩] at hs0
 have hj : ∀ K, 90 ≤ K → signetryref14_escape.f (K + 9) u (p : Int) = signetryref14_escape.j1 K u (p : Int) h false := fun K hK => by
  rw [hl _ hK, if_pos h117, decide_eq_false (by omega)]
 -- how it ends
 have fin : ∀ (rr : Int) (many : Nat) (rest : ByteArray), pairF (u.extract (p + 5) u.size) h = (rr, u.extract (p + many) u.size) → p + many ≤ u.size → 4 ≤ many → (∀ tail, scanE (92 :: ((bytesOf u).drop p ++ tail)) = 1 + many + scanE ((bytesOf u).drop (p + many) ++ tail)) →
  (∀ K, 90 ≤ K → signetryref14_escape.f (K + 9) u (p : Int) = (signetryref02_Rune.f ([] : List Int) rr).bind fun d7 => (if d7.2 = 0 then (some (d7.1, (many : Int))) else (some (([] : List Int), 0)))) →
  (∃ b many, (∀ k, 200 ≤ k → signetryref14_escape.f k u (p : Int) = some (b, ((many : Nat) : Int))) ∧ EscAt u p b many) ∨ ((∀ k, 200 ≤ k → signetryref14_escape.f k u (p : Int) = some ([], 0)) ∧ (spell (u.extract p u.size)).2.2 = false) := by
  intro rr many rest hpair hle hge hsc hk
  have hr := rRune (l := []) (n := rr) (by decide)
  rw [hpair] at hs0
  unfold runeB at hs0
  by_cases hrn : isRn rr = true
  case neg =>
   right
   rw [if_neg hrn] at hr hs0
   refine ⟨none_ fun K hK => ?_, by rw [hs0]; rfl⟩
   rw [hk K hK, hr, Option.bind_some]
   rfl
  left
  rw [if_pos hrn] at hr hs0
  refine ⟨encodeRuneZ rr, many, fun k hk200 => ?_, hs0, hle, by omega, hsc, Nat.le_trans (rune_by rr).1 hge, (rune_by rr).2⟩
  obtain ⟨K, rfl⟩ : ∃ K, k = K + 9 := ⟨k - 9, by omega⟩
  rw [hk K (by omega), hr, Option.bind_some]
  rfl
 by_cases hpc : (55296 ≤ h ∧ h < 56320) ∧ p + 6 < u.size ∧ bt u ((p + 5 : Nat) : Int) = 92 ∧ bt u ((p + 6 : Nat) : Int) = 117
 case neg =>
  have hnp : pairF (u.extract (p + 5) u.size) h = (h, u.extract (p + 5) u.size) := by
   unfold pairF
   rw [if_neg]
   rintro ⟨w1, w2, w3, _⟩
   obtain ⟨r2, hr2⟩ := isU_iff.1 w1
   rw [bytes_ext] at hr2
   have hz := congrArg List.length hr2
   simp only [List.length_drop, bytesOf_length, List.length_cons] at hz
   rw [dropb (show p + 5 < u.size by omega), dropb (show p + 5 + 1 < u.size by omega)] at hr2
   have g1 := (List.cons.inj hr2).1
   have g2 := (List.cons.inj (List.cons.inj hr2).2).1
   exact hpc ⟨⟨w2, w3⟩, by omega, g1, g2⟩
  refine fin h 5 ⟨#[]⟩ hnp (by omega) (by decide) hsc5 (fun K hK => ?_)
  obtain ⟨K, rfl⟩ : ∃ K', K = K' + 2 := ⟨K - 2, by omega⟩
  rw [hj _ hK, signetryref14_escape.j1, if_neg (by decide)]
  have end_ : signetryref14_escape.j2 (K + 1) u (p : Int) h 5 false = (signetryref02_Rune.f ([] : List Int) h).bind fun d7 => (if d7.2 = 0 then (some (d7.1, ((5 : Nat) : Int))) else (some (([] : List Int), 0))) := by
   rw [signetryref14_escape.j2, if_neg (by decide)]
   rfl
  by_cases c1 : h ≥ 55296
  case neg =>
   rw [if_neg c1]
   exact end_
  rw [if_pos c1]
  by_cases c2 : h < 56320
  case neg =>
   rw [if_neg c2]
   exact end_
  rw [if_pos c2, w64 (x := (p : Int) + 6) (by omega) (by omega), w64 (x := (p : Int) + 5) (by omega) (by omega)]
  by_cases c3 : (p : Int) + 6 < (u.size : Int)
  case neg =>
   rw [if_neg c3]
   exact end_
  rw [if_pos c3, if_pos (by omega), if_pos (by omega)]
  by_cases c4 : bt u ((p : Int) + 5) = 92
  case neg =>
   rw [if_neg c4]
   exact end_
  have c5 : ¬ bt u ((p : Int) + 6) = 117 := fun e => hpc ⟨⟨c1, c2⟩, by omega, by rw [← c4]; congr 1, by rw [← e]; congr 1⟩
  rw [if_pos c4, if_pos (by omega), show (bt u ((p : Int) + 6) == 117) = false from beq_eq_false_iff_ne.mpr c5]
  exact end_
 obtain ⟨⟨n0, n1⟩, hsz, b5, b6⟩ := hpc
 have hd5 : (bytesOf u).drop (p + 5) = 92 :: 117 :: (bytesOf u).drop (p + 7) := by rw [dropb (show p + 5 < u.size by omega), b5, dropb (show p + 5 + 1 < u.size by omega), show p + 5 + 1 = p + 6 from rfl, b6]
 have hU : isU (u.extract (p + 5) u.size) = true := isU_iff.2 ⟨_, by rw [bytes_ext, hd5]⟩
 obtain ⟨lw, hlw⟩ : ∃ lw, halfF (u.extract (p + 7) u.size) = lw := ⟨_, rfl⟩
 have hlb := half_bd (u.extract (p + 7) u.size)
 rw [hlw] at hlb
 have hpf : pairF (u.extract (p + 5) u.size) h = if 56320 ≤ lw ∧ lw ≤ 57343 then (65536 + (h - 55296) * 1024 + lw - 56320, u.extract (p + 11) u.size) else (h, u.extract (p + 5) u.size) := by
  unfold pairF
  rw [ext_ext, ext_ext, hlw]
  by_cases q : 56320 ≤ lw ∧ lw ≤ 57343
  case pos =>
   rw [if_pos ⟨hU, n0, n1, q.1, q.2⟩, if_pos q]
  rw [if_neg (fun w => q ⟨w.2.2.2.1, w.2.2.2.2⟩), if_neg q]
 have hj2 : ∀ K, 90 ≤ K → signetryref14_escape.f (K + 9) u (p : Int) = if 56320 ≤ lw then signetryref14_escape.j3 (K - 2) h 5 lw (decide (lw < 57344)) else signetryref14_escape.j3 (K - 2) h 5 lw false := fun K hK => by
  obtain ⟨K, rfl⟩ : ∃ K', K = K' + 2 := ⟨K - 2, by omega⟩
  have h1 := rhalf hu (p := p + 7) (by omega) (show 73 ≤ K by omega)
  rw [hj _ hK, signetryref14_escape.j1, if_neg (by decide), if_pos n0, if_pos n1, w64 (x := (p : Int) + 6) (by omega) (by omega), w64 (x := (p : Int) + 5) (by omega) (by omega), if_pos (by omega), if_pos (by omega), if_pos (by omega), show (p : Int) + 5 = ((p + 5 : Nat) : Int) by omega, if_pos b5, if_pos (by omega), show (p : Int) + 6 = ((p + 6 : Nat) : Int) by omega, b6]
  rw [signetryref14_escape.j2, if_pos (by rfl), w64 (by omega) (by omega), show (p : Int) + 7 = ((p + 7 : Nat) : Int) by omega, h1, hlw, Option.bind_some]
  rfl
 by_cases q : 56320 ≤ lw ∧ lw ≤ 57343
 case neg =>
  rw [if_neg q] at hpf
  refine fin h 5 ⟨#[]⟩ hpf (by omega) (by decide) hsc5 (fun K hK => ?_)
  rw [hj2 K hK]
  obtain ⟨K, rfl⟩ : ∃ K', K = K' + 3 := ⟨K - 3, by omega⟩
  by_cases q1 : 56320 ≤ lw
  case neg =>
   rw [if_neg q1, show K + 3 - 2 = K + 1 by omega, signetryref14_escape.j3, if_neg (by decide)]
   rfl
  rw [if_pos q1, decide_eq_false (by omega), show K + 3 - 2 = K + 1 by omega, signetryref14_escape.j3, if_neg (by decide)]
  rfl
 rw [if_pos q] at hpf
 obtain ⟨a', b', c', d', r', hL', hd'⟩ := half_digs (t := u.extract (p + 7) u.size) (by rw [hlw]; omega)
 rw [bytes_ext] at hL'
 have hlen' := congrArg List.length hL'
 simp only [List.length_drop, bytesOf_length, List.length_cons] at hlen'
 have hL11 : (bytesOf u).drop (p + 11) = r' := by
  have := congrArg (List.drop 4) hL'
  rw [List.drop_drop] at this
  exact this
 refine fin _ 11 ⟨#[]⟩ hpf (by omega) (by decide) (fun tail => ?_) (fun K hK => ?_)
 ·rw [hsc5, hd5, hL', hL11]
  have := scan_u hd' (r' ++ tail)
  simp only [List.cons_append] at this ⊢
  rw [this]
  omega
 ·rw [hj2 K hK, if_pos q.1, decide_eq_true (by omega)]
  obtain ⟨K, rfl⟩ : ∃ K', K = K' + 3 := ⟨K - 3, by omega⟩
  rw [show K + 3 - 2 = K + 1 by omega, signetryref14_escape.j3, if_pos rfl, w64 (x := h - 55296) (by omega) (by omega), w64 (x := 1024 * (h - 55296)) (by omega) (by omega), w64 (x := 65536 + 1024 * (h - 55296)) (by omega) (by omega), w64 (x := 65536 + 1024 * (h - 55296) + lw) (by omega) (by omega), w64 (by omega) (by omega), show 65536 + 1024 * (h - 55296) + lw - 56320 = 65536 + (h - 55296) * 1024 + lw - 56320 by omega]
  rfl
end Go.Proofs.YtodnggilomanbaaGreatDoor.Pure
end
section
namespace Go.Proofs.YtodnggilomanbaaGreatDoor.Pure
open Go.RowKit Go.Lib Go.Proofs.YtodnggilomanbaaGreatDoor.PAll Go.Proofs.YtodnggilomanbaaGreatDoorW.PrintWords Go.Proofs.YtodnggilomanbaaGreatDoorW.PrintLast Go.Proofs.YtodnggilomanbaaGreatDoorW.PrintMore Go.Proofs.YtodnggilomanbaaGreatDoor.Hand
set_option linter.unusedVariables false
set_option linter.unusedSimpArgs false

theorem ext_sz (s : ByteArray) (a b : Nat) (h : b ≤ s.size) : (s.extract a b).size = b - a := by
  rw [ByteArray.size_extract, Nat.min_eq_left h]
theorem ext_bytes (s : ByteArray) (a b : Nat) : bytesOf (s.extract a b) = ((bytesOf s).take b).drop a := by rw [bytesOf_sl]
theorem strO_sl (s : ByteArray) {i e : Nat} (hi : i < e) (he : e ≤ s.size) : bt (s.extract i e) 0 = bt s (i : Int) := by
  refine bt_head (r := ((bytesOf s).take e).drop (i + 1)) ?_
  have h := dropb (s := s) (i := i) (by omega)
  rw [ext_bytes, List.drop_take, h, List.drop_take, show e - i = (e - (i + 1)) + 1 by omega, List.take_succ_cons]
theorem ext_tail (s : ByteArray) {i e : Nat} (he : e ≤ s.size) : (s.extract i e).extract 1 (s.extract i e).size = s.extract (i + 1) e := bytes_eq (by rw [bytes_ext, ext_bytes, ext_bytes, List.drop_drop])
theorem ext_cut (s : ByteArray) {i e : Nat} (he : e ≤ s.size) : (s.extract 0 e).extract i (s.extract 0 e).size = s.extract i e := bytes_eq (by rw [bytes_ext, ext_bytes, ext_bytes, List.drop_zero])
/-- What is left behind a string. -/
def endR (s : ByteArray) (x : Int) (to_ : Nat) (is : Bool) (at_ m h : Int) : Except Bool (List Int) → ByteArray × ByteArray × Int × Int × Int × Int
  | .error false => (⟨#[]⟩, s, at_, m, x, 140)
  | .error true => (⟨#[]⟩, s, at_, m, (s.size : Int), 140)
  | .ok o => if is = true then (if validD (u8s o) = true then (strOfNums o, s, (to_ : Int) + 1, m, h, 0) else (⟨#[]⟩, s, at_, m, x, 140)) else (⟨#[]⟩, s, at_, m, (s.size : Int), 140)
theorem rstr_j2 {s : ByteArray} {x : Int} {to_ : Nat} {is : Bool} {at_ m h : Int} {o : List Int} (hto : to_ ≤ s.size) (hs : s.size ≤ 1000) (hB : isBy o = true) (hl : o.length ≤ 1000) {k : Nat} (hk : 1020 ≤ k) :
 signetryref14_Reader_str.j2 (k + 1) x (to_ : Int) is o s at_ m h 0 = some (endR s x to_ is at_ m h (.ok o)) := by
 rw [signetryref14_Reader_str.j2, endR]
 by_cases hi : is = true
 case neg =>
  rw [if_neg hi, if_neg hi, rfail, Option.bind_some]
 rw [if_pos hi, if_pos hi, rvalid hB hl (by omega), Option.bind_some]
 by_cases hv : validD (u8s o) = true
 case neg =>
  rw [if_neg hv, if_neg hv, rfail, Option.bind_some]
 rw [if_pos hv, if_pos hv, w64 (by omega) (by omega)]
theorem rstr_loop (s : ByteArray) (hs : s.size ≤ 1000) (x : Int) (to_ : Nat) (is : Bool) (at_ m h : Int) (hto : to_ ≤ s.size) : ∀ (n i : Nat) (out : List Int) (k : Nat), to_ ≤ i + n → i ≤ to_ → (is = true → i + scanE ((bytesOf s).drop i) = to_) → isBy out = true → out.length ≤ i → n + 1100 ≤ k →
 signetryref14_Reader_str.l0 (k + 1) x (to_ : Int) is out (i : Int) s at_ m h 0 = some (endR s x to_ is at_ m h (decS n (s.extract i to_) out))
 | 0, i, out, k, hn, hi, hsc, hB, hl, hk => by
  obtain ⟨k, rfl⟩ : ∃ k', k = k' + 1 := ⟨k - 1, by omega⟩
  rw [signetryref14_Reader_str.l0, if_neg (by omega), rstr_j2 hto hs hB (by omega) (by omega), decS]
 | n + 1, i, out, k, hn, hi, hsc, hB, hl, hk => by
  obtain ⟨k, rfl⟩ : ∃ k', k = k' + 1 := ⟨k - 1, by omega⟩
  have hz := ext_sz s i to_ hto
  by_cases hit : i = to_
  case pos =>
   rw [signetryref14_Reader_str.l0, if_neg (by omega), rstr_j2 hto hs hB (by omega) (by omega), decS_nil (by omega)]
  have hlt : i < to_ := by omega
  have hc := strO_sl s hlt hto
  have hd := dropb (s := s) (i := i) (by omega)
  have hbr := bt_range s (i : Int)
  rw [signetryref14_Reader_str.l0, if_pos (by omega), if_pos (by omega), if_pos (by omega), decS, if_neg (show ¬ (s.extract i to_).size = 0 by omega), hc]
  by_cases c32 : bt s (i : Int) < 32
  ·rw [if_pos c32, if_pos c32, rfail, Option.bind_some]
   rfl
  rw [if_neg c32, if_neg c32]
  by_cases c92 : bt s (i : Int) = 92
  case neg =>
   rw [if_neg c92, if_pos c92, if_pos (show out.length < 140737488355328 by omega), w64 (by omega) (by omega), show (i : Int) + 1 = ((i + 1 : Nat) : Int) by omega, ext_tail s hto]
   refine rstr_loop s hs x to_ is at_ m h hto n (i + 1) (out ++ [bt s (i : Int)]) k (by omega) (by omega) (fun q => ?_) ?_ ?_ (by omega)
   ·have h1 := hsc q
    by_cases c34 : bt s (i : Int) = 34
    case pos =>
     rw [hd, scanE_at, if_pos c34] at h1
     omega
    rw [hd, scanE_at, if_neg c34, if_neg c92] at h1
    omega
   ·unfold isBy at hB ⊢
    rw [List.all_append, hB]
    simp only [List.all_cons, List.all_nil, Bool.and_true, Bool.true_and, Bool.and_eq_true, decide_eq_true_eq]
    exact hbr
   ·rw [List.length_append, List.length_singleton]
    omega
  rw [if_pos c92, if_neg (show ¬ bt s (i : Int) ≠ 92 from fun q => q c92), w64 (x := (i : Int) + 1) (by omega) (by omega)]
  by_cases c1 : i + 1 = to_
  case pos =>
   rw [if_pos (show (i : Int) + 1 = (to_ : Int) by omega), if_pos (show (s.extract i to_).size = 1 by omega), rstr_j2 hto hs hB (by omega) (by omega)]
   have hns : ¬ is = true := fun q => by
    have := hsc q
    rw [hd, scanE_at, c92, if_neg (by decide), if_pos rfl] at this
    omega
   show _ = some (endR s x to_ is at_ m h (.error true))
   have e1 : endR s x to_ is at_ m h (.ok out) = (⟨#[]⟩, s, at_, m, (s.size : Int), 140) := by
    show (if is = true then _ else _) = _
    rw [if_neg hns]
   rw [e1]
   rfl
  rw [if_neg (show ¬ (i : Int) + 1 = (to_ : Int) by omega), if_pos (show (0 : Int) ≤ (to_ : Int) by omega), if_pos (show (to_ : Int) ≤ (s.size : Int) by omega), if_neg (show ¬ (s.extract i to_).size = 1 by omega), Int.toNat_natCast, ext_tail s hto]
  obtain ⟨u, hu⟩ : ∃ u, s.extract 0 to_ = u := ⟨_, rfl⟩
  have huz : u.size = to_ := by rw [← hu, ext_sz s 0 to_ hto]; omega
  have hcut := ext_cut s (i := i + 1) hto
  rw [hu] at hcut ⊢
  have hsplit : ∀ j, j ≤ to_ → (bytesOf s).drop j = (bytesOf u).drop j ++ (bytesOf s).drop to_ := fun j hj => by
   rw [← hu, ext_bytes, List.drop_zero]
   conv => lhs; rw [← List.take_append_drop to_ (bytesOf s)]
   rw [List.drop_append_of_le_length]
   rw [List.length_take, bytesOf_length]
   omega
  rcases rescape u (by omega) (i + 1) (by omega) with ⟨b, many, hf, he⟩ | ⟨hf, hsp⟩
  ·have hge := he.ge
   have hle := he.le
   have hsp := he.sp
   have hbl := he.sh.1
   have hcut2 : u.extract (i + 1 + many) u.size = s.extract (i + 1 + many) to_ := by rw [← hu]; exact ext_cut s hto
   rw [hcut, hcut2] at hsp
   rw [show (i : Int) + 1 = ((i + 1 : Nat) : Int) by omega, hf _ (by omega), Option.bind_some]
   simp only
   rw [if_neg (show ¬ ((many : Nat) : Int) = 0 by omega), if_pos (show out.length + b.length < 140737488355328 by omega), hsp, if_pos rfl, w64 (by omega) (by omega), show ((i + 1 : Nat) : Int) + (many : Int) = ((i + 1 + many : Nat) : Int) by omega]
   refine rstr_loop s hs x to_ is at_ m h hto n (i + 1 + many) (out ++ b) k (by omega) (by omega) (fun q => ?_) ?_ ?_ (by omega)
   ·have h1 := hsc q
    have h2 := he.sc ((bytesOf s).drop to_)
    rw [← hsplit (i + 1) (by omega), ← hsplit (i + 1 + many) (by omega)] at h2
    rw [hd, c92, h2] at h1
    omega
   ·unfold isBy at hB ⊢
    rw [List.all_append, hB]
    exact he.sh.2
   ·rw [List.length_append]
    omega
  ·rw [show (i : Int) + 1 = ((i + 1 : Nat) : Int) by omega, hf _ (by omega), Option.bind_some]
   simp only
   rw [hcut] at hsp
   rw [if_pos trivial, rfail, Option.bind_some, if_neg (by rw [hsp]; decide)]
   rfl
/-- What is left behind a string that is read. -/
def strR (s : ByteArray) (m h : Int) (r : Except Int (ByteArray × Int)) (o : ByteArray × ByteArray × Int × Int × Int × Int) : Prop := match r with
  | .ok (u, z) => o = (u, s, z, m, h, 0)
  | .error p => ∃ y, o = (⟨#[]⟩, s, y, m, p, 140) ∧ 0 ≤ y ∧ y ≤ (s.size : Int)
theorem rstr {s : ByteArray} (hs : s.size ≤ 1000) {x m h : Int} (h0 : 0 ≤ x) (h1 : x ≤ (s.size : Int)) : ∃ o, (∀ k, 2200 ≤ k → signetryref14_Reader_str.f k s x m h 0 = some o) ∧ strR s m h (strF s x) o := by
 have hword : ∀ k, 2200 ≤ k → signetryref14_Reader_word.f k s x m h 0 ⟨#[34]⟩ = some (wordR s m h (wordF s [34] x)) := fun k hk => rword_f (by omega) (by decide) h0 h1 (by omega)
 rw [word1 h1] at hword
 unfold strF
 rw [word1 h1]
 by_cases hc : x < (s.size : Int) ∧ bt s x = 34
 case neg =>
  rw [if_neg hc] at hword ⊢
  refine ⟨(⟨#[]⟩, s, x, m, x, 140), fun k hk => ?_, ⟨_, rfl, h0, h1⟩⟩
  unfold signetryref14_Reader_str.f
  rw [hword _ hk, Option.bind_some]
  rfl
 rw [if_pos hc] at hword ⊢
 simp only
 obtain ⟨p, rfl⟩ : ∃ p : Nat, x = (p : Int) := ⟨x.toNat, by omega⟩
 have hE : endF s ((p : Int) + 1) = ((p + 1 + scanE ((bytesOf s).drop (p + 1)) : Nat) : Int) := by
  unfold endF
  rw [show ((p : Int) + 1).toNat = p + 1 by omega]
  omega
 obtain ⟨e, he⟩ : ∃ e, p + 1 + scanE ((bytesOf s).drop (p + 1)) = e := ⟨_, rfl⟩
 rw [he] at hE
 have hend : ∀ k, 2200 ≤ k → signetryref14_end.f k s (p : Int) = some (if e < s.size then ((e : Int), true) else (0, false)) := fun k hk => by
  unfold signetryref14_end.f
  have := rend s (by omega) k (p + 1) (by omega) (by omega)
  rw [he] at this
  rw [w64 (by omega) (by omega), show (p : Int) + 1 = ((p + 1 : Nat) : Int) by omega, this]
 obtain ⟨to_, hto_⟩ : ∃ to_, (if e < s.size then e else s.size) = to_ := ⟨_, rfl⟩
 have hto : to_ ≤ s.size := by rw [← hto_]; split <;> omega
 have hpt : p + 1 ≤ to_ := by rw [← hto_]; split <;> omega
 obtain ⟨is, his⟩ : ∃ is, decide (e < s.size) = is := ⟨_, rfl⟩
 have hsync : is = true → p + 1 + scanE ((bytesOf s).drop (p + 1)) = to_ := fun q => by
  rw [← his] at q
  rw [he, ← hto_, if_pos (of_decide_eq_true q)]
 refine ⟨endR s (p : Int) to_ is ((p : Int) + 1) m h (decS s.size (s.extract (p + 1) to_) []), fun k hk => ?_, ?_⟩
 ·obtain ⟨k, rfl⟩ : ∃ k', k = k' + 2 := ⟨k - 2, by omega⟩
  have hl := rstr_loop s hs (p : Int) to_ is ((p : Int) + 1) m h hto s.size (p + 1) [] k (by omega) hpt hsync rfl (by simp) (by omega)
  unfold signetryref14_Reader_str.f
  rw [hword _ (by omega), Option.bind_some]
  simp only [wordR]
  rw [if_pos trivial, hend _ (by omega), Option.bind_some]
  by_cases hes : e < s.size
  case pos =>
   rw [decide_eq_true hes] at his
   rw [if_pos hes] at hto_
   subst his hto_
   rw [if_pos hes]
   simp only
   rw [if_pos trivial, signetryref14_Reader_str.j0, w64 (by omega) (by omega), show (p : Int) + 1 = ((p + 1 : Nat) : Int) by omega] at *
   exact hl
  rw [decide_eq_false hes] at his
  rw [if_neg hes] at hto_
  subst his hto_
  rw [if_neg hes]
  simp only
  rw [if_neg (show ¬ (false = true) by decide), signetryref14_Reader_str.j0, w64 (by omega) (by omega), show (p : Int) + 1 = ((p + 1 : Nat) : Int) by omega] at *
  exact hl
 ·have hmin : (minE s (endF s ((p : Int) + 1))).toNat = to_ := by
   unfold minE
   rw [hE, ← hto_]
   split <;> omega
  have hins : insF s ((p : Int) + 1) (endF s ((p : Int) + 1)) = decS s.size (s.extract (p + 1) to_) [] := by
   unfold insF
   rw [hmin, show ((p : Int) + 1).toNat = p + 1 by omega]
  rw [hins, hE]
  rcases hdec : decS s.size (s.extract (p + 1) to_) [] with er | o
  ·cases er
   ·exact ⟨_, rfl, by omega, by omega⟩
   ·exact ⟨_, rfl, by omega, by omega⟩
  ·simp only [endR]
   by_cases hes : e < s.size
   case pos =>
    rw [decide_eq_true hes] at his
    rw [if_pos hes] at hto_
    subst his hto_
    rw [if_pos rfl, if_pos (by omega)]
    split
    ·rfl
    ·exact ⟨_, rfl, by omega, by omega⟩
   rw [decide_eq_false hes] at his
   subst his
   rw [if_neg (show ¬ (false = true) by decide), if_neg (show ¬ ((e : Nat) : Int) < (s.size : Int) by omega)]
   exact ⟨_, rfl, by omega, by omega⟩
end Go.Proofs.YtodnggilomanbaaGreatDoor.Pure
end
