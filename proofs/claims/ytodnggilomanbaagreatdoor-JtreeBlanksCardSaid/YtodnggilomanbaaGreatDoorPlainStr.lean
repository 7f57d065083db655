/-
  What a string's inside spells, piece by piece: no walk.
-/
import Derived.Test.YtodnggilomanbaaGreatDoorPlainRune
namespace Go.Proofs.YtodnggilomanbaaGreatDoor.Pure
open Go.RowKit Go.Lib Go.Proofs.YtodnggilomanbaaGreatDoor.PAll Go.Proofs.YtodnggilomanbaaGreatDoorW.PrintWords Go.Proofs.YtodnggilomanbaaGreatDoorW.PrintLast Go.Proofs.YtodnggilomanbaaGreatDoorW.PrintMore Go.Proofs.YtodnggilomanbaaGreatDoor.Hand
set_option linter.unusedVariables false
set_option linter.unusedSimpArgs false

theorem leO_le {α : Type} {f : Nat → Option α} (m : ∀ k, LeO (f k) (f (k + 1))) {a b : Nat} (h : a ≤ b) : LeO (f a) (f b) := by
  induction h with
  | refl => exact LeO.refl _
  | step _ ih => exact LeO.trans ih (m _)
theorem bytesOf_sl (s : ByteArray) (a b : Nat) : bytesOf (s.extract a b) = ((bytesOf s).take b).drop a := by
  simp [bytesOf, ByteArray.data_extract, List.map_take, List.map_drop, Array.toList_extract, List.extract, List.drop_take]
theorem bt_head {t : ByteArray} {c : Int} {r : List Int} (h : bytesOf t = c :: r) : bt t 0 = c := by
  have h1 : 0 < t.size := by rw [← bytesOf_length, h]; simp
  have h2 := drop_bt t (y := 0) (by omega) (by omega)
  simp only [Int.toNat_zero, List.drop_zero] at h2
  rw [h] at h2
  exact (List.cons.inj h2).1.symm
theorem size_of {t : ByteArray} {l : List Int} (h : bytesOf t = l) : t.size = l.length := by rw [← h, bytesOf_length]
theorem ext1 {t : ByteArray} {c : Int} {r : List Int} (h : bytesOf t = c :: r) : bytesOf (t.extract 1 t.size) = r := by rw [bytes_ext, h]; rfl
/-- One step of what is spelt: p spells o, whatever follows. -/
structure Pc (p o : List Int) : Prop where
  ne : p ≠ []
  sc : ∀ rest, scanE (p ++ rest) = p.length + scanE rest
  de : ∀ (n : Nat) (t : ByteArray) (rest out : List Int), bytesOf t = p ++ rest → ∃ u : ByteArray, bytesOf u = rest ∧ decS (n + 1) t out = decS n u (out ++ o)
theorem pc_raw {c : Int} (h32 : 32 ≤ c) (h34 : c ≠ 34) (h92 : c ≠ 92) : Pc [c] [c] := by
  refine ⟨by simp, fun rest => ?_, fun n t rest out h => ⟨t.extract 1 t.size, ext1 h, ?_⟩⟩
  · rw [List.singleton_append, scanE_at, if_neg h34, if_neg h92]
    rfl
  · have hs := size_of h
    rw [List.length_append, List.length_singleton] at hs
    rw [decS, if_neg (by omega), bt_head h, if_neg (by omega), if_pos h92]
theorem pc_esc {e : Int} (he : escH e = true) : Pc [92, e] [escV e] := by
  refine ⟨by simp, fun rest => ?_, fun n t rest out h => ?_⟩
  · show scanE (92 :: e :: rest) = _
    rw [scanE_at, if_neg (by decide), if_pos rfl]
    rfl
  · have hs := size_of h
    rw [List.length_append] at hs
    simp only [List.length_cons, List.length_nil] at hs
    have h1 := ext1 (t := t) (c := 92) (r := e :: rest) h
    refine ⟨(t.extract 1 t.size).extract 1 (t.extract 1 t.size).size, ext1 h1, ?_⟩
    have hsp : spell (t.extract 1 t.size) = ([escV e], (t.extract 1 t.size).extract 1 (t.extract 1 t.size).size, true) := by
      unfold spell
      rw [bt_head h1, if_pos he]
    rw [decS, if_neg (by omega), bt_head (c := 92) (r := e :: rest) h, if_neg (by decide), if_neg (by decide), if_neg (by omega), hsp, if_pos rfl]
def dig (c : Int) : Bool := isHx (lowc c)
theorem dig_at {c : Int} (h : dig c = true) : c ≠ 34 ∧ c ≠ 92 := by
  unfold dig isHx lowc at h
  constructor <;> rintro rfl <;> simp at h
theorem scan_dig (c : Int) (r : List Int) (h : dig c = true) : scanE (c :: r) = 1 + scanE r := by
  have := dig_at h
  rw [scanE_at, if_neg this.1, if_neg this.2]
theorem esc117 : escH 117 = false := by decide
theorem half_at {t : ByteArray} {a b c d : Int} {r : List Int} (h : bytesOf t = a :: b :: c :: d :: r) : halfF t = hv4 [a, b, c, d] := by
  have hs := size_of h
  simp only [List.length_cons] at hs
  unfold halfF
  rw [if_neg (by omega), h]
  rfl
theorem pc_u {a b c d n : Int} (hd : dig a = true ∧ dig b = true ∧ dig c = true ∧ dig d = true) (hn : hv4 [a, b, c, d] = n) (hr : isRn n = true) : Pc [92, 117, a, b, c, d] (encodeRuneZ n) := by
  refine ⟨by simp, fun rest => ?_, fun n' t rest out h => ?_⟩
  · show scanE (92 :: 117 :: a :: b :: c :: d :: rest) = _
    rw [scanE_at, if_neg (by decide), if_pos rfl]
    show 2 + scanE (a :: b :: c :: d :: rest) = _
    rw [scan_dig _ _ hd.1, scan_dig _ _ hd.2.1, scan_dig _ _ hd.2.2.1, scan_dig _ _ hd.2.2.2]
    simp only [List.length_cons, List.length_nil]
    omega
  · have hs := size_of h
    rw [List.length_append] at hs
    simp only [List.length_cons, List.length_nil] at hs
    have h1 := ext1 (t := t) (c := 92) (r := 117 :: a :: b :: c :: d :: rest) h
    have h2 := ext1 h1
    have h3 : bytesOf ((t.extract 1 t.size).extract 5 (t.extract 1 t.size).size) = rest := by rw [bytes_ext, h1]; rfl
    have hr2 := isRn_of hr
    have hh := (half_at h2).trans hn
    have hp : pairF ((t.extract 1 t.size).extract 5 (t.extract 1 t.size).size) n = (n, (t.extract 1 t.size).extract 5 (t.extract 1 t.size).size) := by
      unfold pairF
      rw [if_neg]
      rintro ⟨_, q1, q2, _⟩
      omega
    have hsp : spell (t.extract 1 t.size) = (encodeRuneZ n, (t.extract 1 t.size).extract 5 (t.extract 1 t.size).size, true) := by
      unfold spell
      rw [bt_head h1, esc117, if_neg (by decide), if_pos ⟨rfl, by rw [hh]; omega⟩, hh, hp]
      unfold runeB
      rw [if_pos hr]
      rfl
    refine ⟨_, h3, ?_⟩
    rw [decS, if_neg (by omega), bt_head (c := 92) (r := 117 :: a :: b :: c :: d :: rest) h, if_neg (by decide), if_neg (by decide), if_neg (by omega), hsp, if_pos rfl]
theorem isU_at {t : ByteArray} {r : List Int} (h : bytesOf t = 92 :: 117 :: r) : isU t = true := by
  have h1 : t.data.toList.map (fun x => (x.toNat : Int)) = 92 :: 117 :: r := h
  rcases hl : t.data.toList with _ | ⟨x, _ | ⟨y, l⟩⟩
  · rw [hl] at h1; cases h1
  · rw [hl] at h1; simp at h1
  · rw [hl] at h1
    simp only [List.map_cons, List.cons.injEq] at h1
    have hx : x = 92 := UInt8.toNat_inj.1 (by have := h1.1; show x.toNat = 92; omega)
    have hy : y = 117 := UInt8.toNat_inj.1 (by have := h1.2.1; show y.toNat = 117; omega)
    unfold isU
    rw [hl, hx, hy]
    simp [Lib.hasPrefix]
theorem pc_pair {a b c d a' b' c' d' n m r : Int} (hd : dig a = true ∧ dig b = true ∧ dig c = true ∧ dig d = true) (hd' : dig a' = true ∧ dig b' = true ∧ dig c' = true ∧ dig d' = true) (hn : hv4 [a, b, c, d] = n) (hm : hv4 [a', b', c', d'] = m)
    (n0 : 55296 ≤ n) (n1 : n < 56320) (m0 : 56320 ≤ m) (m1 : m ≤ 57343) (hr : r = 65536 + (n - 55296) * 1024 + m - 56320) : Pc ([92, 117, a, b, c, d] ++ [92, 117, a', b', c', d']) (encodeRuneZ r) := by
  refine ⟨by simp, fun rest => ?_, fun n' t rest out h => ?_⟩
  · show scanE (92 :: 117 :: a :: b :: c :: d :: 92 :: 117 :: a' :: b' :: c' :: d' :: rest) = _
    rw [scanE_at, if_neg (by decide), if_pos rfl]
    show 2 + scanE (a :: b :: c :: d :: 92 :: 117 :: a' :: b' :: c' :: d' :: rest) = _
    rw [scan_dig _ _ hd.1, scan_dig _ _ hd.2.1, scan_dig _ _ hd.2.2.1, scan_dig _ _ hd.2.2.2, scanE_at, if_neg (by decide), if_pos rfl]
    show 2 + (1 + (1 + (1 + (1 + (2 + scanE (a' :: b' :: c' :: d' :: rest)))))) = _
    rw [scan_dig _ _ hd'.1, scan_dig _ _ hd'.2.1, scan_dig _ _ hd'.2.2.1, scan_dig _ _ hd'.2.2.2]
    simp only [List.length_append, List.length_cons, List.length_nil]
    omega
  · have hs := size_of h
    rw [List.length_append, List.length_append] at hs
    simp only [List.length_cons, List.length_nil] at hs
    have h1 := ext1 (t := t) (c := 92) (r := 117 :: a :: b :: c :: d :: 92 :: 117 :: a' :: b' :: c' :: d' :: rest) h
    have h2 := ext1 h1
    have h3 : bytesOf ((t.extract 1 t.size).extract 5 (t.extract 1 t.size).size) = 92 :: 117 :: a' :: b' :: c' :: d' :: rest := by rw [bytes_ext, h1]; rfl
    obtain ⟨v, hv⟩ : ∃ v, (t.extract 1 t.size).extract 5 (t.extract 1 t.size).size = v := ⟨_, rfl⟩
    rw [hv] at h3
    have h4 : bytesOf (v.extract 2 v.size) = a' :: b' :: c' :: d' :: rest := by rw [bytes_ext, h3]; rfl
    have h6 : bytesOf (v.extract 6 v.size) = rest := by rw [bytes_ext, h3]; rfl
    have hh := (half_at h2).trans hn
    have hh2 := (half_at h4).trans hm
    have hp : pairF v n = (r, v.extract 6 v.size) := by
      unfold pairF
      rw [if_pos ⟨isU_at h3, n0, n1, by rw [hh2]; exact m0, by rw [hh2]; exact m1⟩, hh2, ← hr]
    have hrn : isRn r = true := by
      unfold isRn
      simp only [Bool.or_eq_true, decide_eq_true_eq]
      omega
    have hsp : spell (t.extract 1 t.size) = (encodeRuneZ r, v.extract 6 v.size, true) := by
      unfold spell
      rw [bt_head h1, esc117, if_neg (by decide), if_pos ⟨rfl, by rw [hh]; omega⟩, hh, hv, hp]
      unfold runeB
      rw [if_pos hrn]
      rfl
    refine ⟨_, h6, ?_⟩
    rw [decS, if_neg (by omega), bt_head (c := 92) (r := 117 :: a :: b :: c :: d :: 92 :: 117 :: a' :: b' :: c' :: d' :: rest) h, if_neg (by decide), if_neg (by decide), if_neg (by omega), hsp, if_pos rfl]
/-- A spelling: pieces, one behind the other. -/
inductive Sps : List Int → List Int → Prop where
  | nil : Sps [] []
  | cons {p o P O : List Int} : Pc p o → Sps P O → Sps (p ++ P) (o ++ O)
theorem Sps.app {P O Q U : List Int} (h : Sps P O) (k : Sps Q U) : Sps (P ++ Q) (O ++ U) := by
  induction h with
  | nil => exact k
  | cons hp _ ih =>
    rw [List.append_assoc, List.append_assoc]
    exact .cons hp ih
theorem Sps.one {p o : List Int} (h : Pc p o) : Sps p o := by
  have := Sps.cons h .nil
  simpa using this
theorem Sps.scan {P O : List Int} (h : Sps P O) (rest : List Int) : scanE (P ++ rest) = P.length + scanE rest := by
  induction h with
  | nil => simp
  | cons hp _ ih =>
    rw [List.append_assoc, hp.sc, ih, List.length_append]
    omega
theorem Sps.dec {P O : List Int} (h : Sps P O) : ∀ (n : Nat) (t : ByteArray) (out : List Int), bytesOf t = P → P.length ≤ n → decS n t out = .ok (out ++ O) := by
  induction h with
  | nil =>
    intro n t out ht _
    rw [decS_nil (size_of ht), List.append_nil]
  | cons hp _ ih =>
    intro n t out ht hn
    rw [List.length_append] at hn
    have hl : 0 < (List.length _) := List.length_pos_iff.2 hp.ne
    obtain ⟨m, rfl⟩ : ∃ m, n = m + 1 := ⟨n - 1, by omega⟩
    obtain ⟨u, hu, he⟩ := hp.de m t _ out ht
    rw [he, ih m u _ hu (by omega), List.append_assoc]
theorem str_sps {s : ByteArray} {x : Nat} {P O tail : List Int} (h : Sps P O) (hd : (bytesOf s).drop x = 34 :: (P ++ 34 :: tail)) (hv : Lib.validD (u8s O) = true) : strF s (x : Int) = .ok (strOfNums O, ((x + P.length + 2 : Nat) : Int)) := by
  have hl := congrArg List.length hd
  simp only [List.length_drop, bytesOf_length, List.length_cons, List.length_append] at hl
  have hb : bt s (x : Int) = 34 := by
    have := drop_bt s (y := (x : Int)) (by omega) (by omega)
    rw [Int.toNat_natCast, hd] at this
    exact (List.cons.inj this).1.symm
  have hd1 : (bytesOf s).drop (x + 1) = P ++ 34 :: tail := by rw [← List.drop_drop, hd]; rfl
  have hE : endF s ((x : Int) + 1) = ((x + 1 + P.length : Nat) : Int) := by
    unfold endF
    rw [show ((x : Int) + 1).toNat = x + 1 by omega, hd1, h.scan, scanE_at, if_pos rfl]
    omega
  have hM : minE s (((x + 1 + P.length : Nat) : Int)) = ((x + 1 + P.length : Nat) : Int) := by unfold minE; omega
  have hB : bytesOf (s.extract (x + 1) (x + 1 + P.length)) = P := by
    rw [bytesOf_sl, List.drop_take, hd1, show x + 1 + P.length - (x + 1) = P.length by omega, List.take_left]
  have hI : insF s ((x : Int) + 1) (endF s ((x : Int) + 1)) = .ok O := by
    unfold insF
    rw [hE, hM, show ((x : Int) + 1).toNat = x + 1 by omega, Int.toNat_natCast, h.dec s.size _ [] hB (by omega), List.nil_append]
  unfold strF
  rw [word1 (by omega), if_pos ⟨by omega, hb⟩]
  simp only
  rw [hI]
  simp only
  rw [hE, if_pos (by omega), if_pos hv]
  congr 1
  simp only [Prod.mk.injEq, true_and]
  omega
end Go.Proofs.YtodnggilomanbaaGreatDoor.Pure
