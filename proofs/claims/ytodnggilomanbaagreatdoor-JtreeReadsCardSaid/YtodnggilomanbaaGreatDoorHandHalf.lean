/-
  jtree.half: the walk.
-/
import Derived.Test.YtodnggilomanbaaGreatDoorAp
import Derived.Test.YtodnggilomanbaaGreatDoorHandBa
import Derived.Test.YtodnggilomanbaaGreatDoorHandAa
import Derived.Test.YtodnggilomanbaaGreatDoorShelf
import Derived.Lib.MapLaws
import Derived.Lib.QuoteBits
set_option maxRecDepth 100000
set_option maxHeartbeats 4000000
namespace Go.Proofs.YtodnggilomanbaaGreatDoor.Hand
open Go.RowKit Go.Lib Go.Proofs.YtodnggilomanbaaGreatDoorW.PrintWords Go.Proofs.YtodnggilomanbaaGreatDoorW.PrintLast Go.Proofs.YtodnggilomanbaaGreatDoorW.PrintMore Go.Proofs.YtodnggilomanbaaGreatDoor.PAll
set_option linter.unusedVariables false
set_option linter.unusedSimpArgs false

/-! ### Small letters of what is beyond ASCII are no hexadecimal digits -/
def rowFar (x : CaseRow) : Bool := decide (x.2.1 < 128) || decide (x.delta 1 > 1114111) || decide (102 < (x.1 : Int) + x.delta 1)
theorem rowsFar : caseT.all rowFar = true := by decide +kernel
theorem caseA_far (i : Nat) (hi : i < caseA.size) : rowFar (caseA.getD i (0, 0, 0, 0, 0)) = true := by
  have hm : caseA.getD i (0, 0, 0, 0, 0) ∈ caseT := by
    unfold caseA at hi ⊢
    simp only [List.size_toArray] at hi
    simp [Array.getD, hi]
  exact List.all_eq_true.1 rowsFar _ hm
theorem lower_far (r : Int) (h : 128 ≤ r) : 102 < toLowerU r := by
 unfold toLowerU
 rw [if_neg (by omega)]
 unfold toR lookupGo
 cases hi : lookupIdx caseA r (caseA.size + 1) 0 caseA.size with
 | none => simp only [Option.map_none]; omega
 | some i =>
  obtain ⟨hil, hlo, hhi⟩ := lookupIdx_some caseA r _ _ _ i hi
  have hf := caseA_far i hil
  simp only [Option.map_some]
  generalize caseA.getD i (0, 0, 0, 0, 0) = x at hlo hhi hf ⊢
  simp only [rowFar, Bool.or_eq_true, decide_eq_true_eq] at hf
  unfold convertR
  split
  ·omega
  ·rename_i hd
   rcases hf with (hf | hf) | hf
   ·omega
   ·omega
   ·omega

/-! ### Small letters of four bytes -/
def isHx (c : Int) : Bool := (decide (48 ≤ c) && decide (c ≤ 57)) || (decide (97 ≤ c) && decide (c ≤ 102))
def hx1 (c : Int) : Int := if 48 ≤ c ∧ c ≤ 57 then c - 48 else if 97 ≤ c ∧ c ≤ 102 then c - 87 else -1
theorem idx_all : ∀ c : Fin 256, Lib.indexByte [48, 49, 50, 51, 52, 53, 54, 55, 56, 57, 97, 98, 99, 100, 101, 102] (((c.val : Nat) : Int)).toNat.toUInt8 = hx1 ((c.val : Nat) : Int) := by decide +kernel
theorem idx_hex {c : Int} (h0 : 0 ≤ c) (h1 : c ≤ 255) : Lib.indexByte [48, 49, 50, 51, 52, 53, 54, 55, 56, 57, 97, 98, 99, 100, 101, 102] c.toNat.toUInt8 = hx1 c := by
  have := idx_all ⟨c.toNat, by omega⟩
  simp only at this
  rwa [show ((c.toNat : Nat) : Int) = c from Int.toNat_of_nonneg h0] at this
theorem hx1_is {c : Int} : (isHx c = true ∧ 0 ≤ hx1 c ∧ hx1 c ≤ 15) ∨ (isHx c = false ∧ hx1 c = -1) := by
 unfold isHx hx1
 by_cases h : 48 ≤ c ∧ c ≤ 57
 case pos =>
  left
  rw [if_pos h]
  refine ⟨by simp [h.1, h.2], by omega, by omega⟩
 rw [if_neg h]
 by_cases h2 : 97 ≤ c ∧ c ≤ 102
 case pos =>
  left
  rw [if_pos h2]
  refine ⟨by simp [h2.1, h2.2], by omega, by omega⟩
 right
 rw [if_neg h2]
 refine ⟨?_, rfl⟩
 simp only [Bool.or_eq_false_iff, Bool.and_eq_false_iff, decide_eq_false_iff_not]
 omega
def ints (l : List UInt8) : List Int := l.map fun b => (b.toNat : Int)
def hfold (l : List Int) : Int := l.foldl (fun n c => n * 16 + hx1 c) 0
/-- A byte's small letter, as a number. -/
def lowc (c : Int) : Int := if 65 ≤ c ∧ c ≤ 90 then c + 32 else c
theorem lowB_all : ∀ c : Fin 128, ((lowerB (UInt8.ofNat c.val)).toNat : Int) = lowc ((c.val : Nat) : Int) := by decide +kernel
theorem low_ascii : ∀ l : List UInt8, (∀ b ∈ l, b.toNat < 128) → ints (toLowerD l) = (ints l).map lowc := by
  intro l h
  rw [toLowerD_ascii l h]
  unfold toLowerA ints
  rw [List.map_map, List.map_map]
  refine List.map_congr_left fun b hb => ?_
  have := lowB_all ⟨b.toNat, h b hb⟩
  simp only [Function.comp]
  rw [← this]
  simp
theorem enc_far {r : Int} (h : 102 < r) : ∃ c u, encodeRuneZ r = c :: u ∧ isHx c = false := by
 unfold encodeRuneZ
 split
 ·exact ⟨_, _, rfl, by unfold isHx; simp; omega⟩
 ·split
  ·exact ⟨_, _, rfl, by unfold isHx; simp; omega⟩
  ·split
   ·exact ⟨_, _, rfl, by unfold isHx; simp; omega⟩
   ·split
    ·exact ⟨_, _, rfl, by unfold isHx; simp; omega⟩
    ·exact ⟨_, _, rfl, by decide⟩
/-- What has a byte beyond ASCII among its first has no hexadecimal digits for it. -/
theorem low_high : ∀ (l : List UInt8) (k : Nat), (∃ b ∈ l.take k, 128 ≤ b.toNat) → ∃ j, j < k ∧ j < (ints (toLowerD l)).length ∧ isHx ((ints (toLowerD l)).getD j 0) = false
 | [], k, ⟨b, hb, _⟩ => by simp at hb
 | b :: t, 0, ⟨x, hx, _⟩ => by simp at hx
 | b :: t, k + 1, h => by
  by_cases hb : b.toNat < 128
  case pos =>
   have h2 : ∃ x ∈ t.take k, 128 ≤ x.toNat := by
    obtain ⟨x, hx, h128⟩ := h
    rw [List.take_succ_cons] at hx
    rcases List.mem_cons.1 hx with rfl | hx
    ·omega
    ·exact ⟨x, hx, h128⟩
   obtain ⟨j, j1, j2, j3⟩ := low_high t k h2
   have e : ints (toLowerD (b :: t)) = ((lowerB b).toNat : Int) :: ints (toLowerD t) := by
    unfold toLowerD
    rw [mapD_step toLowerU (b :: t) (by simp), decodeL_ascii b t hb]
    dsimp only
    rw [if_pos (toLowerU_range b.toNat (by omega)).1, lower_byte ⟨b.toNat, hb⟩, List.drop_succ_cons, List.drop_zero]
    simp [ints]
   rw [e]
   exact ⟨j + 1, by omega, by simp; omega, by simpa using j3⟩
  have hd : 128 ≤ (decodeL (b :: t)).1 ∧ (decodeL (b :: t)).1 ≤ 1114111 := by
   refine ⟨?_, decodeL_rune _⟩
   rw [decodeL_N]
   exact decN_high hb
  have hf := lower_far ((decodeL (b :: t)).1 : Int) (by omega)
  obtain ⟨c, u, he, hx⟩ := enc_far hf
  have e : ∃ u', ints (toLowerD (b :: t)) = c :: u' := by
   unfold toLowerD
   rw [mapD_step toLowerU (b :: t) (by simp), if_pos (by omega)]
   refine ⟨u ++ ints (mapD toLowerU ((b :: t).drop (decodeL (b :: t)).2)), ?_⟩
   rw [← List.cons_append, ← he]
   unfold ints
   rw [List.map_append]
   congr 1
   unfold encodeRune
   rw [List.map_map]
   conv => rhs; rw [← List.map_id (encodeRuneZ _)]
   refine List.map_congr_left fun x hx => ?_
   obtain ⟨x0, x1⟩ := encodeRuneZ_byte _ x hx
   simp only [Function.comp, id]
   rw [show x.toNat.toUInt8.toNat = x.toNat from by simp; omega]
   omega
  obtain ⟨u', e⟩ := e
  rw [e]
  exact ⟨0, by omega, by simp, by simpa using hx⟩
def hv4 (l : List Int) : Int := if l.all (fun c => isHx (lowc c)) = true then hfold (l.map lowc) else -1
/-- The number of four digits with which a text begins. -/
def halfF (s : ByteArray) : Int := if s.size < 4 then -1 else hv4 ((bytesOf s).take 4)
def hres (L : List Int) : Int := if L.all isHx = true then hfold L else -1
theorem low_half (l : List UInt8) (h : l.length = 4) : hres (ints (toLowerD l)) = hv4 (ints l) ∧ ∀ i, i ≤ (ints (toLowerD l)).length → (∀ j, j < i → isHx ((ints (toLowerD l)).getD j 0) = true) → i ≤ 4 := by
 by_cases ha : ∀ b ∈ l, b.toNat < 128
 case pos =>
  rw [low_ascii l ha]
  refine ⟨?_, fun i hi _ => by simp [ints, h] at hi; omega⟩
  unfold hres hv4
  rw [List.all_map]
  rfl
 have hb : ∃ b ∈ l, 128 ≤ b.toNat := by
  by_cases h : ∃ b ∈ l, 128 ≤ b.toNat
  case pos =>
   exact h
  exact absurd (fun b hb => by
   rcases Nat.lt_or_ge b.toNat 128 with h2 | h2
   ·exact h2
   ·exact absurd ⟨b, hb, h2⟩ h) ha
 obtain ⟨b, hb, h128⟩ := hb
 obtain ⟨j, j1, j2, j3⟩ := low_high l 4 ⟨b, by rw [List.take_of_length_le (by omega)]; exact hb, h128⟩
 refine ⟨?_, fun i hi hp => ?_⟩
 ·have h1 : ¬ (ints (toLowerD l)).all isHx = true := by
   intro hh
   have := List.all_eq_true.1 hh _ (List.getElem_mem j2)
   rw [List.getD_eq_getElem?_getD, List.getElem?_eq_getElem j2] at j3
   simp only [Option.getD_some] at j3
   rw [this] at j3
   cases j3
  have h2 : ¬ (ints l).all (fun c => isHx (lowc c)) = true := by
   intro hh
   have := List.all_eq_true.1 hh (b.toNat : Int) (by unfold ints; exact List.mem_map_of_mem hb)
   unfold isHx lowc at this
   simp at this
   split at this <;> omega
  unfold hres hv4
  rw [if_neg h1, if_neg h2]
 ·rcases Nat.lt_or_ge 4 i with h4 | h4
  ·have := hp j (by omega)
   rw [j3] at this
   cases this
  ·exact h4
theorem hfold_snoc (l : List Int) (c : Int) : hfold (l ++ [c]) = hfold l * 16 + hx1 c := by unfold hfold; rw [List.foldl_append]; rfl
theorem hfold_go : ∀ (l : List Int) (a : Int), 0 ≤ a → (∀ c ∈ l, isHx c = true) → 0 ≤ l.foldl (fun n c => n * 16 + hx1 c) a ∧ l.foldl (fun n c => n * 16 + hx1 c) a < (a + 1) * 16 ^ l.length
 | [], a, h0, _ => by simp; omega
 | c :: t, a, h0, h => by
  have hc := h c (by simp)
  rcases hx1_is (c := c) with ⟨_, h3, h4⟩ | ⟨h3, _⟩
  ·obtain ⟨h5, h6⟩ := hfold_go t (a * 16 + hx1 c) (by omega) (fun x hx => h x (by simp [hx]))
   refine ⟨h5, ?_⟩
   rw [List.foldl_cons, List.length_cons, Int.pow_succ]
   refine Int.lt_of_lt_of_le h6 ?_
   have hp : (0 : Int) ≤ 16 ^ t.length := Int.pow_nonneg (by omega)
   calc (a * 16 + hx1 c + 1) * 16 ^ t.length ≤ (a * 16 + 16) * 16 ^ t.length := Int.mul_le_mul_of_nonneg_right (by omega) hp
    _ = (a + 1) * (16 ^ t.length * 16) := by rw [show a * 16 + 16 = (a + 1) * 16 by omega, Int.mul_assoc, Int.mul_comm 16]
  ·rw [h3] at hc; cases hc
theorem hfold_bd (l : List Int) (h : ∀ c ∈ l, isHx c = true) : 0 ≤ hfold l ∧ hfold l < 16 ^ l.length := by
  have := hfold_go l 0 (by omega) h
  rw [Int.zero_add, Int.one_mul] at this
  exact this
theorem bytes_rng (t : ByteArray) (i : Nat) : 0 ≤ (bytesOf t).getD i 0 ∧ (bytesOf t).getD i 0 ≤ 255 := by
  unfold bytesOf
  rw [List.getD_eq_getElem?_getD, List.getElem?_map]
  cases t.data.toList[i]? with
  | none => exact ⟨by decide, by decide⟩
  | some b => have := b.toNat_lt; simp; omega
theorem pow4 {n : Nat} (h : n ≤ 4) : (16 : Int) ^ n ≤ 65536 := by
  obtain rfl | rfl | rfl | rfl | rfl : n = 0 ∨ n = 1 ∨ n = 2 ∨ n = 3 ∨ n = 4 := by omega
  all_goals decide
theorem or_hex {n k : Int} (h0 : 0 ≤ n) (h1 : n < 65536) (k0 : 0 ≤ k) (k1 : k ≤ 15) : bits .or .i64 (wrap64 (n * 16)) k = n * 16 + k := by
  obtain ⟨a, rfl⟩ := Int.eq_ofNat_of_zero_le h0
  obtain ⟨b, rfl⟩ := Int.eq_ofNat_of_zero_le k0
  have h := Nat.two_pow_add_eq_or_of_lt (i := 4) (b := b) (by omega) a
  obtain ⟨c, hc⟩ : ∃ c, 2 ^ 4 * a = c := ⟨_, rfl⟩
  rw [hc] at h
  have hc2 : c = 16 * a := by omega
  clear hc
  rw [show wrap64 ((a : Int) * 16) = (c : Int) from p63z]
  show IntKind.i64.wrap ((BitVec.ofInt 64 (c : Int) ||| BitVec.ofInt 64 ((b : Nat) : Int)).toNat : Int) = _
  rw [BitVec.toNat_or, ofInt_u64 _ (by omega), ofInt_u64 b (by omega), ← h]
  rw [wrap_i64_small _ (by omega)]
  omega
def hexS : ByteArray := ⟨#[48, 49, 50, 51, 52, 53, 54, 55, 56, 57, 97, 98, 99, 100, 101, 102]⟩
theorem ib_hex {c k : Int} (h0 : 0 ≤ c) (h1 : c ≤ 255) (hk : hx1 c = k) (W : World) : Calls Tryz.prog 126 #[.string ⟨#[48, 49, 50, 51, 52, 53, 54, 55, 56, 57, 97, 98, 99, 100, 101, 102]⟩, .int .u8 c] W fun e w' => e = .returned (.int .i64 k) ∧ w' = W := by
  have := Tryz.strings_IndexByte hexS c W
  rw [show hexS.data.toList = [48, 49, 50, 51, 52, 53, 54, 55, 56, 57, 97, 98, 99, 100, 101, 102] from rfl, idx_hex h0 h1, hk] at this
  exact this
theorem half_calls (s : ByteArray) (w : World) (hs : s.size ≤ 1099511627776) (HT_ : Tabs w) : Calls Tryz.prog 114 #[.string s] w fun e w' => e = .returned (.int .i64 (halfF s)) ∧ Below w.heap.size w w' := by
 unfold halfF
 by_cases h4 : s.size < 4
 case pos =>
  rw [if_pos h4]
  go_enter Tryz.func114, Tryz.ntmps114
  go_wp2
  go_ret
  exact ⟨rfl, Below.refl _ _⟩
 rw [if_neg h4]
 obtain ⟨u, hu⟩ : ∃ u, s.extract 0 4 = u := ⟨_, rfl⟩
 have hul : u.data.toList.length = 4 := by rw [data_length, ← hu, ByteArray.size_extract]; omega
 have hbu : (bytesOf s).take 4 = ints u.data.toList := by
  rw [← hu]
  unfold bytesOf ints
  simp [ByteArray.data_extract, Array.toList_extract, List.extract, List.map_take]
 obtain ⟨h1, h2⟩ := low_half u.data.toList hul
 rw [hbu, ← h1]
 obtain ⟨t, ht⟩ : ∃ t : ByteArray, (⟨(toLowerD u.data.toList).toArray⟩ : ByteArray) = t := ⟨_, rfl⟩
 have hL : ints (toLowerD u.data.toList) = bytesOf t := by rw [← ht]; rfl
 rw [hL] at h2 ⊢
 have hlow := fun W (hT : Tabs W) => Tryz.strings_ToLower_any u W (by rw [show u.size = 4 by rw [← data_length]; exact hul]; omega) hT.cas hT.utf
 rw [ht] at hlow
 have hlow1 := hlow w HT_
 have hcv : ∀ W, (convert 9 23 (.string t)).run Tryz.prog W = .ok (.slice (some ⟨W.heap.size, 0, none⟩) t.size (grownCap W t.size 0 5)) (Lib.bytesWorld W 5 t) := fun W => Lib.run_convert_string_bytes (e := 5) W _ _ _ Tryz.underlying9 Tryz.underlying23 Tryz.underlying5
 have HU := hid h2
 clear h1 h2 hbu hul hL ht hlow
 go_enter Tryz.func114, Tryz.ntmps114
 go_wp2_with (go_at_call 125; refine hlow1.mono ?_; rintro e w1 ⟨rfl, hb1⟩)
 clear hu hlow1
 go_loopw [3, 15] (fun n v wr => ∃ i : Nat, v = .int .i64 i ∧ i ≤ t.size ∧ n = .int .i64 (hfold ((bytesOf t).take i)) ∧ (∀ j, j < i → isHx ((bytesOf t).getD j 0) = true) ∧ Below w.heap.size w wr ∧ (∀ j, j < t.size → wr.cell? ⟨w1.heap.size, j, none⟩ = some (.int .u8 ((bytesOf t).getD j 0)))) (fun _ v _ => t.size - (intOf v).toNat)
 case atStart =>
  refine ⟨0, rfl, Nat.zero_le _, by rw [List.take_zero]; rfl, fun j hj => by omega, hb1.trans ((bw_below w1 5 t).mono hb1.size), fun j hj => ?_⟩
  rw [Lib.bytesWorld_cell w1 5 t j hj, bytes_at t j hj]
 case round =>
  obtain ⟨i, rfl, hle, rfl, hall, hbl, hcs⟩ := hrel
  by_cases hlt : i < t.size
  case neg =>
   go_wp2
   go_ret
   refine ⟨?_, hbl⟩
   have hi : i = t.size := by omega
   rw [List.take_of_length_le (by rw [bytesOf_length]; omega)]
   have hp : (bytesOf t).all isHx = true := by
    refine List.all_eq_true.2 fun x hx => ?_
    obtain ⟨j, hj, rfl⟩ := List.getElem_of_mem hx
    have := hall j (by rw [bytesOf_length] at hj; omega)
    rw [List.getD_eq_getElem?_getD, List.getElem?_eq_getElem hj] at this
    simpa using this
   unfold hres
   rw [if_pos hp]
   rfl
  obtain ⟨c, hc⟩ : ∃ c, (bytesOf t).getD i 0 = c := ⟨_, rfl⟩
  have hcell := hcs i hlt
  rw [hc] at hcell
  have hc01 : 0 ≤ c ∧ c ≤ 255 := by rw [← hc]; exact bytes_rng t i
  have hix := idx_hex hc01.1 hc01.2
  have hbd := hfold_bd ((bytesOf t).take i) (fun x hx => by
   obtain ⟨j, hj, rfl⟩ := List.getElem_of_mem hx
   rw [List.length_take] at hj
   have := hall j (by omega)
   rw [List.getD_eq_getElem?_getD, List.getElem?_eq_getElem (by omega)] at this
   simpa using this)
  have hi4 := HU.out i (by rw [bytesOf_length]; exact hle) hall
  have hbd2 : hfold ((bytesOf t).take i) < 65536 := by
   refine Int.lt_of_lt_of_le hbd.2 (pow4 ?_)
   rw [List.length_take]
   omega
  have htk : (bytesOf t).take (i + 1) = (bytesOf t).take i ++ [c] := by
   have h2 : i < (bytesOf t).length := by rw [bytesOf_length]; exact hlt
   rw [List.take_add_one, List.getElem?_eq_getElem h2, ← hc]
   simp [List.getD_eq_getElem?_getD, List.getElem?_eq_getElem h2]
  obtain ⟨n, hn⟩ : ∃ n, hfold ((bytesOf t).take i) = n := ⟨_, rfl⟩
  rw [hn] at hbd hbd2
  rcases hx1_is (c := c) with ⟨hx, k0, k1⟩ | ⟨hx, hk⟩
  ·obtain ⟨k, hk⟩ : ∃ k, hx1 c = k := ⟨_, rfl⟩
   rw [hk] at hix k0 k1
   have hib := ib_hex hc01.1 hc01.2 hk
   have hk0 : ¬ k < 0 := by omega
   have HC := hid hc
   have HALL := hid (And.intro hall (And.intro hbl (And.intro hcs (And.intro htk (And.intro hbd (And.intro hbd2 (And.intro hn (And.intro k0 (And.intro k1 hi4)))))))))
   clear hall hbl hcs htk hbd hbd2 hi4 hix hn hc hc01
   go_wp2_with (go_at_call 126; refine (hib _).mono ?_; rintro e w2 ⟨rfl, hw⟩; rw [hw])
   obtain ⟨hall, hbl, hcs, htk, hbd, hbd2, hn, k0, k1, hi4⟩ := HALL.out
   have hw : wrap64 ((i : Int) + 1) = (i : Int) + 1 := p63z
   rw [hw]
   rw [hn]
   rw [or_hex hbd.1 hbd2 k0 k1]
   refine ⟨⟨i + 1, by go_num, hlt, ?_, fun j hj => ?_, hbl, hcs⟩, p70z⟩
   ·rw [htk, hfold_snoc, hn, hk]
   ·rcases Nat.lt_or_ge j i with h | h
    ·exact hall j h
    ·have : j = i := by omega
     rw [this, HC.out]
     exact hx
  ·have hib := ib_hex hc01.1 hc01.2 hk
   have hno : hres (bytesOf t) = -1 := by
    unfold hres
    rw [if_neg]
    intro hh
    have h2 : i < (bytesOf t).length := by rw [bytesOf_length]; exact hlt
    have := List.all_eq_true.1 hh _ (List.getElem_mem h2)
    rw [List.getD_eq_getElem?_getD, List.getElem?_eq_getElem h2] at hc
    simp only [Option.getD_some] at hc
    rw [hc, hx] at this
    cases this
   clear hall hcs htk hbd hbd2 hi4 hix hn hc hc01
   go_wp2_with (go_at_call 126; refine (hib _).mono ?_; rintro e w2 ⟨rfl, hw⟩; rw [hw])
   go_ret
   exact ⟨by rw [hno]; rfl, hbl⟩
end Go.Proofs.YtodnggilomanbaaGreatDoor.Hand
