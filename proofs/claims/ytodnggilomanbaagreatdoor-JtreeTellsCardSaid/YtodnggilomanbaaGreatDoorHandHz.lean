/-
  jtree.half: the walk. text.Rune: the walk. jtree.spelt: the walk.
-/
import Derived.Test.YtodnggilomanbaaGreatDoorAp
import Derived.Test.YtodnggilomanbaaGreatDoorHandBa
import Derived.Test.YtodnggilomanbaaGreatDoorHandAa
import Derived.Test.YtodnggilomanbaaGreatDoorShelf
import Derived.Lib.MapLaws
import Derived.Lib.QuoteBits
import Derived.OwnWalk
import Derived.Outline
import Derived.Lib.Hide
import Derived.Lib.ValidAsc
section
set_option maxRecDepth 100000
set_option maxHeartbeats 4000000
namespace Go.Proofs.YtodnggilomanbaaGreatDoor.Hand
open Go.RowKit Go.Lib Go.Proofs.YtodnggilomanbaaGreatDoorW.PrintWords Go.Proofs.YtodnggilomanbaaGreatDoorW.PrintLast Go.Proofs.YtodnggilomanbaaGreatDoorW.PrintMore Go.Proofs.YtodnggilomanbaaGreatDoor.PAll
set_option linter.unusedVariables false
set_option linter.unusedSimpArgs false

/-! ### Small letters of what is beyond ASCII are no hexadecimal digits -/
def rowFar (x : CaseRow) : Bool := decide (x.2.1 < 128) || decide (x.delta 1 > 1114111) || decide (102 < (x.1 : Int) + x.delta 1)
theorem rowsFar : caseT.all rowFar = true := p103z
theorem caseA_far (i : Nat) (hi : i < caseA.size) : rowFar (caseA.getD i (0, 0, 0, 0, 0)) = true := by
  have hm : caseA.getD i (0, 0, 0, 0, 0) ∈ caseT := by
    unfold caseA at hi ⊢
    simp only [List.size_toArray] at hi
    simp [Array.getD, hi]
  exact List.all_eq_true.1 rowsFar _ hm
theorem lower_far (r : Int) (h : 128 ≤ r) : 102 < toLowerU r := by
 unfold toLowerU
 rw [if_neg (by omega)]
 unfold toR lookupGo
 cases hi : lookupIdx caseA r (caseA.size + 1) 0 caseA.size with
 | none => simp only [Option.map_none]; omega
 | some i =>
  obtain ⟨hil, hlo, hhi⟩ := lookupIdx_some caseA r _ _ _ i hi
  have hf := caseA_far i hil
  simp only [Option.map_some]
  generalize caseA.getD i (0, 0, 0, 0, 0) = x at hlo hhi hf ⊢
  simp only [rowFar, Bool.or_eq_true, decide_eq_true_eq] at hf
  unfold convertR
  split
  ·omega
  ·rename_i hd
   rcases hf with (hf | hf) | hf
   ·omega
   ·omega
   ·omega

/-! ### Small letters of four bytes -/
def isHx (c : Int) : Bool := (decide (48 ≤ c) && decide (c ≤ 57)) || (decide (97 ≤ c) && decide (c ≤ 102))
def hx1 (c : Int) : Int := if 48 ≤ c ∧ c ≤ 57 then c - 48 else if 97 ≤ c ∧ c ≤ 102 then c - 87 else -1
theorem idx_all : ∀ c : Fin 256, Lib.indexByte [48, 49, 50, 51, 52, 53, 54, 55, 56, 57, 97, 98, 99, 100, 101, 102] (((c.val : Nat) : Int)).toNat.toUInt8 = hx1 ((c.val : Nat) : Int) := p103z
theorem idx_hex {c : Int} (h0 : 0 ≤ c) (h1 : c ≤ 255) : Lib.indexByte [48, 49, 50, 51, 52, 53, 54, 55, 56, 57, 97, 98, 99, 100, 101, 102] c.toNat.toUInt8 = hx1 c := by
  have := idx_all ⟨c.toNat, by omega⟩
  simp only at this
  rwa [show ((c.toNat : Nat) : Int) = c from Int.toNat_of_nonneg h0] at this
theorem hx1_is {c : Int} : (isHx c = true ∧ 0 ≤ hx1 c ∧ hx1 c ≤ 15) ∨ (isHx c = false ∧ hx1 c = -1) := by
 unfold isHx hx1
 by_cases h : 48 ≤ c ∧ c ≤ 57
 case pos =>
  left
  rw [if_pos h]
  refine ⟨by simp [h.1, h.2], by omega, by omega⟩
 rw [if_neg h]
 by_cases h2 : 97 ≤ c ∧ c ≤ 102
 case pos =>
  left
  rw [if_pos h2]
  refine ⟨by simp [h2.1, h2.2], by omega, by omega⟩
 right
 rw [if_neg h2]
 refine ⟨?_, rfl⟩
 simp only [Bool.or_eq_false_iff, Bool.and_eq_false_iff, decide_eq_false_iff_not]
 omega
def ints (l : List UInt8) : List Int := l.map fun b => (b.toNat : Int)
def hfold (l : List Int) : Int := l.foldl (fun n c => n * 16 + hx1 c) 0
/-- A byte's small letter, as a number. -/
def lowc (c : Int) : Int := if 65 ≤ c ∧ c ≤ 90 then c + 32 else c
theorem lowB_all : ∀ c : Fin 128, ((lowerB (UInt8.ofNat c.val)).toNat : Int) = lowc ((c.val : Nat) : Int) := p103z
theorem low_ascii : ∀ l : List UInt8, (∀ b ∈ l, b.toNat < 128) → ints (toLowerD l) = (ints l).map lowc := by
  intro l h
  rw [toLowerD_ascii l h]
  unfold toLowerA ints
  rw [List.map_map, List.map_map]
  refine List.map_congr_left fun b hb => ?_
  have := lowB_all ⟨b.toNat, h b hb⟩
  simp only [Function.comp]
  rw [← this]
  simp
theorem enc_far {r : Int} (h : 102 < r) : ∃ c u, encodeRuneZ r = c :: u ∧ isHx c = false := by
 unfold encodeRuneZ
 split
 ·exact ⟨_, _, rfl, by unfold isHx; simp; omega⟩
 ·split
  ·exact ⟨_, _, rfl, by unfold isHx; simp; omega⟩
  ·split
   ·exact ⟨_, _, rfl, by unfold isHx; simp; omega⟩
   ·split
    ·exact ⟨_, _, rfl, by unfold isHx; simp; omega⟩
    ·exact ⟨_, _, rfl, by decide⟩
/-- What has a byte beyond ASCII among its first has no hexadecimal digits for it. -/
theorem low_high : ∀ (l : List UInt8) (k : Nat), (∃ b ∈ l.take k, 128 ≤ b.toNat) → ∃ j, j < k ∧ j < (ints (toLowerD l)).length ∧ isHx ((ints (toLowerD l)).getD j 0) = false
 | [], k, ⟨b, hb, _⟩ => by simp at hb
 | b :: t, 0, ⟨x, hx, _⟩ => by simp at hx
 | b :: t, k + 1, h => by
  by_cases hb : b.toNat < 128
  case pos =>
   have h2 : ∃ x ∈ t.take k, 128 ≤ x.toNat := by
    obtain ⟨x, hx, h128⟩ := h
    rw [List.take_succ_cons] at hx
    rcases List.mem_cons.1 hx with rfl | hx
    ·omega
    ·exact ⟨x, hx, h128⟩
   obtain ⟨j, j1, j2, j3⟩ := low_high t k h2
   have e : ints (toLowerD (b :: t)) = ((lowerB b).toNat : Int) :: ints (toLowerD t) := by
    unfold toLowerD
    rw [mapD_step toLowerU (b :: t) (by simp), decodeL_ascii b t hb]
    dsimp only
    rw [if_pos (toLowerU_range b.toNat (by omega)).1, lower_byte ⟨b.toNat, hb⟩, List.drop_succ_cons, List.drop_zero]
    simp [ints]
   rw [e]
   exact ⟨j + 1, by omega, by simp; omega, by simpa using j3⟩
  have hd : 128 ≤ (decodeL (b :: t)).1 ∧ (decodeL (b :: t)).1 ≤ 1114111 := by
   refine ⟨?_, decodeL_rune _⟩
   rw [decodeL_N]
   exact decN_high hb
  have hf := lower_far ((decodeL (b :: t)).1 : Int) (by omega)
  obtain ⟨c, u, he, hx⟩ := enc_far hf
  have e : ∃ u', ints (toLowerD (b :: t)) = c :: u' := by
   unfold toLowerD
   rw [mapD_step toLowerU (b :: t) (by simp), if_pos (by omega)]
   refine ⟨u ++ ints (mapD toLowerU ((b :: t).drop (decodeL (b :: t)).2)), ?_⟩
   rw [← List.cons_append, ← he]
   unfold ints
   rw [List.map_append]
   congr 1
   unfold encodeRune
   rw [List.map_map]
   conv => rhs; rw [← List.map_id (encodeRuneZ _)]
   refine List.map_congr_left fun x hx => ?_
   obtain ⟨x0, x1⟩ := encodeRuneZ_byte _ x hx
   simp only [Function.comp, id]
   rw [show x.toNat.toUInt8.toNat = x.toNat from by simp; omega]
   omega
  obtain ⟨u', e⟩ := e
  rw [e]
  exact ⟨0, by omega, by simp, by simpa using hx⟩
def hv4 (l : List Int) : Int := if l.all (fun c => isHx (lowc c)) = true then hfold (l.map lowc) else -1
/-- The number of four digits with which a text begins. -/
def halfF (s : ByteArray) : Int := if s.size < 4 then -1 else hv4 ((bytesOf s).take 4)
def hres (L : List Int) : Int := if L.all isHx = true then hfold L else -1
theorem low_half (l : List UInt8) (h : l.length = 4) : hres (ints (toLowerD l)) = hv4 (ints l) ∧ ∀ i, i ≤ (ints (toLowerD l)).length → (∀ j, j < i → isHx ((ints (toLowerD l)).getD j 0) = true) → i ≤ 4 := by
 by_cases ha : ∀ b ∈ l, b.toNat < 128
 case pos =>
  rw [low_ascii l ha]
  refine ⟨?_, fun i hi _ => by simp [ints, h] at hi; omega⟩
  unfold hres hv4
  rw [List.all_map]
  rfl
 have hb : ∃ b ∈ l, 128 ≤ b.toNat := by
  by_cases h : ∃ b ∈ l, 128 ≤ b.toNat
  case pos =>
   exact h
  exact absurd (fun b hb => by
   rcases Nat.lt_or_ge b.toNat 128 with h2 | h2
   ·exact h2
   ·exact absurd ⟨b, hb, h2⟩ h) ha
 obtain ⟨b, hb, h128⟩ := hb
 obtain ⟨j, j1, j2, j3⟩ := low_high l 4 ⟨b, by rw [List.take_of_length_le (by omega)]; exact hb, h128⟩
 refine ⟨?_, fun i hi hp => ?_⟩
 ·have h1 : ¬ (ints (toLowerD l)).all isHx = true := by
   intro hh
   have := List.all_eq_true.1 hh _ (List.getElem_mem j2)
   rw [List.getD_eq_getElem?_getD, List.getElem?_eq_getElem j2] at j3
   simp only [Option.getD_some] at j3
   rw [this] at j3
   cases j3
  have h2 : ¬ (ints l).all (fun c => isHx (lowc c)) = true := by
   intro hh
   have := List.all_eq_true.1 hh (b.toNat : Int) (by unfold ints; exact List.mem_map_of_mem hb)
   unfold isHx lowc at this
   simp at this
   split at this <;> omega
  unfold hres hv4
  rw [if_neg h1, if_neg h2]
 ·rcases Nat.lt_or_ge 4 i with h4 | h4
  ·have := hp j (by omega)
   rw [j3] at this
   cases this
  ·exact h4
theorem ii (l : List Int) (c : Int) : hfold (l ++ [c]) = hfold l * 16 + hx1 c := by unfold hfold; rw [List.foldl_append]; rfl
theorem hfold_go : ∀ (l : List Int) (a : Int), 0 ≤ a → (∀ c ∈ l, isHx c = true) → 0 ≤ l.foldl (fun n c => n * 16 + hx1 c) a ∧ l.foldl (fun n c => n * 16 + hx1 c) a < (a + 1) * 16 ^ l.length
 | [], a, h0, _ => by simp; omega
 | c :: t, a, h0, h => by
  have hc := h c (by simp)
  rcases hx1_is (c := c) with ⟨_, h3, h4⟩ | ⟨h3, _⟩
  ·obtain ⟨h5, h6⟩ := hfold_go t (a * 16 + hx1 c) (by omega) (fun x hx => h x (by simp [hx]))
   refine ⟨h5, ?_⟩
   rw [List.foldl_cons, List.length_cons, Int.pow_succ]
   refine Int.lt_of_lt_of_le h6 ?_
   have hp : (0 : Int) ≤ 16 ^ t.length := Int.pow_nonneg (by omega)
   calc (a * 16 + hx1 c + 1) * 16 ^ t.length ≤ (a * 16 + 16) * 16 ^ t.length := Int.mul_le_mul_of_nonneg_right (by omega) hp
    _ = (a + 1) * (16 ^ t.length * 16) := by rw [show a * 16 + 16 = (a + 1) * 16 by omega, Int.mul_assoc, Int.mul_comm 16]
  ·rw [h3] at hc; cases hc
theorem hfold_bd (l : List Int) (h : ∀ c ∈ l, isHx c = true) : 0 ≤ hfold l ∧ hfold l < 16 ^ l.length := by
  have := hfold_go l 0 (by omega) h
  rw [Int.zero_add, Int.one_mul] at this
  exact this
theorem bytes_rng (t : ByteArray) (i : Nat) : 0 ≤ (bytesOf t).getD i 0 ∧ (bytesOf t).getD i 0 ≤ 255 := by
  unfold bytesOf
  rw [List.getD_eq_getElem?_getD, List.getElem?_map]
  cases t.data.toList[i]? with
  | none => exact ⟨by decide, by decide⟩
  | some b => have := b.toNat_lt; simp; omega
theorem pow4 {n : Nat} (h : n ≤ 4) : (16 : Int) ^ n ≤ 65536 := by
  obtain rfl | rfl | rfl | rfl | rfl : n = 0 ∨ n = 1 ∨ n = 2 ∨ n = 3 ∨ n = 4 := by omega
  all_goals decide
theorem or_hex {n k : Int} (h0 : 0 ≤ n) (h1 : n < 65536) (k0 : 0 ≤ k) (k1 : k ≤ 15) : bits .or .i64 (wrap64 (n * 16)) k = n * 16 + k := by
  obtain ⟨a, rfl⟩ := Int.eq_ofNat_of_zero_le h0
  obtain ⟨b, rfl⟩ := Int.eq_ofNat_of_zero_le k0
  have h := Nat.two_pow_add_eq_or_of_lt (i := 4) (b := b) (by omega) a
  obtain ⟨c, hc⟩ : ∃ c, 2 ^ 4 * a = c := ⟨_, rfl⟩
  rw [hc] at h
  have hc2 : c = 16 * a := by omega
  clear hc
  rw [show wrap64 ((a : Int) * 16) = (c : Int) from p76z]
  show IntKind.i64.wrap ((BitVec.ofInt 64 (c : Int) ||| BitVec.ofInt 64 ((b : Nat) : Int)).toNat : Int) = _
  rw [BitVec.toNat_or, ofInt_u64 _ (by omega), ofInt_u64 b (by omega), ← h]
  rw [wrap_i64_small _ (by omega)]
  omega
def hexS : ByteArray := ⟨#[48, 49, 50, 51, 52, 53, 54, 55, 56, 57, 97, 98, 99, 100, 101, 102]⟩
theorem ib_hex {c k : Int} (h0 : 0 ≤ c) (h1 : c ≤ 255) (hk : hx1 c = k) (W : World) : Calls Tryz.prog 126 #[.string ⟨#[48, 49, 50, 51, 52, 53, 54, 55, 56, 57, 97, 98, 99, 100, 101, 102]⟩, .int .u8 c] W fun e w' => e = .returned (.int .i64 k) ∧ w' = W := by
  have := Tryz.strings_IndexByte hexS c W
  rw [show hexS.data.toList = [48, 49, 50, 51, 52, 53, 54, 55, 56, 57, 97, 98, 99, 100, 101, 102] from rfl, idx_hex h0 h1, hk] at this
  exact this
theorem fb (s : ByteArray) (w : World) (hs : s.size ≤ 1099511627776) (HT_ : Tabs w) : Calls Tryz.prog 114 #[.string s] w fun e w' => e = .returned (.int .i64 (halfF s)) ∧ Below w.heap.size w w' := by
 unfold halfF
 by_cases h4 : s.size < 4
 case pos =>
  rw [if_pos h4]
  go_enter Tryz.func114, Tryz.ntmps114
  go_wp2
  go_ret
  exact ⟨rfl, Below.refl _ _⟩
 rw [if_neg h4]
 obtain ⟨u, hu⟩ : ∃ u, s.extract 0 4 = u := ⟨_, rfl⟩
 have hul : u.data.toList.length = 4 := by rw [data_length, ← hu, ByteArray.size_extract]; omega
 have hbu : (bytesOf s).take 4 = ints u.data.toList := by
  rw [← hu]
  unfold bytesOf ints
  simp [ByteArray.data_extract, Array.toList_extract, List.extract, List.map_take]
 obtain ⟨h1, h2⟩ := low_half u.data.toList hul
 rw [hbu, ← h1]
 obtain ⟨t, ht⟩ : ∃ t : ByteArray, (⟨(toLowerD u.data.toList).toArray⟩ : ByteArray) = t := ⟨_, rfl⟩
 have hL : ints (toLowerD u.data.toList) = bytesOf t := by rw [← ht]; rfl
 rw [hL] at h2 ⊢
 have hlow := fun W (hT : Tabs W) => Tryz.strings_ToLower_any u W (by rw [show u.size = 4 by rw [← data_length]; exact hul]; omega) hT.cas hT.utf
 rw [ht] at hlow
 have hlow1 := hlow w HT_
 have hcv : ∀ W, (convert 9 23 (.string t)).run Tryz.prog W = .ok (.slice (some ⟨W.heap.size, 0, none⟩) t.size (grownCap W t.size 0 5)) (Lib.bytesWorld W 5 t) := fun W => Lib.run_convert_string_bytes (e := 5) W _ _ _ Tryz.underlying9 Tryz.underlying23 Tryz.underlying5
 have HU := hid h2
 clear h1 h2 hbu hul hL ht hlow
 go_enter Tryz.func114, Tryz.ntmps114
 go_wp2_with (go_at_call 125; refine hlow1.mono ?_; rintro e w1 ⟨rfl, hb1⟩)
 clear hu hlow1
 go_loopw [3, 15] (fun n v wr => ∃ i : Nat, v = .int .i64 i ∧ i ≤ t.size ∧ n = .int .i64 (hfold ((bytesOf t).take i)) ∧ (∀ j, j < i → isHx ((bytesOf t).getD j 0) = true) ∧ Below w.heap.size w wr ∧ (∀ j, j < t.size → wr.cell? ⟨w1.heap.size, j, none⟩ = some (.int .u8 ((bytesOf t).getD j 0)))) (fun _ v _ => t.size - (intOf v).toNat)
 case atStart =>
  refine ⟨0, rfl, Nat.zero_le _, by rw [List.take_zero]; rfl, fun j hj => by omega, hb1.trans ((bw_below w1 5 t).mono hb1.size), fun j hj => ?_⟩
  rw [Lib.bytesWorld_cell w1 5 t j hj, bytes_at t j hj]
 case round =>
  obtain ⟨i, rfl, hle, rfl, hall, hbl, hcs⟩ := hrel
  by_cases hlt : i < t.size
  case neg =>
   go_wp2
   go_ret
   refine ⟨?_, hbl⟩
   have hi : i = t.size := by omega
   rw [List.take_of_length_le p119z]
   have hp : (bytesOf t).all isHx = true := by
    refine List.all_eq_true.2 fun x hx => ?_
    obtain ⟨j, hj, rfl⟩ := List.getElem_of_mem hx
    have := hall j (by rw [bytesOf_length] at hj; omega)
    rw [List.getD_eq_getElem?_getD, List.getElem?_eq_getElem hj] at this
    simpa using this
   unfold hres
   rw [if_pos hp]
   rfl
  obtain ⟨c, hc⟩ : ∃ c, (bytesOf t).getD i 0 = c := ⟨_, rfl⟩
  have hcell := hcs i hlt
  rw [hc] at hcell
  have hc01 : 0 ≤ c ∧ c ≤ 255 := by rw [← hc]; exact bytes_rng t i
  have hix := idx_hex hc01.1 hc01.2
  have hbd := hfold_bd ((bytesOf t).take i) (fun x hx => by
   obtain ⟨j, hj, rfl⟩ := List.getElem_of_mem hx
   rw [List.length_take] at hj
   have := hall j (by omega)
   rw [List.getD_eq_getElem?_getD, List.getElem?_eq_getElem (by omega)] at this
   simpa using this)
  have hi4 := HU.out i (by rw [bytesOf_length]; exact hle) hall
  have hbd2 : hfold ((bytesOf t).take i) < 65536 := by
   refine Int.lt_of_lt_of_le hbd.2 (pow4 ?_)
   rw [List.length_take]
   omega
  have htk : (bytesOf t).take (i + 1) = (bytesOf t).take i ++ [c] := by
   have h2 : i < (bytesOf t).length := by rw [bytesOf_length]; exact hlt
   rw [List.take_add_one, List.getElem?_eq_getElem h2, ← hc]
   simp [List.getD_eq_getElem?_getD, List.getElem?_eq_getElem h2]
  obtain ⟨n, hn⟩ : ∃ n, hfold ((bytesOf t).take i) = n := ⟨_, rfl⟩
  rw [hn] at hbd hbd2
  rcases hx1_is (c := c) with ⟨hx, k0, k1⟩ | ⟨hx, hk⟩
  ·obtain ⟨k, hk⟩ : ∃ k, hx1 c = k := ⟨_, rfl⟩
   rw [hk] at hix k0 k1
   have hib := ib_hex hc01.1 hc01.2 hk
   have hk0 : ¬ k < 0 := by omega
   have HC := hid hc
   have HALL := hid (And.intro hall (And.intro hbl (And.intro hcs (And.intro htk (And.intro hbd (And.intro hbd2 (And.intro hn (And.intro k0 (And.intro k1 hi4)))))))))
   clear hall hbl hcs htk hbd hbd2 hi4 hix hn hc hc01
   go_wp2_with (go_at_call 126; refine (hib _).mono ?_; rintro e w2 ⟨rfl, hw⟩; rw [hw])
   obtain ⟨hall, hbl, hcs, htk, hbd, hbd2, hn, k0, k1, hi4⟩ := HALL.out
   have hw : wrap64 ((i : Int) + 1) = (i : Int) + 1 := p76z
   rw [hw]
   rw [hn]
   rw [or_hex hbd.1 hbd2 k0 k1]
   refine ⟨⟨i + 1, by go_num, hlt, ?_, fun j hj => ?_, hbl, hcs⟩, p93z⟩
   ·rw [htk, ii, hn, hk]
   ·rcases Nat.lt_or_ge j i with h | h
    ·exact hall j h
    ·have : j = i := by omega
     rw [this, HC.out]
     exact hx
  ·have hib := ib_hex hc01.1 hc01.2 hk
   have hno : hres (bytesOf t) = -1 := by
    unfold hres
    rw [if_neg]
    intro hh
    have h2 : i < (bytesOf t).length := by rw [bytesOf_length]; exact hlt
    have := List.all_eq_true.1 hh _ (List.getElem_mem h2)
    rw [List.getD_eq_getElem?_getD, List.getElem?_eq_getElem h2] at hc
    simp only [Option.getD_some] at hc
    rw [hc, hx] at this
    cases this
   clear hall hcs htk hbd hbd2 hi4 hix hn hc hc01
   go_wp2_with (go_at_call 126; refine (hib _).mono ?_; rintro e w2 ⟨rfl, hw⟩; rw [hw])
   go_ret
   exact ⟨by rw [hno]; rfl, hbl⟩
end Go.Proofs.YtodnggilomanbaaGreatDoor.Hand
end
section
set_option maxRecDepth 100000
set_option maxHeartbeats 4000000
namespace Go.Proofs.YtodnggilomanbaaGreatDoor.Hand
open Go.RowKit Go.Proofs.YtodnggilomanbaaGreatDoorW.PrintWords
set_option linter.unusedVariables false
set_option linter.unusedSimpArgs false

def isRn (n : Int) : Bool := decide (0 ≤ n ∧ n < 55296) || decide (57343 < n ∧ n ≤ 1114111)
def text_Rune.f (l0 : List Int) (n : Int) : Option (List Int × Int) := if isRn n = true then (if l0.length ≤ 1099511627776 then some (l0 ++ Lib.encodeRuneZ n, 0) else none) else some ([], 20)
theorem fY (n : Int) : Lib.runeCells n = nums .u8 (Lib.encodeRuneZ n) := rfl
theorem text_Rune.calls (A0 : Option Addr) (c0 : Nat) (l0 : List Int) (a1 : Int) (r1 : List Int) (r2 : Int) (w : World) (hr0 : Kd.C (Kd.int .u8) w A0 l0.length l0) (hc0 : l0.length ≤ c0) (h : text_Rune.f l0 a1 = some (r1, r2)) :
 Calls Tryz.prog 116 #[.slice A0 l0.length c0, .int .i64 a1] w fun e w' => ∃ v0_ : Value, e = .returned (.tuple #[v0_, .int .i64 r2]) ∧ Kd.R (Kd.int .u8) 5 w' w.heap.size (fun _ => True) v0_ r1 ∧ Below w.heap.size w w' := by
 unfold text_Rune.f at h
 by_cases hn : isRn a1 = true
 case neg =>
  rw [if_neg hn] at h
  simp only [Option.some.injEq, Prod.mk.injEq] at h
  obtain ⟨rfl, rfl⟩ := h
  simp only [isRn, Bool.or_eq_true, decide_eq_true_eq] at hn
  by_cases h0 : a1 < 0
  case pos =>
   go_enter Tryz.func116, Tryz.ntmps116
   go_wp2
   go_ret2
   exact ⟨_, rfl, Kd.R_nil _ _ _ _ _, Below.refl _ _⟩
  by_cases h1 : 1114111 < a1
  case pos =>
   go_enter Tryz.func116, Tryz.ntmps116
   go_wp2
   go_ret2
   exact ⟨_, rfl, Kd.R_nil _ _ _ _ _, Below.refl _ _⟩
  have b0 : 0 ≤ a1 := by omega
  have b1 : a1 ≤ 1114111 := by omega
  have hv : Lib.validRune a1 = false := by unfold Lib.validRune; exact decide_eq_false (by omega)
  go_enter Tryz.func116, Tryz.ntmps116
  go_wp2_with (go_at_call 128; refine (Tryz.utf8_ValidRune a1 w).mono ?_; rintro e w1 ⟨rfl, hw1⟩; rw [hw1]; clear hw1)
  go_ret2
  exact ⟨_, rfl, Kd.R_nil _ _ _ _ _, Below.refl _ _⟩
 rw [if_pos hn] at h
 split at h
 ·rename_i hl
  simp only [Option.some.injEq, Prod.mk.injEq] at h
  obtain ⟨rfl, rfl⟩ := h
  have hn' := hn
  simp only [isRn, Bool.or_eq_true, decide_eq_true_eq] at hn'
  have hv : Lib.validRune a1 = true := by unfold Lib.validRune; exact decide_eq_true (by omega)
  have hcl := hid (bK.calls A0 c0 l0 l0 w hr0 hc0 (by rw [bK.f, if_pos (by omega)]))
  have h0 : ¬ a1 < 0 := by omega
  have h1 : ¬ 1114111 < a1 := by omega
  have b0 : 0 ≤ a1 := by omega
  have b1 : a1 ≤ 1114111 := by omega
  have hzl := Lib.encodeRuneZ_length a1
  go_enter Tryz.func116, Tryz.ntmps116
  go_wp2_with (first
   | (go_at_call 128; refine (Tryz.utf8_ValidRune a1 w).mono ?_; rintro e w1 ⟨rfl, hw1⟩; rw [hw1]; clear hw1)
   | (go_at_call 130; refine hcl.out.mono ?_; rintro e w2 ⟨v, rfl, ho, hB⟩)
   | (go_at_call 129; refine (Tryz.utf8_AppendRune_plain w.heap.size v l0.length (nums .u8 l0) a1 (by omega) (by omega) _ (Kd.own_of_R ho) (by omega) hB.size).mono ?_; rintro e w3 ⟨v', rfl, ho3, o, hg⟩))
  go_ret2
  refine ⟨v', rfl, ?_, (hB.alloc hB.size o).grown hg (by simp; have := hB.size; omega) (own_base (Kd.own_of_R ho))⟩
  refine Kd.R_of_own (enc := Value.int .u8) (h1 := fun _ => rfl) ?_ (fun _ _ => trivial)
  rw [List.length_append]
  rw [fY, eC, ← gu] at ho3
  exact ho3
 ·cases h
end Go.Proofs.YtodnggilomanbaaGreatDoor.Hand
end
section
set_option maxRecDepth 100000
set_option maxHeartbeats 8000000
namespace Go.Proofs.YtodnggilomanbaaGreatDoor.Hand
open Go.RowKit Go.Lib Go.Maps Go.Proofs.YtodnggilomanbaaGreatDoorW.PrintWords Go.Proofs.YtodnggilomanbaaGreatDoorW.PrintLast Go.Proofs.YtodnggilomanbaaGreatDoorW.PrintMore Go.Proofs.YtodnggilomanbaaGreatDoor.PAll
set_option linter.unusedVariables false
set_option linter.unusedSimpArgs false

def escD : DataW Unit := lay [(34, 34), (92, 92), (47, 47), (98, 8), (102, 12), (110, 10), (114, 13), (116, 9)] (.map [])
def escV (c : Int) : Int := if c = 34 then 34 else if c = 92 then 92 else if c = 47 then 47 else if c = 98 then 8 else if c = 102 then 12 else if c = 110 then 10 else if c = 114 then 13 else if c = 116 then 9 else 0
def escH (c : Int) : Bool := decide (c = 34) || decide (c = 92) || decide (c = 47) || decide (c = 98) || decide (c = 102) || decide (c = 110) || decide (c = 114) || decide (c = 116)
theorem esc_all : ∀ c : Fin 256, num? (escD.atKey (.int .u8 (c.val : Int)) (.lit (.int .u8 0))) = escV (c.val : Int) ∧ Maps.has escD (.int .u8 (c.val : Int)) = escH (c.val : Int) := p103z
theorem esc_has {c : Int} (h0 : 0 ≤ c) (h1 : c ≤ 255) : Maps.has escD (.int .u8 c) = escH c := by
  have := (esc_all ⟨c.toNat, by omega⟩).2
  rwa [show (((⟨c.toNat, by omega⟩ : Fin 256).val : Nat) : Int) = c from Int.toNat_of_nonneg h0] at this
theorem esc_val {c x : Int} (h0 : 0 ≤ c) (h1 : c ≤ 255) (h : escD.atKey (.int .u8 c) (.lit (.int .u8 0)) = .lit (.int .u8 x)) : x = escV c := by
  have := (esc_all ⟨c.toNat, by omega⟩).1
  rw [show (((⟨c.toNat, by omega⟩ : Fin 256).val : Nat) : Int) = c from Int.toNat_of_nonneg h0, h] at this
  exact this
/-- The rune part. -/
def runeB (n : Int) : List Int × Int := if isRn n = true then (Lib.encodeRuneZ n, 0) else ([], 20)
/-- Whether a text begins with `\u`. -/
def isU (s : ByteArray) : Bool := Lib.hasPrefix s.data.toList [92, 117]
/-- What is spelt behind `\u`: its number, and what stands behind. -/
def pairF (s : ByteArray) (n : Int) : Int × ByteArray :=
  if isU s = true ∧ 55296 ≤ n ∧ n < 56320 ∧ 56320 ≤ halfF (s.extract 2 s.size) ∧ halfF (s.extract 2 s.size) ≤ 57343 then
    (65536 + (n - 55296) * 1024 + halfF (s.extract 2 s.size) - 56320, s.extract 6 s.size)
  else (n, s)
def spell (s : ByteArray) : List Int × ByteArray × Bool :=
  if escH (bt s 0) = true then ([escV (bt s 0)], s.extract 1 s.size, true)
  else if bt s 0 = 117 ∧ 0 ≤ halfF (s.extract 1 s.size) then
    ((runeB (pairF (s.extract 5 s.size) (halfF (s.extract 1 s.size))).1).1, (pairF (s.extract 5 s.size) (halfF (s.extract 1 s.size))).2, decide ((runeB (pairF (s.extract 5 s.size) (halfF (s.extract 1 s.size))).1).2 = 0))
  else ([], ⟨#[]⟩, false)
theorem row1 (W : World) (base : Nat) (x : Int) (h : base ≤ W.heap.size) : Kd.R (Kd.int .u8) 5 (W.alloc (.cells #[.int .u8 x] 5)) base (fun _ => True) (.slice (some ⟨W.heap.size, 0, none⟩) 1 1) [x] := by
  refine Kd.R_of_own (enc := Value.int .u8) (h1 := fun _ => rfl) ?_ (fun _ _ => trivial)
  have h2 := World.ownsRow_lit (base := base) (e := 5) (size := 1) W #[.int .u8 x] 1 (by omega) (by decide) (by rfl)
  exact h2
theorem rune_row (n : Int) (W : World) : Calls Tryz.prog 116 #[.slice none 0 0, .int .i64 n] W fun e w' => ∃ v0_ : Value, e = .returned (.tuple #[v0_, .int .i64 (runeB n).2]) ∧ Kd.R (Kd.int .u8) 5 w' W.heap.size (fun _ => True) v0_ (runeB n).1 ∧ Below W.heap.size W w' := by
 refine text_Rune.calls none 0 [] n (runeB n).1 (runeB n).2 W (Kd.C_nil _ _) (by simp) ?_
 unfold text_Rune.f runeB
 split
 ·simp
 ·simp
theorem half_rng (s : ByteArray) : -1 ≤ halfF s ∧ halfF s < 65536 ∧ (0 ≤ halfF s → 4 ≤ s.size) := by
 unfold halfF
 split
 ·omega
 ·unfold hv4
  split
  ·rename_i h1 h2
   have h3 : ∀ c ∈ ((bytesOf s).take 4).map lowc, isHx c = true := by
    intro c hc
    obtain ⟨d, hd, rfl⟩ := List.mem_map.1 hc
    exact List.all_eq_true.1 h2 d hd
   obtain ⟨h4, h5⟩ := hfold_bd _ h3
   have h6 := pow4 (n := (((bytesOf s).take 4).map lowc).length) (by rw [List.length_map, List.length_take]; omega)
   omega
  ·omega
/-- CutPrefix's answer, of what begins with `\u`. -/
theorem cut_u (s : ByteArray) (W : World) : Calls Tryz.prog 115 #[.string s, .string ⟨#[92, 117]⟩] W fun e w' => e = .returned (.tuple #[.string (if isU s = true then s.extract 2 s.size else s), .bool (isU s)]) ∧ w' = W := by
 have := Tryz.strings_CutPrefix s ⟨#[92, 117]⟩ W
 have e2 : (⟨(Lib.trimPrefix s.data.toList [92, 117]).toArray⟩ : ByteArray) = if isU s = true then s.extract 2 s.size else s := by
  unfold Lib.trimPrefix isU
  split
  ·refine ByteArray.ext (Array.toList_inj.1 ?_)
   rw [Lib.ext_list]
   rfl
  ·rfl
 rw [show (⟨#[92, 117]⟩ : ByteArray).data.toList = [92, 117] from rfl, e2] at this
 exact this
theorem ij (s : ByteArray) (w : World) (h1 : 1 ≤ s.size) (hs : s.size ≤ 1099511627776) (HT_ : Tabs w) :
 Calls Tryz.prog 102 #[.string s] w fun e w' => ∃ v0_ : Value, e = .returned (.tuple #[v0_, .string (spell s).2.1, .bool (spell s).2.2]) ∧ Kd.R (Kd.int .u8) 5 w' w.heap.size (fun _ => True) v0_ (spell s).1 ∧ Below w.heap.size w w' := by
 have hmm := @run_makeMap Tryz.prog
 have hown : (w.alloc (.map #[] 0)).ownsMap Tryz.prog 5 (plainElem (H := Unit) Tryz.prog 5) w.heap.size 0 (.map []) := World.ownsMap_made _ _ _ _
 have hB : Below w.heap.size w (w.alloc (.map #[] 0)) := (Below.refl _ _).alloc (Nat.le_refl _) _
 obtain ⟨R, hR⟩ : ∃ R, spell s = R := ⟨_, rfl⟩
 rw [hR]
 unfold spell at hR
 have hc := bt_range s 0
 have hp : 0 < s.size := by omega
 obtain ⟨c, hcd⟩ : ∃ c, bt s 0 = c := ⟨_, rfl⟩
 have hat : ∀ h, ((s[0]'h).toNat : Int) = c := fun h => by rw [← hcd]; exact bt_at s 0 h
 obtain ⟨b0, b1⟩ := hc
 rw [hcd] at hR b0 b1
 clear hcd
 have hwf : (Lit.int .u8 c).wf = true := by show (decide (0 ≤ c) && decide (c ≤ 255)) = true; simp [b0, b1]
 have hhas := esc_has b0 b1
 obtain ⟨u, hu⟩ : ∃ u, s.extract 1 s.size = u := ⟨_, rfl⟩
 simp only [hu] at hR
 have hus : u.size + 1 = s.size := by rw [← hu, ByteArray.size_extract]; omega
 by_cases his : escH c = true
 ·rw [if_pos his] at hR
  subst hR
  rw [his] at hhas
  go_enter Tryz.func102, Tryz.ntmps102
  go_upto_region 2 with (first | ((with_reducible refine cf rfl ?_); refine bp _ rfl _ _ _ 132 rfl 5 5 law5 Tryz.underlying132 _ _ _ _ rfl hown p109z _ _ _ rfl rfl (keyOf_int_mk Tryz.underlying5 (by decide)) _ [] (plainElem_int Tryz.underlying5 (by decide)) ?_; intro w1 hown1 hgrow1; have n1 := hB.grown hgrow1 hB.size (fun j hj => p95z); clear hgrow1; clear hown hB; have hown := hown1; have hB := n1; clear hown1 n1))
  have hmap : w1.ownsMap Tryz.prog 5 (plainElem (H := Unit) Tryz.prog 5) w.heap.size 8 escD := hown
  clear hown
  go_wp2_with (first | (at_lookup; refine wpList_lookup_own_ok_int _ rfl _ _ 132 rfl 5 5 .u8 law5 Tryz.underlying132 Tryz.underlying5 (zero5 _) _ _ _ rfl hmap _ _ rfl (keyOf_int_mk Tryz.underlying5 hwf) ?_; intro c' hat' hwc))
  obtain rfl := esc_val b0 b1 hat'
  go_region_with (fail)
  all_goals
   go_simp
   go_wp2
   go_ret3
   exact ⟨_, rfl, Kd.R_drew (row1 w1 w.heap.size (escV c) hB.size), (hB.alloc hB.size _).drew⟩
 rw [if_neg his] at hR
 have his' : escH c = false := by simpa using his
 rw [his'] at hhas
 clear his
 obtain ⟨n, hn⟩ : ∃ n, halfF u = n := ⟨_, rfl⟩
 obtain ⟨n0, n1, n4⟩ := half_rng u
 have HH : ∀ W, Below w.heap.size w W → Calls Tryz.prog 114 #[.string u] W fun e w' => e = .returned (.int .i64 n) ∧ Below W.heap.size W w' := by
  intro W hW
  rw [← hn]
  exact fb u W (by omega) (HT_.below hW)
 rw [hn] at hR n0 n1 n4
 clear hn
 by_cases hno : c = 117 ∧ 0 ≤ n
 case neg =>
  rw [if_neg hno] at hR
  subst hR
  have hcn : c ≠ 117 ∨ (c = 117 ∧ n < 0) := by omega
  rcases hcn with hc17 | ⟨rfl, hn0⟩
  ·have hq1 : (c != 117) = true := bne_iff_ne.mpr hc17
   clear hno n4
   go_enter Tryz.func102, Tryz.ntmps102
   go_upto_region 2 with (first | ((with_reducible refine cf rfl ?_); refine bp _ rfl _ _ _ 132 rfl 5 5 law5 Tryz.underlying132 _ _ _ _ rfl hown p109z _ _ _ rfl rfl (keyOf_int_mk Tryz.underlying5 (by decide)) _ [] (plainElem_int Tryz.underlying5 (by decide)) ?_; intro w1 hown1 hgrow1; have n1 := hB.grown hgrow1 hB.size (fun j hj => p95z); clear hgrow1; clear hown hB; have hown := hown1; have hB := n1; clear hown1 n1))
   have hmap : w1.ownsMap Tryz.prog 5 (plainElem (H := Unit) Tryz.prog 5) w.heap.size 8 escD := hown
   clear hown
   go_wp2_with (first | (at_lookup; refine wpList_lookup_own_ok_int _ rfl _ _ 132 rfl 5 5 .u8 law5 Tryz.underlying132 Tryz.underlying5 (zero5 _) _ _ _ rfl hmap _ _ rfl (keyOf_int_mk Tryz.underlying5 hwf) ?_; intro c' hat' hwc) | (go_at_call 114; (with_reducible refine (HH _ hB).mono ?_); rintro e w2 ⟨rfl, hb2⟩; have hB2 := hB.trans (hb2.mono hB.size)))
   go_ret3
   exact ⟨_, rfl, Kd.R_nil _ _ _ _ _, hB2⟩
  ·clear hno n4
   go_enter Tryz.func102, Tryz.ntmps102
   go_upto_region 2 with (first | ((with_reducible refine cf rfl ?_); refine bp _ rfl _ _ _ 132 rfl 5 5 law5 Tryz.underlying132 _ _ _ _ rfl hown p109z _ _ _ rfl rfl (keyOf_int_mk Tryz.underlying5 (by decide)) _ [] (plainElem_int Tryz.underlying5 (by decide)) ?_; intro w1 hown1 hgrow1; have n1 := hB.grown hgrow1 hB.size (fun j hj => p95z); clear hgrow1; clear hown hB; have hown := hown1; have hB := n1; clear hown1 n1))
   have hmap : w1.ownsMap Tryz.prog 5 (plainElem (H := Unit) Tryz.prog 5) w.heap.size 8 escD := hown
   clear hown
   go_wp2_with (first | (at_lookup; refine wpList_lookup_own_ok_int _ rfl _ _ 132 rfl 5 5 .u8 law5 Tryz.underlying132 Tryz.underlying5 (zero5 _) _ _ _ rfl hmap _ _ rfl (keyOf_int_mk Tryz.underlying5 hwf) ?_; intro c' hat' hwc) | (go_at_call 114; (with_reducible refine (HH _ hB).mono ?_); rintro e w2 ⟨rfl, hb2⟩; have hB2 := hB.trans (hb2.mono hB.size)))
   go_ret3
   exact ⟨_, rfl, Kd.R_nil _ _ _ _ _, hB2⟩
 rw [if_pos hno] at hR
 obtain ⟨rfl, hn0⟩ := hno
 have n5 := n4 hn0
 clear n4
 have hn00 : ¬ n < 0 := by omega
 have hs5 : 5 ≤ s.size := by omega
 obtain ⟨t, ht⟩ : ∃ t, s.extract 5 s.size = t := ⟨_, rfl⟩
 have hts : t.size + 5 = s.size := by rw [← ht, ByteArray.size_extract]; omega
 rw [ht] at hR
 obtain ⟨pf, hpf⟩ : ∃ pf, pairF t n = pf := ⟨_, rfl⟩
 obtain ⟨rr, hrr⟩ : ∃ rr, runeB pf.1 = rr := ⟨_, rfl⟩
 have HRU : ∀ W, Calls Tryz.prog 116 #[.slice none 0 0, .int .i64 pf.1] W fun e w' => ∃ v0_ : Value, e = .returned (.tuple #[v0_, .int .i64 rr.2]) ∧ Kd.R (Kd.int .u8) 5 w' W.heap.size (fun _ => True) v0_ rr.1 ∧ Below W.heap.size W w' := by
  intro W
  rw [← hrr]
  exact rune_row pf.1 W
 rw [hpf, hrr] at hR
 subst hR
 clear hrr
 unfold pairF at hpf
 have HC := cut_u t
 by_cases hU : isU t = true
 case neg =>
  have hUf : isU t = false := by simpa using hU
  rw [if_neg (by rintro ⟨h, _⟩; exact hU h)] at hpf
  subst hpf
  simp only [hUf, Bool.false_eq_true, if_false] at HC
  clear hU
  go_enter Tryz.func102, Tryz.ntmps102
  go_upto_region 2 with (first | ((with_reducible refine cf rfl ?_); refine bp _ rfl _ _ _ 132 rfl 5 5 law5 Tryz.underlying132 _ _ _ _ rfl hown p109z _ _ _ rfl rfl (keyOf_int_mk Tryz.underlying5 (by decide)) _ [] (plainElem_int Tryz.underlying5 (by decide)) ?_; intro w1 hown1 hgrow1; have n1 := hB.grown hgrow1 hB.size (fun j hj => p95z); clear hgrow1; clear hown hB; have hown := hown1; have hB := n1; clear hown1 n1))
  have hmap : w1.ownsMap Tryz.prog 5 (plainElem (H := Unit) Tryz.prog 5) w.heap.size 8 escD := hown
  clear hown
  go_wp2_with (first | (at_lookup; refine wpList_lookup_own_ok_int _ rfl _ _ 132 rfl 5 5 .u8 law5 Tryz.underlying132 Tryz.underlying5 (zero5 _) _ _ _ rfl hmap _ _ rfl (keyOf_int_mk Tryz.underlying5 hwf) ?_; intro c' hat' hwc) | (go_at_call 114; (with_reducible refine (HH _ hB).mono ?_); rintro e w2 ⟨rfl, hb2⟩; have hB2 := hB.trans (hb2.mono hB.size)) | (go_at_call 115; (with_reducible refine (HC _).mono ?_); rintro e w4 ⟨rfl, hw4⟩; rw [hw4]) | (go_at_call 116; (with_reducible refine (HRU _).mono ?_); rintro e w3 ⟨vr, rfl, hrow, hb3⟩))
  all_goals
   go_ret3
   refine ⟨_, ?_, Kd.R_of_own (enc := Value.int .u8) (h1 := fun _ => rfl) (own_weaken (Kd.own_of_R hrow) hB2.size) (fun _ _ => trivial), hB2.trans (hb3.mono hB2.size)⟩
   refine congrArg (fun b => Ending.returned (.tuple #[vr, .string _, .bool b])) ?_
   rw [Bool.eq_iff_iff]
   simp only [beq_iff_eq, decide_eq_true_eq]
 obtain ⟨v, hv⟩ : ∃ v, t.extract 2 t.size = v := ⟨_, rfl⟩
 simp only [hU, hv, if_true, true_and] at HC hpf
 by_cases hin : 55296 ≤ n ∧ n < 56320
 case neg =>
  rw [if_neg (by omega)] at hpf
  subst hpf
  have hnn : n < 55296 ∨ (55296 ≤ n ∧ 56320 ≤ n) := by omega
  rcases hnn with hk1 | ⟨hk1, hk2⟩
  all_goals
   go_enter Tryz.func102, Tryz.ntmps102
   go_upto_region 2 with (first | ((with_reducible refine cf rfl ?_); refine bp _ rfl _ _ _ 132 rfl 5 5 law5 Tryz.underlying132 _ _ _ _ rfl hown p109z _ _ _ rfl rfl (keyOf_int_mk Tryz.underlying5 (by decide)) _ [] (plainElem_int Tryz.underlying5 (by decide)) ?_; intro w1 hown1 hgrow1; have n1 := hB.grown hgrow1 hB.size (fun j hj => p95z); clear hgrow1; clear hown hB; have hown := hown1; have hB := n1; clear hown1 n1))
   have hmap : w1.ownsMap Tryz.prog 5 (plainElem (H := Unit) Tryz.prog 5) w.heap.size 8 escD := hown
   clear hown
   go_wp2_with (first | (at_lookup; refine wpList_lookup_own_ok_int _ rfl _ _ 132 rfl 5 5 .u8 law5 Tryz.underlying132 Tryz.underlying5 (zero5 _) _ _ _ rfl hmap _ _ rfl (keyOf_int_mk Tryz.underlying5 hwf) ?_; intro c' hat' hwc) | (go_at_call 114; (with_reducible refine (HH _ hB).mono ?_); rintro e w2 ⟨rfl, hb2⟩; have hB2 := hB.trans (hb2.mono hB.size)) | (go_at_call 115; (with_reducible refine (HC _).mono ?_); rintro e w4 ⟨rfl, hw4⟩; rw [hw4]) | (go_at_call 116; (with_reducible refine (HRU _).mono ?_); rintro e w3 ⟨vr, rfl, hrow, hb3⟩))
   all_goals
    go_ret3
    refine ⟨_, ?_, Kd.R_of_own (enc := Value.int .u8) (h1 := fun _ => rfl) (own_weaken (Kd.own_of_R hrow) hB2.size) (fun _ _ => trivial), hB2.trans (hb3.mono hB2.size)⟩
    refine congrArg (fun b => Ending.returned (.tuple #[vr, .string _, .bool b])) ?_
    rw [Bool.eq_iff_iff]
    simp only [beq_iff_eq, decide_eq_true_eq]
 obtain ⟨in0, in1⟩ := hin
 obtain ⟨k, hk⟩ : ∃ k, halfF v = k := ⟨_, rfl⟩
 obtain ⟨k0, k1, k4⟩ := half_rng v
 have hvs : v.size ≤ 1099511627776 := by rw [← hv, ByteArray.size_extract]; omega
 have HK : ∀ W, Below w.heap.size w W → Calls Tryz.prog 114 #[.string v] W fun e w' => e = .returned (.int .i64 k) ∧ Below W.heap.size W w' := by
  intro W hW
  rw [← hk]
  exact fb v W hvs (HT_.below hW)
 rw [hk] at hpf k0 k1 k4
 clear hk
 by_cases hkin : 56320 ≤ k ∧ k ≤ 57343
 case neg =>
  rw [if_neg (by omega)] at hpf
  subst hpf
  have hkk : k < 56320 ∨ (56320 ≤ k ∧ 57343 < k) := by omega
  rcases hkk with hk1 | ⟨hk1, hk2⟩
  all_goals
   go_enter Tryz.func102, Tryz.ntmps102
   go_upto_region 2 with (first | ((with_reducible refine cf rfl ?_); refine bp _ rfl _ _ _ 132 rfl 5 5 law5 Tryz.underlying132 _ _ _ _ rfl hown p109z _ _ _ rfl rfl (keyOf_int_mk Tryz.underlying5 (by decide)) _ [] (plainElem_int Tryz.underlying5 (by decide)) ?_; intro w1 hown1 hgrow1; have n1 := hB.grown hgrow1 hB.size (fun j hj => p95z); clear hgrow1; clear hown hB; have hown := hown1; have hB := n1; clear hown1 n1))
   have hmap : w1.ownsMap Tryz.prog 5 (plainElem (H := Unit) Tryz.prog 5) w.heap.size 8 escD := hown
   clear hown
   go_wp2_with (first | (at_lookup; refine wpList_lookup_own_ok_int _ rfl _ _ 132 rfl 5 5 .u8 law5 Tryz.underlying132 Tryz.underlying5 (zero5 _) _ _ _ rfl hmap _ _ rfl (keyOf_int_mk Tryz.underlying5 hwf) ?_; intro c' hat' hwc) | (go_at_call 114; first | ((with_reducible refine (HH _ hB).mono ?_); rintro e w2 ⟨rfl, hb2⟩; have hB2 := hB.trans (hb2.mono hB.size)) | ((with_reducible refine (HK _ hB2).mono ?_); rintro e w5 ⟨rfl, hb5⟩; have hB5 := hB2.trans (hb5.mono hB2.size))) | (go_at_call 115; (with_reducible refine (HC _).mono ?_); rintro e w4 ⟨rfl, hw4⟩; rw [hw4]) | (go_at_call 116; (with_reducible refine (HRU _).mono ?_); rintro e w3 ⟨vr, rfl, hrow, hb3⟩))
   all_goals
    go_ret3
    refine ⟨_, ?_, Kd.R_of_own (enc := Value.int .u8) (h1 := fun _ => rfl) (own_weaken (Kd.own_of_R hrow) hB5.size) (fun _ _ => trivial), hB5.trans (hb3.mono hB5.size)⟩
    refine congrArg (fun b => Ending.returned (.tuple #[vr, .string _, .bool b])) ?_
    rw [Bool.eq_iff_iff]
    simp only [beq_iff_eq, decide_eq_true_eq]
 obtain ⟨ki0, ki1⟩ := hkin
 rw [if_pos ⟨in0, in1, ki0, ki1⟩] at hpf
 have k5 := k4 (by omega)
 clear k4
 subst hpf
 have hv4 : v.extract 4 v.size = t.extract 6 t.size := by
  refine ByteArray.ext (Array.toList_inj.1 ?_)
  rw [Lib.ext_list, ← hv, Lib.ext_list, Lib.ext_list, List.drop_drop]
 have hw1 : wrap64 (65536 + wrap64 (wrap64 (n - 55296) * 1024)) = 65536 + (n - 55296) * 1024 := p76z
 have hw2 : wrap64 (65536 + (n - 55296) * 1024 + k) = 65536 + (n - 55296) * 1024 + k := p76z
 have hw3 : wrap64 (65536 + (n - 55296) * 1024 + k - 56320) = 65536 + (n - 55296) * 1024 + k - 56320 := p76z
 go_enter Tryz.func102, Tryz.ntmps102
 go_upto_region 2 with (first | ((with_reducible refine cf rfl ?_); refine bp _ rfl _ _ _ 132 rfl 5 5 law5 Tryz.underlying132 _ _ _ _ rfl hown p109z _ _ _ rfl rfl (keyOf_int_mk Tryz.underlying5 (by decide)) _ [] (plainElem_int Tryz.underlying5 (by decide)) ?_; intro w1 hown1 hgrow1; have n1 := hB.grown hgrow1 hB.size (fun j hj => p95z); clear hgrow1; clear hown hB; have hown := hown1; have hB := n1; clear hown1 n1))
 have hmap : w1.ownsMap Tryz.prog 5 (plainElem (H := Unit) Tryz.prog 5) w.heap.size 8 escD := hown
 clear hown
 go_wp2_with (first | (at_lookup; refine wpList_lookup_own_ok_int _ rfl _ _ 132 rfl 5 5 .u8 law5 Tryz.underlying132 Tryz.underlying5 (zero5 _) _ _ _ rfl hmap _ _ rfl (keyOf_int_mk Tryz.underlying5 hwf) ?_; intro c' hat' hwc) | (go_at_call 114; first | ((with_reducible refine (HH _ hB).mono ?_); rintro e w2 ⟨rfl, hb2⟩; have hB2 := hB.trans (hb2.mono hB.size)) | ((with_reducible refine (HK _ hB2).mono ?_); rintro e w5 ⟨rfl, hb5⟩; have hB5 := hB2.trans (hb5.mono hB2.size))) | (go_at_call 115; (with_reducible refine (HC _).mono ?_); rintro e w4 ⟨rfl, hw4⟩; rw [hw4]) | (go_at_call 116; (with_reducible refine (HRU _).mono ?_); rintro e w3 ⟨vr, rfl, hrow, hb3⟩))
 go_region_with (fail)
 all_goals
  go_simp
  have hB6 := hB5.drew
  go_wp2_with ((go_at_call 116; (with_reducible refine (HRU _).mono ?_); rintro e w3 ⟨vr, rfl, hrow, hb3⟩))
  go_ret3
  refine ⟨_, ?_, Kd.R_of_own (enc := Value.int .u8) (h1 := fun _ => rfl) (own_weaken (Kd.own_of_R hrow) hB6.size) (fun _ _ => trivial), hB6.trans (hb3.mono hB6.size)⟩
  refine congrArg (fun b => Ending.returned (.tuple #[vr, .string (t.extract 6 t.size), .bool b])) ?_
  rw [Bool.eq_iff_iff]
  simp only [beq_iff_eq, decide_eq_true_eq]
end Go.Proofs.YtodnggilomanbaaGreatDoor.Hand
end
