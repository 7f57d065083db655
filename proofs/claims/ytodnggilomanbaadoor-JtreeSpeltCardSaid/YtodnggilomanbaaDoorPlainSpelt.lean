/-
  JtreeSpelt: its text, piece by piece: no walk.
-/
import Derived.Test.YtodnggilomanbaaDoorPlainStr
import Derived.Test.YtodnggilomanbaaDoorGF
namespace Go.Proofs.YtodnggilomanbaaDoor.Pure
open Go.RowKit Go.Lib Go.Proofs.YtodnggilomanbaaDoor.PAll Go.Proofs.YtodnggilomanbaaDoorW.PrintWords Go.Proofs.YtodnggilomanbaaDoorW.PrintLast Go.Proofs.YtodnggilomanbaaDoorW.PrintMore Go.Proofs.YtodnggilomanbaaDoor.Hand
set_option linter.unusedVariables false
set_option linter.unusedSimpArgs false

theorem bytesOf_app (a b : ByteArray) : bytesOf (a ++ b) = bytesOf a ++ bytesOf b := by simp [bytesOf, ByteArray.data_append]
theorem bytesOf_nums {l : List Int} (h : isBy l = true) : bytesOf (strOfNums l) = l := by
  have e : bytesOf (strOfNums l) = (u8s l).map (fun x => (x.toNat : Int)) := rfl
  rw [e, u8s, List.map_map]
  refine (List.map_congr_left (g := id) fun x hx => ?_).trans (List.map_id l)
  have := List.all_eq_true.1 h x hx
  simp only [Bool.and_eq_true, decide_eq_true_eq] at this
  show ((UInt8.ofNat x.toNat).toNat : Int) = x
  rw [toNat_of this.1 (by omega)]
  omega
/-- A string alone is read as itself. -/
theorem parse_str {s : ByteArray} {P O : List Int} (h : Sps P O) (hb : bytesOf s = 34 :: (P ++ [34])) (hv : Lib.validD (u8s O) = true) (hz : s.size ≤ 1048576) : parseF s = (⟨5, strOfNums O, [], []⟩, 0, 0) := by
  have hs := size_of hb
  simp only [List.length_cons, List.length_append, List.length_nil] at hs
  have hst := str_sps (s := s) (x := 0) (tail := []) h hb hv
  have hb0 : blanksF s 0 = 0 := by
    unfold blanksF
    rw [Int.toNat_zero, List.drop_zero, hb]
    simp [nbl, isBl]
  have hn0 : nowF s 0 = 34 := by
    unfold nowF
    rw [if_neg (by omega), bt_head hb]
  have hbz : blanksF s (((0 + P.length + 2 : Nat) : Int)) = ((0 + P.length + 2 : Nat) : Int) := by
    unfold blanksF
    rw [Int.toNat_natCast, List.drop_eq_nil_iff.2 (by rw [bytesOf_length]; omega)]
    simp [nbl]
  have hw : wayF (nodeF s 60) s 34 0 1 1 = .ok (⟨5, strOfNums O, [], []⟩, ((0 + P.length + 2 : Nat) : Int), 1, 1) := by
    unfold wayF strN
    rw [if_neg (by decide), if_neg (by decide), if_neg (by decide), if_pos rfl]
    rw [show (0 : Int) = ((0 : Nat) : Int) from rfl, hst]
  have hnode : nodeF s 61 0 0 0 = .ok (⟨5, strOfNums O, [], []⟩, ((0 + P.length + 2 : Nat) : Int), 1, 0) := by
    rw [nodeF]
    simp only
    rw [hb0, hn0, if_pos (by decide), if_neg (by omega)]
    have hw' : wayF (nodeF s 60) s 34 0 (0 + 1) (0 + 1) = .ok (⟨5, strOfNums O, [], []⟩, ((0 + P.length + 2 : Nat) : Int), 1, 1) := hw
    rw [hw']
    rfl
  unfold parseF
  rw [if_neg (by omega), hnode]
  simp only
  rw [hbz, if_neg (by omega)]
abbrev lowT : ByteArray := ⟨#[48, 49, 50, 51, 52, 53, 54, 55, 56, 57, 97, 98, 99, 100, 101, 102]⟩
abbrev uppT : ByteArray := ⟨#[48, 49, 50, 51, 52, 53, 54, 55, 56, 57, 65, 66, 67, 68, 69, 70]⟩
theorem dig_low : ∀ i : Fin 16, dig ((bytesOf lowT).getD i.val 0) = true ∧ hx1 (lowc ((bytesOf lowT).getD i.val 0)) = (i.val : Int) := by decide +kernel
theorem dig_upp : ∀ i : Fin 16, dig ((bytesOf uppT).getD i.val 0) = true ∧ hx1 (lowc ((bytesOf uppT).getD i.val 0)) = (i.val : Int) := by decide +kernel
theorem dig_tab {dg : ByteArray} (h : dg = lowT ∨ dg = uppT) {i : Int} (h0 : 0 ≤ i) (h1 : i < 16) : dig ((bytesOf dg).getD i.toNat 0) = true ∧ hx1 (lowc ((bytesOf dg).getD i.toNat 0)) = i := by
  rcases h with rfl | rfl
  · have := dig_low ⟨i.toNat, by omega⟩
    rwa [show (((⟨i.toNat, by omega⟩ : Fin 16).val : Nat) : Int) = i from Int.toNat_of_nonneg h0] at this
  · have := dig_upp ⟨i.toNat, by omega⟩
    rwa [show (((⟨i.toNat, by omega⟩ : Fin 16).val : Nat) : Int) = i from Int.toNat_of_nonneg h0] at this
theorem tab_sz {dg : ByteArray} (h : dg = lowT ∨ dg = uppT) : dg.size = 16 := by rcases h with rfl | rfl <;> rfl
theorem one_dig {dg : ByteArray} (h : dg = lowT ∨ dg = uppT) {i : Int} (h0 : 0 ≤ i) (h1 : i < 16) : bytesOf (dg.extract i.toNat (i + 1).toNat) = [(bytesOf dg).getD i.toNat 0] ∧ (dg.extract i.toNat (i + 1).toNat).size = 1 := by
  have hz := tab_sz h
  have hl : i.toNat < (bytesOf dg).length := by rw [bytesOf_length]; omega
  have e : bytesOf (dg.extract i.toNat (i + 1).toNat) = [(bytesOf dg).getD i.toNat 0] := by
    have e2 := List.drop_eq_getElem_cons hl
    have e3 : (bytesOf dg).getD i.toNat 0 = (bytesOf dg)[i.toNat] := by rw [List.getD_eq_getElem?_getD, List.getElem?_eq_getElem hl]; rfl
    rw [bytesOf_sl, show (i + 1).toNat = i.toNat + 1 by omega, List.drop_take, show i.toNat + 1 - i.toNat = 1 by omega, e2, e3]
    rfl
  exact ⟨e, by rw [size_of e]; rfl⟩
def D4 (dg : ByteArray) (n : Int) : List Int := [(bytesOf dg).getD (n / 4096).toNat 0, (bytesOf dg).getD (n / 256 % 16).toNat 0, (bytesOf dg).getD (n / 16 % 16).toNat 0, (bytesOf dg).getD (n % 16).toNat 0]
theorem four_at {dg : ByteArray} (h : dg = lowT ∨ dg = uppT) {n : Int} (h0 : 0 ≤ n) (h1 : n < 65536) : ∃ t, signetrylaw14_four.f n dg = some t ∧ bytesOf t = 92 :: 117 :: D4 dg n ∧ t.size = 6 := by
  have e1 : wrap64 (Int.tdiv n 4096) = n / 4096 := by rw [Int.tdiv_eq_ediv_of_nonneg h0]; unfold wrap64; omega
  have e2 : Int.tmod (wrap64 (Int.tdiv n 256)) 16 = n / 256 % 16 := by
    have : wrap64 (Int.tdiv n 256) = n / 256 := by rw [Int.tdiv_eq_ediv_of_nonneg h0]; unfold wrap64; omega
    rw [this, Int.tmod_eq_emod_of_nonneg (by omega)]
  have e3 : Int.tmod (wrap64 (Int.tdiv n 16)) 16 = n / 16 % 16 := by
    have : wrap64 (Int.tdiv n 16) = n / 16 := by rw [Int.tdiv_eq_ediv_of_nonneg h0]; unfold wrap64; omega
    rw [this, Int.tmod_eq_emod_of_nonneg (by omega)]
  have e4 : Int.tmod n 16 = n % 16 := Int.tmod_eq_emod_of_nonneg h0
  have hz := tab_sz h
  obtain ⟨b1, s1⟩ := one_dig h (i := n / 4096) (by omega) (by omega)
  obtain ⟨b2, s2⟩ := one_dig h (i := n / 256 % 16) (by omega) (by omega)
  obtain ⟨b3, s3⟩ := one_dig h (i := n / 16 % 16) (by omega) (by omega)
  obtain ⟨b4, s4⟩ := one_dig h (i := n % 16) (by omega) (by omega)
  have w1 : wrap64 (n / 4096 + 1) = n / 4096 + 1 := by unfold wrap64; omega
  have w2 : wrap64 (n / 256 % 16 + 1) = n / 256 % 16 + 1 := by unfold wrap64; omega
  have w3 : wrap64 (n / 16 % 16 + 1) = n / 16 % 16 + 1 := by unfold wrap64; omega
  have w4 : wrap64 (n % 16 + 1) = n % 16 + 1 := by unfold wrap64; omega
  have s0 : (⟨#[92, 117]⟩ : ByteArray).size = 2 := rfl
  unfold signetrylaw14_four.f
  rw [e1, e2, e3, e4, w1, w2, w3, w4]
  simp only [ByteArray.size_append, s0, s1, s2, s3, s4]
  rw [if_pos (by omega), if_pos (by omega), if_pos (by omega), if_pos (by omega), if_pos (by omega), if_pos (by omega), if_pos (by omega), if_pos (by omega), if_pos (by omega), if_pos (by omega), if_pos (by omega), if_pos (by omega), if_pos (by omega), if_pos (by omega), if_pos (by omega), if_pos (by omega)]
  refine ⟨_, rfl, ?_, ?_⟩
  · rw [bytesOf_app, bytesOf_app, bytesOf_app, bytesOf_app, b1, b2, b3, b4]
    rfl
  · simp only [ByteArray.size_append, s0, s1, s2, s3, s4]
theorem hv4_at {dg : ByteArray} (h : dg = lowT ∨ dg = uppT) {n : Int} (h0 : 0 ≤ n) (h1 : n < 65536) :
    ∃ a b c d, D4 dg n = [a, b, c, d] ∧ (dig a = true ∧ dig b = true ∧ dig c = true ∧ dig d = true) ∧ hv4 [a, b, c, d] = n := by
  obtain ⟨p1, q1⟩ := dig_tab h (i := n / 4096) (by omega) (by omega)
  obtain ⟨p2, q2⟩ := dig_tab h (i := n / 256 % 16) (by omega) (by omega)
  obtain ⟨p3, q3⟩ := dig_tab h (i := n / 16 % 16) (by omega) (by omega)
  obtain ⟨p4, q4⟩ := dig_tab h (i := n % 16) (by omega) (by omega)
  refine ⟨_, _, _, _, rfl, ⟨p1, p2, p3, p4⟩, ?_⟩
  unfold hv4
  unfold dig at p1 p2 p3 p4
  rw [if_pos (by simp only [List.all_cons, List.all_nil, p1, p2, p3, p4]; rfl)]
  unfold hfold
  simp only [List.map_cons, List.map_nil, List.foldl_cons, List.foldl_nil, q1, q2, q3, q4]
  omega
theorem enc_raw {n : Int} (h : isRn n = true) (h32 : 32 ≤ n) (h34 : n ≠ 34) (h92 : n ≠ 92) : ∀ b ∈ encodeRuneZ n, 32 ≤ b ∧ b ≠ 34 ∧ b ≠ 92 := by
  have h := isRn_of h
  intro b hb
  by_cases c1 : n ≤ 127
  · rw [encodeRuneZ_one (by omega) c1] at hb
    simp only [List.mem_cons, List.not_mem_nil, or_false] at hb
    omega
  · by_cases c2 : n ≤ 2047
    · rw [encodeRuneZ_two (by omega) c2] at hb
      simp only [List.mem_cons, List.not_mem_nil, or_false] at hb
      omega
    · by_cases c3 : n ≤ 65535
      · rw [encodeRuneZ_three (by omega)] at hb
        simp only [List.mem_cons, List.not_mem_nil, or_false] at hb
        omega
      · rw [encodeRuneZ_four (by omega) (by omega)] at hb
        simp only [List.mem_cons, List.not_mem_nil, or_false] at hb
        omega
theorem sps_raw : ∀ l : List Int, (∀ b ∈ l, 32 ≤ b ∧ b ≠ 34 ∧ b ≠ 92) → Sps l l
  | [], _ => .nil
  | c :: l, h => by
    have h1 := h c (by simp)
    exact .cons (p := [c]) (o := [c]) (pc_raw h1.1 h1.2.1 h1.2.2) (sps_raw l fun b hb => h b (by simp [hb]))
end Go.Proofs.YtodnggilomanbaaDoor.Pure
