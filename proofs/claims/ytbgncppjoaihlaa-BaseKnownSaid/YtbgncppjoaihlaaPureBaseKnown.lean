/-
  The pure statement of BaseKnown: out of those of BaseReads and BaseWrites, and of one long text of letters of zeros.
-/
import Derived.Test.YtbgncppjoaihlaaPAllx6
import Derived.Test.YtbgncppjoaihlaaPureBaseReads
import Derived.Test.YtbgncppjoaihlaaPureBaseWrites
namespace Go.Proofs.Ytbgncppjoaihlaa.Pure
open Go.RowKit Go.Proofs.Ytbgncppjoaihlaa.PAll Go.Proofs.YtbgncppjoaihlaaW.PrintWords Go.Proofs.YtbgncppjoaihlaaW.PrintLast Go.Proofs.YtbgncppjoaihlaaW.PrintMore Go.Proofs.Ytbgncppjoaihlaa.Hand Go.Proofs.Ytbgncppjoaihlaa.Ref

theorem reads_at (s : ByteArray) (h : s.size ≤ 140737488351232) : ∃ K, ∀ k, K ≤ k → signetrylaw15_BaseReads.f k s = some true := by
  obtain ⟨K, hK⟩ := BaseReads s h
  exact ⟨K, fun k hk => leO_le (signetrylaw15_BaseReads.mono s) hk _ hK⟩
theorem writes_at (l : List Int) (n : Int) (hl : l.length ≤ 10) (hw : ∀ x ∈ l, (Lit.int .u8 x).wf = true) (hn : (Lit.int .i64 n).wf = true) : ∃ K, ∀ k, K ≤ k → signetrylaw15_BaseWrites.f k l n = some true := by
  obtain ⟨K, hK⟩ := BaseWrites l n (Nat.le_trans hl (by decide)) (by omega) hw hn
  exact ⟨K, fun k hk => leO_le (signetrylaw15_BaseWrites.mono l n) hk _ hK⟩
theorem i64_wf {n : Int} (h0 : -9223372036854775808 ≤ n) (h1 : n ≤ 9223372036854775807) : (Lit.int .i64 n).wf = true := by
  show (decide (-9223372036854775808 ≤ n) && decide (n ≤ 9223372036854775807)) = true
  simp [h0, h1]
theorem u8_wf {n : Int} (h0 : 0 ≤ n) (h1 : n ≤ 255) : (Lit.int .u8 n).wf = true := by
  show (decide (0 ≤ n) && decide (n ≤ 255)) = true
  simp [h0, h1]
theorem enc_zeros : ∀ m : Nat, enc (List.replicate (3 * m) 0) = List.replicate (4 * m) 65 := by
  intro m
  induction m with
  | zero => rfl
  | succ m ih =>
    rw [show 3 * (m + 1) = 3 * m + 1 + 1 + 1 by omega, show 4 * (m + 1) = 4 * m + 1 + 1 + 1 + 1 by omega]
    simp only [List.replicate_succ, enc]
    rw [ih]
    rfl
theorem isB_zeros (n : Nat) : isB (List.replicate n 0) = true := by
  unfold isB
  rw [List.all_eq_true]
  intro x hx
  rw [(List.mem_replicate.1 hx).2]
  rfl
theorem zeros_read (m : Nat) (h : 4 * m ≤ 2097152) : base_Bytes.f (strOfNums (List.replicate (4 * m) 65)) = some (List.replicate (3 * m) 0, 0) := by
  rw [base_Bytes.f, if_neg (by rw [strOfNums_size, List.length_replicate]; omega), ← enc_zeros, enc_bytes, dec_enc (isB_zeros _), if_pos rfl]
/-- What stands behind the last loop. -/
theorem known_big (n : Nat) (hn : n = 2097156) : ∀ (j i : Nat), n - i = j → i ≤ n → ∃ K, ∀ k, K ≤ k → signetrylaw15_BaseKnown.l2 k (List.replicate i 65 ++ List.replicate (n - i) 0) (i : Int) = some true := by
  intro j
  induction j with
  | zero =>
    intro i hj hi
    refine ⟨1, fun k hk => ?_⟩
    obtain ⟨k, rfl⟩ : ∃ k', k = k' + 1 := ⟨k - 1, by omega⟩
    have hin : i = n := by omega
    obtain ⟨q, hq⟩ : ∃ q : List Int, q = List.replicate n 65 := ⟨_, rfl⟩
    have hql : q.length = n := by rw [hq, List.length_replicate]
    have hl : List.replicate i (65 : Int) ++ List.replicate (n - i) 0 = q := by rw [hin, Nat.sub_self, List.replicate_zero, List.append_nil, hq]
    have hd : q.drop 4 = List.replicate (4 * 524288) 65 := by rw [hq, List.drop_replicate, hn]
    have hb : base_Bytes.f (strOfNums q) = some ([], 5) := by rw [base_Bytes.f, if_pos (by rw [strOfNums_size, hql, hn]; omega)]
    rw [hl, signetrylaw15_BaseKnown.l2, if_neg (by rw [hql]; omega), hb, Option.bind_some, if_pos (by rw [hql]; omega), hd, zeros_read 524288 (by omega), Option.bind_some, works_true, Option.bind_some, if_pos rfl, if_pos rfl, if_pos rfl, List.length_replicate]
    rfl
  | succ j ih =>
    intro i hj hi
    obtain ⟨K, hK⟩ := ih (i + 1) (by omega) (by omega)
    refine ⟨K + 1, fun k hk => ?_⟩
    obtain ⟨k, rfl⟩ : ∃ k', k = k' + 1 := ⟨k - 1, by omega⟩
    have hset : (List.replicate i (65 : Int) ++ List.replicate (n - i) 0).set i 65 = List.replicate (i + 1) 65 ++ List.replicate (n - (i + 1)) 0 := by
      rw [show n - i = (n - (i + 1)) + 1 by omega, List.replicate_succ, List.set_append_right _ _ (by rw [List.length_replicate]; exact Nat.le_refl _), List.length_replicate, Nat.sub_self, List.set_cons_zero, List.replicate_succ', List.append_assoc]
      rfl
    rw [signetrylaw15_BaseKnown.l2, if_pos (by rw [List.length_append, List.length_replicate, List.length_replicate]; omega), if_pos (by omega), Int.toNat_natCast, hset, w64 (by omega) (by omega)]
    exact hK k (by omega)
theorem known_ends (l : List Int) (hl : l.length ≤ 100) (hw : ∀ i : Nat, (Lit.int .i64 (rd l (i : Int))).wf = true) : ∀ (j i : Nat), l.length - i = j → ∃ K, ∀ k, K ≤ k → signetrylaw15_BaseKnown.l1 k l (i : Int) = some true := by
  intro j
  induction j with
  | zero =>
    intro i hj
    obtain ⟨K, hK⟩ := known_big 2097156 rfl 2097156 0 rfl (by omega)
    refine ⟨K + 1, fun k hk => ?_⟩
    obtain ⟨k, rfl⟩ : ∃ k', k = k' + 1 := ⟨k - 1, by omega⟩
    have := hK k (by omega)
    rw [List.replicate_zero, List.nil_append, Nat.sub_zero] at this
    rw [signetrylaw15_BaseKnown.l1, if_neg (by omega), if_pos (by omega)]
    exact this
  | succ j ih =>
    intro i hj
    obtain ⟨K, hK⟩ := ih (i + 1) (by omega)
    obtain ⟨K', hK'⟩ := writes_at [] (rd l (i : Int)) (by decide) (fun x hx => by cases hx) (hw i)
    refine ⟨K + K' + 1, fun k hk => ?_⟩
    obtain ⟨k, rfl⟩ : ∃ k', k = k' + 1 := ⟨k - 1, by omega⟩
    rw [signetrylaw15_BaseKnown.l1, if_pos (by omega), if_pos (by omega), hK' k (by omega), Option.bind_some, if_pos rfl, w64 (by omega) (by omega)]
    exact hK k (by omega)
theorem ends_wf (i : Nat) : (Lit.int .i64 (rd [(-9223372036854775808), (-1), 0, 1, 2, 3, 9007199254740991, 9007199254740992, 9223372036854775807] (i : Int))).wf = true := by
  by_cases h : i < 9
  · have : ∀ q : Fin 9, (Lit.int .i64 (rd [(-9223372036854775808), (-1), 0, 1, 2, 3, 9007199254740991, 9007199254740992, 9223372036854775807] (q.1 : Int))).wf = true := by decide +kernel
    exact this ⟨i, h⟩
  · have : rd [(-9223372036854775808), (-1), 0, 1, 2, 3, 9007199254740991, 9007199254740992, 9223372036854775807] (i : Int) = 0 := by
      rw [rd, Int.toNat_natCast, List.getD_eq_getElem?_getD, List.getElem?_eq_none (by simp; omega)]
      rfl
    rw [this]
    decide
theorem one_size (c : Int) : (strOfNums [c]).size = 1 := by rw [strOfNums_size]; rfl
theorem lit_size (l : List UInt8) : (⟨l.toArray⟩ : ByteArray).size = l.length := by simp [ByteArray.size]
/-- A round. -/
theorem known_bytes : ∀ (j i : Nat), 256 - i = j → ∃ K, ∀ k, K ≤ k → signetrylaw15_BaseKnown.l0 k (i : Int) = some true := by
  intro j
  induction j with
  | zero =>
    intro i hj
    obtain ⟨K, hK⟩ := known_ends _ (by decide) ends_wf 9 0 rfl
    refine ⟨K + 1, fun k hk => ?_⟩
    obtain ⟨k, rfl⟩ : ∃ k', k = k' + 1 := ⟨k - 1, by omega⟩
    rw [signetrylaw15_BaseKnown.l0, if_neg (by omega)]
    exact hK k (by omega)
  | succ j ih =>
    intro i hj
    have hlt : (i : Int) < 256 := by omega
    obtain ⟨c, hc⟩ : ∃ c : Int, c = (i : Int) % 256 := ⟨_, rfl⟩
    have hwc : (Lit.int .u8 c).wf = true := u8_wf (by omega) (by omega)
    obtain ⟨s, hs⟩ : ∃ s, s = strOfNums [c] := ⟨_, rfl⟩
    have hsz : s.size = 1 := by rw [hs, one_size]
    obtain ⟨K, hK⟩ := ih (i + 1) (by omega)
    obtain ⟨K1, h1⟩ := reads_at (s ++ ⟨#[65, 61, 61]⟩) (by rw [ByteArray.size_append, hsz]; decide)
    obtain ⟨K2, h2⟩ := reads_at (⟨#[65]⟩ ++ s ++ ⟨#[61, 61]⟩) (by rw [ByteArray.size_append, ByteArray.size_append, hsz]; decide)
    obtain ⟨K3, h3⟩ := reads_at (⟨#[65, 65]⟩ ++ s ++ ⟨#[61]⟩) (by rw [ByteArray.size_append, ByteArray.size_append, hsz]; decide)
    obtain ⟨K4, h4⟩ := reads_at (⟨#[65, 65, 65]⟩ ++ s) (by rw [ByteArray.size_append, hsz]; decide)
    obtain ⟨K5, h5⟩ := reads_at (⟨#[65, 65, 65, 65]⟩ ++ s) (by rw [ByteArray.size_append, hsz]; decide)
    obtain ⟨K6, h6⟩ := reads_at (⟨#[65, 65, 65, 65, 65, 65, 65, 65]⟩ ++ s ++ ⟨#[65, 65, 65]⟩) (by rw [ByteArray.size_append, ByteArray.size_append, hsz]; decide)
    obtain ⟨K7, h7⟩ := reads_at (⟨#[65, 65, 61]⟩ ++ s) (by rw [ByteArray.size_append, hsz]; decide)
    obtain ⟨K8, h8⟩ := writes_at [c] (i : Int) (by simp) (fun x hx => by rw [List.mem_singleton.1 hx]; exact hwc) (i64_wf (by omega) (by omega))
    obtain ⟨K9, h9⟩ := writes_at [1, c] (-(i : Int)) (by simp) (fun x hx => by
      simp only [List.mem_cons, List.not_mem_nil, or_false] at hx
      rcases hx with rfl | rfl
      · decide
      · exact hwc) (i64_wf (by omega) (by omega))
    obtain ⟨K10, h10⟩ := writes_at [1, 2, c, 3] ((i : Int) * 3) (by simp) (fun x hx => by
      simp only [List.mem_cons, List.not_mem_nil, or_false] at hx
      rcases hx with rfl | rfl | rfl | rfl
      · decide
      · decide
      · exact hwc
      · decide) (i64_wf (by omega) (by omega))
    refine ⟨K + K1 + K2 + K3 + K4 + K5 + K6 + K7 + K8 + K9 + K10 + 1, fun k hk => ?_⟩
    obtain ⟨k, rfl⟩ : ∃ k', k = k' + 1 := ⟨k - 1, by omega⟩
    have hn := hK k (by omega)
    have g1 := h1 k (by omega)
    have g2 := h2 k (by omega)
    have g3 := h3 k (by omega)
    have g4 := h4 k (by omega)
    have g5 := h5 k (by omega)
    have g6 := h6 k (by omega)
    have g7 := h7 k (by omega)
    have g8 := h8 k (by omega)
    have g9 := h9 k (by omega)
    have g10 := h10 k (by omega)
    have wn : wrap64 (-(i : Int)) = -(i : Int) := w64 (by omega) (by omega)
    have w3 : wrap64 ((i : Int) * 3) = (i : Int) * 3 := w64 (by omega) (by omega)
    have w1 : wrap64 ((i : Int) + 1) = ((i + 1 : Nat) : Int) := w64 (by omega) (by omega)
    have z1 : ((⟨#[65]⟩ : ByteArray) ++ s).size = 2 := by rw [ByteArray.size_append, hsz]; rfl
    have z2 : ((⟨#[65, 65]⟩ : ByteArray) ++ s).size = 3 := by rw [ByteArray.size_append, hsz]; rfl
    have z3 : ((⟨#[65, 65, 65, 65, 65, 65, 65, 65]⟩ : ByteArray) ++ s).size = 9 := by rw [ByteArray.size_append, hsz]; rfl
    clear h1 h2 h3 h4 h5 h6 h7 h8 h9 h10 hK ih
    rw [signetrylaw15_BaseKnown.l0, if_pos hlt, ← hc]
    simp only [Option.bind_some]
    rw [← hs, hsz, z1, z2, z3, wn, w3, w1]
    simp only [g1, g2, g3, g4, g5, g6, g7, g8, g9, g10, hn, Option.bind_some, if_true, Nat.reduceAdd, Nat.reduceLeDiff]
theorem BaseKnown : signetrylaw15_BaseKnown.Pure := by
  obtain ⟨K, hK⟩ := known_bytes 256 0 rfl
  exact ⟨K, hK K (Nat.le_refl _)⟩

end Go.Proofs.Ytbgncppjoaihlaa.Pure
