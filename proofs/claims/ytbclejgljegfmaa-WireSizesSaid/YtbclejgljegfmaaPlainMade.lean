/-
  Records one behind the other are told again; what made tells is a record that is right. No walk.
-/
import Derived.Test.YtbclejgljegfmaaGD
import Derived.Test.YtbclejgljegfmaaPlainNxt
import Derived.Test.YtbclejgljegfmaaPlainNum
namespace Go.Proofs.Ytbclejgljegfmaa.Plain
open Go.RowKit Go.Proofs.Ytbclejgljegfmaa.PAll Go.Proofs.YtbclejgljegfmaaW.PrintWords Go.Proofs.YtbclejgljegfmaaW.PrintLast Go.Proofs.YtbclejgljegfmaaW.PrintMore Go.Proofs.Ytbclejgljegfmaa.Hand

theorem rdn_app {l : List Int} {n : Int} {m : Nat} (h : rdn l 0 0 = (n, m, 0)) (rest : List Int) : rdn (l ++ rest) 0 0 = (n, m, 0) := by
  obtain ⟨_, h2, h3⟩ := rdn_pre l 0 0 n m h
  have := h3 (l.drop m ++ rest)
  rw [Nat.sub_zero, ← List.append_assoc, List.take_append_drop] at this
  exact this
theorem body_app {w : Int} {r : List Int} (h : (body w r).2.2.2 = 0) (rest : List Int) : body w (r ++ rest) = body w r := by
  by_cases h0 : w = 0
  · subst h0
    rw [body_nil] at h
    simp only at h
    rw [body_nil, body_nil, rdn_app (rdn_eta h) rest, ← rdn_eta h]
  · by_cases h1 : w = 1
    · subst h1
      rw [body_one] at h
      by_cases h8 : 8 ≤ r.length
      · rw [body_one, body_one, if_pos h8, if_pos (by rw [List.length_append]; omega), List.take_append_of_le_length h8]
      · rw [if_neg h8] at h
        simp at h
    · by_cases h2 : w = 2
      · subst h2
        by_cases h3 : (rdn r 0 0).2.2 = 0
        · by_cases h4 : (rdn r 0 0).1 > 1048576
          · rw [body_two, if_neg (by omega), if_pos h4] at h
            simp at h
          · by_cases h5 : (rdn r 0 0).1 > (r.length : Int) - ((rdn r 0 0).2.1 : Int)
            · rw [body_two, if_neg (by omega), if_neg h4, if_pos h5] at h
              simp at h
            · have e1 : body 2 r = (0, (r.drop (rdn r 0 0).2.1).take (rdn r 0 0).1.toNat, (rdn r 0 0).2.1 + (rdn r 0 0).1.toNat, 0) := by rw [body_two, if_neg (by omega), if_neg h4, if_neg h5]
              have hc := cnt_le h3
              rw [e1, body_two, rdn_app (rdn_eta h3) rest]
              simp only
              rw [if_neg (by simp), if_neg h4, if_neg (by rw [List.length_append]; omega), List.drop_append_of_le_length hc.2, List.take_append_of_le_length (by rw [List.length_drop]; omega)]
        · rw [body_two, if_pos h3] at h
          exact absurd h h3
      · by_cases h5 : w = 5
        · subst h5
          rw [body_five] at h
          by_cases h8 : 4 ≤ r.length
          · rw [body_five, body_five, if_pos h8, if_pos (by rw [List.length_append]; omega), List.take_append_of_le_length h8]
          · rw [if_neg h8] at h
            simp at h
        · unfold body at h
          rw [if_neg h0, if_neg h1, if_neg h2, if_neg h5] at h
          simp at h
theorem nxt_app {l : List Int} (h : (nxt l).2.2.2.2.2.2 = 0) (rest : List Int) : nxt (l ++ rest) = nxt l := by
  unfold nxt at h
  by_cases h0 : (rdn l 0 0).2.2 = 0
  · rw [if_neg (by omega)] at h
    by_cases h1 : (rdn l 0 0).1 < 8 ∨ (rdn l 0 0).1 > 4294967295
    · rw [if_pos h1] at h
      simp [noR] at h
    · rw [if_neg h1] at h
      by_cases h2 : (body ((rdn l 0 0).1 % 8) (l.drop (rdn l 0 0).2.1)).2.2.2 = 0
      · have hr : rdn (l ++ rest) 0 0 = rdn l 0 0 := by rw [rdn_app (rdn_eta h0) rest, ← rdn_eta h0]
        have hc := body_cnt h2
        have hcn := cnt_le h0
        have hd : (l ++ rest).drop (rdn l 0 0).2.1 = l.drop (rdn l 0 0).2.1 ++ rest := List.drop_append_of_le_length hcn.2
        have hb := body_app h2 rest
        rw [List.length_drop] at hc
        unfold nxt
        rw [hr, hd, hb, List.take_append_of_le_length (by omega)]
      · rw [if_pos h2] at h
        exact absurd h h2
  · rw [if_pos h0] at h
    simp [noR] at h
    exact absurd h h0
/-- Records that are right, one behind the other, are told again. -/
def Right (r : S33) : Prop := isRec r = true ∧ nxt r.f4 = (r.f0, r.f1, r.f2, r.f3, r.f4, (r.f4.length : Int), 0) ∧ 0 < r.f4.length
theorem spl_back : ∀ (l : List S33) (m : Nat) (acc : List S33), (∀ r ∈ l, Right r) → (l.flatMap S33.f4).length < m → spl m (l.flatMap S33.f4) acc = (acc ++ l, 0)
  | [], m, acc, _, hm => by
    obtain ⟨m, rfl⟩ : ∃ q, m = q + 1 := ⟨m - 1, by omega⟩
    simp [spl]
  | r :: l, m, acc, h, hm => by
    obtain ⟨m, rfl⟩ : ∃ q, m = q + 1 := ⟨m - 1, by omega⟩
    obtain ⟨_, h2, h3⟩ := h r List.mem_cons_self
    have hn : nxt (r.f4 ++ l.flatMap S33.f4) = (r.f0, r.f1, r.f2, r.f3, r.f4, (r.f4.length : Int), 0) := by rw [nxt_app (by rw [h2]) _, h2]
    rw [List.flatMap_cons, List.length_append] at hm
    rw [List.flatMap_cons]
    simp only [spl]
    rw [if_neg (by rw [List.length_append]; omega), hn]
    simp only
    rw [if_neg (by simp), Int.toNat_natCast, List.drop_left, spl_back l m _ (fun x hx => h x (List.mem_cons_of_mem _ hx)) (by omega), List.append_assoc]
    rfl

theorem or_low {c : Int} (h0 : 0 ≤ c) (h1 : c < 128) : Go.bits .or .u8 c 128 = c + 128 := by
  have := or128 c
  rw [Int.emod_eq_of_lt h0 (by omega), Int.emod_eq_of_lt h0 h1] at this
  exact this
theorem code_last {l : List Int} {n : Int} (h : Hand.Code l n) : 0 ≤ l.getD (l.length - 1) 0 ∧ l.getD (l.length - 1) 0 < 128 := by
  obtain ⟨i, c, rfl, _, h0, h1, _⟩ := h
  simp
  omega
theorem longer_l0 {n m : Int} (d : Nat) : ∀ (k : Nat) (l : List Int) (j : Nat), (m - j).toNat = d → (j : Int) ≤ 100 → m ≤ 100 → Hand.Code l n → d + 1 ≤ k → ∃ L, signetrylaw01_longer.l0 k m l j = some L ∧ Hand.Code L n := by
  induction d with
  | zero =>
    intro k l j hd hj hm hc hk
    obtain ⟨k, rfl⟩ : ∃ q, k = q + 1 := ⟨k - 1, by omega⟩
    refine ⟨l, ?_, hc⟩
    simp only [signetrylaw01_longer.l0]
    rw [if_neg (by omega)]
  | succ d ih =>
    intro k l j hd hj hm hc hk
    obtain ⟨k, rfl⟩ : ∃ q, k = q + 1 := ⟨k - 1, by omega⟩
    obtain ⟨l1, l2⟩ := hc.length
    simp only [signetrylaw01_longer.l0]
    rw [if_pos (by omega), if_pos (by omega)]
    by_cases h10 : l.length < 10
    · obtain ⟨q0, q1⟩ := code_last hc
      have e : rd l (wrap64 ((l.length : Int) - 1)) = l.getD (l.length - 1) 0 := by
        rw [w64 (by omega) (by omega)]
        unfold rd
        rw [show ((l.length : Int) - 1).toNat = l.length - 1 by omega]
      have hw : wrap64 ((j : Int) + 1) = ((j + 1 : Nat) : Int) := by rw [w64 (by omega) (by omega)]; omega
      have hmo := hc.more1 h10
      rw [if_pos (by omega), e, or_low q0 q1, w64 (x := (l.length : Int) - 1) (by omega) (by omega), if_pos (by omega), if_pos (by omega), Option.bind_some, if_pos (by rw [List.length_set]; omega), hw, show ((l.length : Int) - 1).toNat = l.length - 1 by omega]
      exact ih k (more1 l) (j + 1) (by omega) (by omega) hm hmo (by omega)
    · rw [if_neg (by omega)]
      exact ⟨l, rfl, hc⟩
theorem longer_f {n m : Int} (h0 : 0 ≤ n) (h1 : n ≤ 18446744073709551615) (hm : m ≤ 100) (k : Nat) (hk : 102 ≤ k) : ∃ L, signetrylaw01_longer.f k n m = some L ∧ Hand.Code L n := by
  unfold signetrylaw01_longer.f
  rw [wire_Var.f, if_pos ⟨by simp, by simp [isU64]; omega⟩, Option.bind_some, List.nil_append]
  exact longer_l0 (m - 0).toNat k _ 0 rfl (by omega) hm (Hand.Code.of_vr h0 (by omega)) (by omega)
def le : Nat → Int → List Int
  | 0, _ => []
  | m + 1, n => (n % 256) :: le m (n / 256)
theorem le_len (n : Int) : ∀ m, (le m n).length = m
  | 0 => rfl
  | m + 1 => by simp [le, le_len]
theorem le_gr : ∀ (m : Nat) (n : Int), 0 ≤ n → n < 256 ^ m → gr (le m n) = n
  | 0, n, h0, h1 => by simp [le, gr] at *; omega
  | m + 1, n, h0, h1 => by
    rw [Int.pow_succ] at h1
    simp only [le, gr]
    rw [le_gr m (n / 256) (by omega) (by omega)]
    omega
theorem le_isB : ∀ (m : Nat) (n : Int), isB (le m n) = true
  | 0, _ => rfl
  | m + 1, n => isB_cons.2 ⟨by omega, le_isB m _⟩
theorem little_l0 (m : Nat) (hm : m ≤ 8) (d : Nat) : ∀ (k : Nat) (l : List Int) (n : Int) (j : Nat), m - j = d → j ≤ m → l.length ≤ 1000 + j → d + 1 ≤ k → wire_little.l0 k l n m j = some (l ++ le d n) := by
  induction d with
  | zero =>
    intro k l n j hd hj hl hk
    obtain ⟨k, rfl⟩ : ∃ q, k = q + 1 := ⟨k - 1, by omega⟩
    simp only [wire_little.l0]
    rw [if_neg (by omega)]
    simp [le]
  | succ d ih =>
    intro k l n j hd hj hl hk
    obtain ⟨k, rfl⟩ : ∃ q, k = q + 1 := ⟨k - 1, by omega⟩
    have hw : wrap64 ((j : Int) + 1) = ((j + 1 : Nat) : Int) := by rw [w64 (by omega) (by omega)]; omega
    simp only [wire_little.l0]
    rw [if_pos (by omega), if_pos (by omega), hw, ih k _ _ (j + 1) (by omega) (by omega) (by simp; omega) (by omega)]
    simp [le]
theorem little_f {l : List Int} (hl : l.length ≤ 1000) (n : Int) (m : Nat) (hm : m ≤ 8) (k : Nat) (hk : 9 ≤ k) : wire_little.f k l n m = some (l ++ le m n) := by
  unfold wire_little.f
  exact little_l0 m hm m k l n 0 rfl (Nat.zero_le _) (by omega) (by omega)

theorem nxt_of {L rest : List Int} {num kind N : Int} {B : List Int} (h0 : 1 ≤ num) (h1 : num ≤ 536870911) (k0 : 0 ≤ kind) (k1 : kind < 8) (hL : Hand.Code L (8 * num + kind)) (hb : body kind rest = (N, B, rest.length, 0)) :
    nxt (L ++ rest) = (num, kind, N, B, L ++ rest, ((L ++ rest).length : Int), 0) := by
  have hr := hL.rdn rest
  have e1 : (8 * num + kind) % 8 = kind := by omega
  have e2 : (8 * num + kind) / 8 = num := by omega
  unfold nxt
  rw [hr]
  simp only
  rw [if_neg (by simp), if_neg (by omega), List.drop_left, e1, hb, e2]
  simp only
  rw [if_neg (by simp), ← List.length_append, List.take_of_length_le (Nat.le_refl _)]
theorem body_r0 {L : List Int} {n : Int} (h : Hand.Code L n) : body 0 L = (n, [], L.length, 0) := by
  have := h.rdn []
  rw [List.append_nil] at this
  rw [body_nil, this]
theorem body_r1 {n : Int} (h0 : 0 ≤ n) (h1 : n < 256 ^ 8) : body 1 (le 8 n) = (n, [], (le 8 n).length, 0) := by
  rw [body_one, le_len, if_pos (Nat.le_refl _), List.take_of_length_le (by rw [le_len]; exact Nat.le_refl _), le_gr 8 n h0 h1]
theorem body_r5 {n : Int} (h0 : 0 ≤ n) (h1 : n < 256 ^ 4) : body 5 (le 4 n) = (n, [], (le 4 n).length, 0) := by
  rw [body_five, le_len, if_pos (Nat.le_refl _), List.take_of_length_le (by rw [le_len]; exact Nat.le_refl _), le_gr 4 n h0 h1]
theorem body_r2 {L b : List Int} (hb : b.length ≤ 1048576) (h : Hand.Code L (b.length : Int)) : body 2 (L ++ b) = (0, b, (L ++ b).length, 0) := by
  rw [body_two, h.rdn b]
  simp only
  rw [if_neg (by simp), if_neg (by omega), if_neg (by rw [List.length_append]; omega), List.drop_left, Int.toNat_natCast, List.take_of_length_le (Nat.le_refl _), List.length_append]
theorem tag_or (num : Int) (kind : Nat) (h0 : 0 ≤ num) (h1 : num ≤ 536870911) (hk : kind < 8) : Go.bits .or .u64 (num * 8) (kind : Int) = 8 * num + kind := by
  obtain ⟨m, rfl⟩ : ∃ m : Nat, num = m := ⟨num.toNat, by omega⟩
  have := bits_or_u64_nat (m * 8) kind (by omega) (by omega)
  rw [show ((m : Int) * 8) = ((m * 8 : Nat) : Int) by omega, this, Nat.mul_comm m 8, ← Nat.two_pow_add_eq_or_of_lt (i := 3) (by omega) m]
  omega
/-- What stands behind the tag. -/
def tail (kind : Nat) (n : Int) (b : List Int) : List Int := if kind = 0 then vr 9 n else if kind = 1 then le 8 n else if kind = 2 then vr 9 b.length ++ b else le 4 n
def nOf (kind : Nat) (n : Int) : Int := if kind = 2 then 0 else n
def bOf (kind : Nat) (b : List Int) : List Int := if kind = 2 then b else []
theorem make_f {num n : Int} {kind : Nat} {b : List Int} (h0 : 1 ≤ num) (h1 : num ≤ 536870911) (hk : kind = 0 ∨ kind = 1 ∨ kind = 2 ∨ kind = 5) (n0 : 0 ≤ n) (n1 : n ≤ 18446744073709551615) (n5 : kind = 5 → n ≤ 4294967295) (hb : b.length ≤ 1000) (k : Nat) (hK : 12 ≤ k) :
    wire_Make.f k num kind n b = some (num, (kind : Int), nOf kind n, bOf kind b, vr 9 (8 * num + kind) ++ tail kind n b, 0) := by
  obtain ⟨k, rfl⟩ : ∃ q, k = q + 1 := ⟨k - 1, by omega⟩
  have hand : ∀ q : Nat, (q = 0 ∨ q = 1 ∨ q = 2 ∨ q = 5) → Go.bits .and .i64 (q : Int) 7 = (q : Int) := by
    rintro q (rfl | rfl | rfl | rfl) <;> decide
  unfold wire_Make.f
  rw [if_neg (by omega), decide_eq_false (by omega)]
  simp only [wire_Make.j0]
  have hk8 : kind < 8 := by omega
  rw [if_neg (by simp), hand kind hk, wu64 (x := num) (by omega) (by omega), wu64 (x := num * 8) (by omega) (by omega), wu64 (x := (kind : Int)) (by omega) (by omega), tag_or num kind (by omega) h1 hk8]
  have hv := vr_le (8 * num + (kind : Int)) 9
  have hvar : ∀ (l : List Int) (x : Int), l.length ≤ 2000 → 0 ≤ x → x ≤ 18446744073709551615 → wire_Var.f l x = some (l ++ vr 9 x) := fun l x hl x0 x1 => by rw [wire_Var.f, if_pos ⟨by omega, by simp [isU64]; omega⟩]
  rw [hvar [] _ (by simp) (by omega) (by omega), Option.bind_some, List.nil_append]
  rcases hk with rfl | rfl | rfl | rfl
  · rw [if_pos (by omega), hvar _ n (by omega) n0 n1, Option.bind_some]
    rfl
  · rw [if_neg (by omega), if_pos (by omega), show wire_little.f k (vr 9 (8 * num + ((1 : Nat) : Int))) n 8 = some (vr 9 (8 * num + ((1 : Nat) : Int)) ++ le 8 n) from little_f (by omega) n 8 (by omega) k (by omega), Option.bind_some]
    rfl
  · rw [if_neg (by omega), if_neg (by omega), if_pos (by omega), if_neg (by omega), slices_Clone_byte_byte.f, if_pos (by omega), Option.bind_some, wu64 (by omega) (by omega), hvar _ _ (by omega) (by omega) (by omega), Option.bind_some]
    have hv2 := vr_le (b.length : Int) 9
    rw [if_pos (by rw [List.length_append]; omega), List.append_assoc]
    rfl
  · rw [if_neg (by omega), if_neg (by omega), if_neg (by omega), if_pos (by omega), if_neg (by have := n5 rfl; omega), show wire_little.f k (vr 9 (8 * num + ((5 : Nat) : Int))) n 4 = some (vr 9 (8 * num + ((5 : Nat) : Int)) ++ le 4 n) from little_f (by omega) n 4 (by omega) k (by omega), Option.bind_some]
    rfl

theorem bring_f {a m : Int} (m0 : 0 < m) (m1 : m ≤ 1000000000) : ∃ x : Nat, signetryref00_Bring.f a m = some (x : Int) ∧ (x : Int) < m := by
  unfold signetryref00_Bring.f
  rw [if_neg (by omega)]
  have h1 := Int.lt_tmod_of_pos a m0
  have h2 := Int.tmod_lt_of_pos a m0
  generalize Int.tmod a m = t at *
  by_cases h : t < 0
  · rw [if_pos h, w64 (by omega) (by omega)]
    exact ⟨(t + m).toNat, by rw [Int.toNat_of_nonneg (by omega)], by omega⟩
  · rw [if_neg h]
    exact ⟨t.toNat, by rw [Int.toNat_of_nonneg (by omega)], by omega⟩
theorem right_of {L rest : List Int} {num N : Int} {kind : Nat} {B : List Int} (h0 : 1 ≤ num) (h1 : num ≤ 536870911) (k1 : kind < 8) (hL : Hand.Code L (8 * num + kind)) (hb : body kind rest = (N, B, rest.length, 0)) (hB : isB B = true) (hB1 : B.length ≤ 1000) (hr : isB rest = true) (hr1 : rest.length ≤ 60) :
    Right ⟨num, kind, N, B, L ++ rest⟩ ∧ (L ++ rest).length ≤ 100 := by
  obtain ⟨l0, l1⟩ := hL.length
  refine ⟨⟨?_, nxt_of h0 h1 (show 0 ≤ (kind : Int) by omega) (show (kind : Int) < 8 by omega) hL hb, by show 0 < (L ++ rest).length; rw [List.length_append]; omega⟩, by rw [List.length_append]; omega⟩
  simp only [isRec, Bool.and_eq_true, decide_eq_true_eq]
  exact ⟨⟨⟨hB, isB_append.2 ⟨hL.isB, hr⟩⟩, by omega⟩, by rw [List.length_append]; omega⟩
theorem right_chk {r : S33} (h : Right r) : chk r = 0 := by
  unfold chk
  rw [if_pos h.2.1]
theorem two7 (t : Nat) : (2 : Int) ^ (7 * (t + 1)) = 128 * 2 ^ (7 * t) := by rw [show 7 * (t + 1) = 7 * t + 7 by omega, Int.pow_add]; omega
theorem vr_short : ∀ (m : Nat) (n : Int) (t : Nat), 0 ≤ n → n < 2 ^ (7 * (t + 1)) → (vr m n).length ≤ t + 1
  | 0, n, t, _, _ => by simp [vr]
  | m + 1, n, t, h0, h1 => by
    simp only [vr]
    by_cases h : n < 128
    · rw [if_pos h]
      simp
    · cases t with
      | zero => simp at h1; omega
      | succ t =>
        rw [two7] at h1
        rw [if_neg h, List.length_cons]
        have := vr_short m (n / 128) t (by omega) (by omega)
        omega
theorem vr_mono : ∀ (m : Nat) (a b : Int), 0 ≤ a → a ≤ b → (vr m a).length ≤ (vr m b).length
  | 0, a, b, _, _ => by simp [vr]
  | m + 1, a, b, h0, h1 => by
    simp only [vr]
    by_cases ha : a < 128
    · rw [if_pos ha]
      split <;> simp
    · rw [if_neg ha, if_neg (by omega), List.length_cons, List.length_cons]
      exact Nat.succ_le_succ (vr_mono m (a / 128) (b / 128) (by omega) (by omega))
theorem valI_lt : ∀ (i : List Int) (j : Nat), isH i = true → valI i j ≤ 2 ^ (7 * (j + i.length)) - 2 ^ (7 * j)
  | [], j, _ => by simp [valI]
  | c :: r, j, h => by
    obtain ⟨⟨_, h2⟩, hr⟩ := isH_cons.1 h
    have := valI_lt r (j + 1) hr
    rw [show j + 1 + r.length = j + (r.length + 1) by omega, two7] at this
    simp only [valI, List.length_cons]
    have hp : (0 : Int) < 2 ^ (7 * j) := Int.pow_pos (by omega)
    have hq : (c - 128) * 2 ^ (7 * j) ≤ 127 * 2 ^ (7 * j) := Int.mul_le_mul_of_nonneg_right (by omega) (by omega)
    omega
theorem code_ge {L : List Int} {n : Int} (h0 : 0 ≤ n) (h : Hand.Code L n) : (vr 9 n).length ≤ L.length := by
  obtain ⟨i, c, rfl, hi, _, h1, _, _, rfl⟩ := h
  have h2 := valI_lt i 0 hi
  simp only [Nat.zero_add, Nat.mul_zero, Int.pow_zero] at h2
  rw [List.length_append, List.length_singleton]
  refine vr_short 9 _ _ h0 ?_
  rw [two7]
  have hp : (0 : Int) < 2 ^ (7 * i.length) := Int.pow_pos (by omega)
  have hq : c * 2 ^ (7 * i.length) ≤ 127 * 2 ^ (7 * i.length) := Int.mul_le_mul_of_nonneg_right (by omega) (by omega)
  omega
theorem few_len {L M R : List Int} {a b : Nat} (h : R = L ++ M) (h1 : a ≤ L.length) (h2 : b ≤ M.length) : a + b ≤ R.length := by rw [h, List.length_append]; omega
/-- A record that Make would make in not more bytes. -/
def Few (r : S33) : Prop := ∃ (kind : Nat) (n : Int) (b : List Int), 1 ≤ r.f0 ∧ r.f0 ≤ 536870911 ∧ (kind = 0 ∨ kind = 1 ∨ kind = 2 ∨ kind = 5) ∧ r.f1 = kind ∧ 0 ≤ n ∧ n ≤ 18446744073709551615 ∧ (kind = 5 → n ≤ 4294967295) ∧ b.length ≤ 30 ∧ r.f2 = nOf kind n ∧ r.f3 = bOf kind b ∧
  (vr 9 (8 * r.f0 + kind)).length + (tail kind n b).length ≤ r.f4.length
theorem few_make {r : S33} (h : Few r) (k : Nat) (hk : 12 ≤ k) : ∃ raw, wire_Make.f k r.f0 r.f1 r.f2 r.f3 = some (r.f0, r.f1, r.f2, r.f3, raw, 0) ∧ raw.length ≤ r.f4.length := by
  obtain ⟨kind, n, b, h0, h1, hkd, e1, n0, n1, n5, hb, e2, e3, hl⟩ := h
  have m0 : 0 ≤ nOf kind n := by unfold nOf; split <;> omega
  have m1 : nOf kind n ≤ n := by unfold nOf; split <;> omega
  have m2 : (bOf kind b).length ≤ b.length := by unfold bOf; split <;> simp
  have := make_f h0 h1 hkd m0 (by omega) (fun q => by have := n5 q; omega) (show (bOf kind b).length ≤ 1000 by omega) k hk
  have e4 : tail kind (nOf kind n) (bOf kind b) = tail kind n b := by
    rcases hkd with rfl | rfl | rfl | rfl <;> simp [tail, nOf, bOf]
  have e5 : nOf kind (nOf kind n) = nOf kind n := by unfold nOf; split <;> rfl
  have e6 : bOf kind (bOf kind b) = bOf kind b := by unfold bOf; split <;> simp
  rw [e4, e5, e6] at this
  rw [e1, e2, e3]
  exact ⟨_, this, by rw [List.length_append]; exact hl⟩
theorem made_j0 {num n a4 : Int} {kind : Nat} {b : List Int} (a0 a1 a2 : Int) (l : List Int) (h0 : 1 ≤ num) (h1 : num ≤ 536870911) (hk : kind = 0 ∨ kind = 1 ∨ kind = 2 ∨ kind = 5) (n0 : 0 ≤ n) (n1 : n ≤ 18446744073709551615) (n5 : kind = 5 → n ≤ 4294967295) (hb : b.length ≤ 30) (hB : isB b = true)
    (k : Nat) (hK : 2000 ≤ k) : ∃ r : S33, signetrylaw01_made.j0 k num kind n b a0 a1 a2 l a4 = some (r.f0, r.f1, r.f2, r.f3, r.f4, true) ∧ Right r ∧ r.f4.length ≤ 100 ∧ Few r := by
  obtain ⟨k, rfl⟩ : ∃ q, k = q + 1 := ⟨k - 1, by omega⟩
  obtain ⟨more, hm, hm4⟩ := bring_f (a := a4) (m := 4) (by omega) (by omega)
  have hk8 : kind < 8 := by omega
  have hmk := make_f h0 h1 hk n0 n1 n5 (show b.length ≤ 1000 by omega) k (by omega)
  have hsz := size_f (n := 8 * num + kind) (by omega) (by omega)
  obtain ⟨L, hL, cL⟩ := longer_f (n := 8 * num + kind) (m := (more : Int)) (by omega) (by omega) (by omega) k (by omega)
  have hw : IntKind.u64.wrap (wrap64 ((wrap64 (8 * num)) + (kind : Int))) = 8 * num + kind := by
    rw [w64 (x := 8 * num) (by omega) (by omega), w64 (x := 8 * num + (kind : Int)) (by omega) (by omega), wu64 (by omega) (by omega)]
  have hv := vr_le (8 * num + (kind : Int)) 9
  obtain ⟨c0, c1⟩ := cL.length
  simp only [signetrylaw01_made.j0]
  rw [hmk, Option.bind_some]
  simp only [if_true]
  rw [hm, Option.bind_some, hw, hsz, Option.bind_some, if_pos (by omega), if_pos (by rw [List.length_append]; omega), Int.toNat_natCast, List.drop_left, Option.bind_some]
  have fin : ∀ (rest : List Int), body kind rest = (nOf kind n, bOf kind b, rest.length, 0) → isB rest = true → rest.length ≤ 60 →
      (wire_Check.f k num (kind : Int) (nOf kind n) (bOf kind b) (L ++ rest)) = some 0 ∧ Right ⟨num, kind, nOf kind n, bOf kind b, L ++ rest⟩ ∧ (L ++ rest).length ≤ 100 := by
    intro rest hbd hr hr1
    have hBB : isB (bOf kind b) = true ∧ (bOf kind b).length ≤ 30 := by
      unfold bOf
      split
      · exact ⟨hB, hb⟩
      · exact ⟨rfl, Nat.zero_le _⟩
    obtain ⟨r1, r2⟩ := right_of h0 h1 hk8 cL hbd hBB.1 (by omega) hr hr1
    have := check_f (r := ⟨num, kind, nOf kind n, bOf kind b, L ++ rest⟩) r1.1 k (by show (bOf kind b).length + (L ++ rest).length + 1 ≤ k; omega)
    rw [right_chk r1] at this
    exact ⟨this, r1, r2⟩
  by_cases hk0 : kind = 0
  · subst hk0
    obtain ⟨M, hM, cM⟩ := longer_f (m := (more : Int)) n0 n1 (by omega) k (by omega)
    obtain ⟨d0, d1⟩ := cM.length
    obtain ⟨f1, f2, f3⟩ := fin M (body_r0 cM) cM.isB (by omega)
    rw [if_pos (by omega), hM, Option.bind_some, hL, Option.bind_some, if_pos (by omega), Option.bind_some, f1, Option.bind_some]
    have g1 := code_ge (n := 8 * num + ((0 : Nat) : Int)) (by omega) cL
    have g2 := code_ge n0 cM
    exact ⟨_, rfl, f2, f3, 0, n, b, h0, h1, hk, rfl, n0, n1, n5, hb, rfl, rfl, few_len (L := L) (M := M) rfl g1 g2⟩
  · have ht : body kind (tail kind n b) = (nOf kind n, bOf kind b, (tail kind n b).length, 0) ∧ isB (tail kind n b) = true ∧ (tail kind n b).length ≤ 60 := by
      rcases hk with rfl | rfl | rfl | rfl
      · exact absurd rfl hk0
      · exact ⟨body_r1 n0 (by omega), le_isB 8 n, by show (le 8 n).length ≤ 60; rw [le_len]; omega⟩
      · have cb : Hand.Code (vr 9 (b.length : Int)) (b.length : Int) := Hand.Code.of_vr (by omega) (by omega)
        have hv2 := vr_le (b.length : Int) 9
        exact ⟨body_r2 (by omega) cb, isB_append.2 ⟨cb.isB, hB⟩, by show (vr 9 (b.length : Int) ++ b).length ≤ 60; rw [List.length_append]; omega⟩
      · exact ⟨body_r5 n0 (by have := n5 rfl; omega), le_isB 4 n, by show (le 4 n).length ≤ 60; rw [le_len]; omega⟩
    obtain ⟨f1, f2, f3⟩ := fin _ ht.1 ht.2.1 ht.2.2
    rw [if_neg (by omega), hL, Option.bind_some, if_pos (by have := ht.2.2; omega), Option.bind_some, f1, Option.bind_some]
    have g1 := code_ge (n := 8 * num + (kind : Int)) (by omega) cL
    exact ⟨_, rfl, f2, f3, kind, n, b, h0, h1, hk, rfl, n0, n1, n5, hb, rfl, rfl, few_len (L := L) (M := tail kind n b) rfl g1 (Nat.le_refl _)⟩
theorem mn30 (n : Nat) : ∃ m : Nat, mn (n : Int) 30 = (m : Int) ∧ m ≤ n ∧ m ≤ 30 := by
  unfold mn
  split
  · exact ⟨30, rfl, by omega, by omega⟩
  · exact ⟨n, rfl, by omega, by omega⟩
theorem kind_of {t : Nat} (h : (t : Int) < 4) : ∃ kind : Nat, rd ([0, 1, 2, 5] : List Int) (t : Int) = (kind : Int) ∧ (kind = 0 ∨ kind = 1 ∨ kind = 2 ∨ kind = 5) := by
  have : t = 0 ∨ t = 1 ∨ t = 2 ∨ t = 3 := by omega
  rcases this with rfl | rfl | rfl | rfl
  · exact ⟨0, rfl, by omega⟩
  · exact ⟨1, rfl, by omega⟩
  · exact ⟨2, rfl, by omega⟩
  · exact ⟨5, rfl, by omega⟩
theorem made_f (a0 a1 a2 : Int) (l : List Int) (a4 : Int) (n0 : 0 ≤ a2) (n1 : a2 ≤ 18446744073709551615) (hB : isB l = true) (k : Nat) (hK : 2000 ≤ k) :
    ∃ r : S33, signetrylaw01_made.f k a0 a1 a2 l a4 = some (r.f0, r.f1, r.f2, r.f3, r.f4, true) ∧ Right r ∧ r.f4.length ≤ 100 ∧ Few r := by
  obtain ⟨x, hx, hx1⟩ := bring_f (a := a0) (m := 536870911) (by omega) (by omega)
  obtain ⟨y, hy, hy1⟩ := bring_f (a := a1) (m := 4) (by omega) (by omega)
  obtain ⟨kind, hkd, hk⟩ := kind_of hy1
  obtain ⟨m, hm, hm1, hm2⟩ := mn30 l.length
  have hlen : (l.take m).length = m := by rw [List.length_take]; omega
  unfold signetrylaw01_made.f
  rw [hx, Option.bind_some, Option.bind_some, hy, Option.bind_some, if_pos (by omega), if_pos (show (y : Int) < (([0, 1, 2, 5] : List Int).length : Int) from hy1), hm, if_pos (by omega), if_pos (by omega), Int.toNat_natCast, hkd, w64 (by omega) (by omega)]
  by_cases h5 : kind = 5
  · rw [if_pos (by omega), Int.tmod_eq_emod_of_nonneg n0]
    exact made_j0 a0 a1 a2 l (by omega) (by omega) hk (by omega) (by omega) (fun _ => by omega) (by omega) (isB_take _ hB) k hK
  · rw [if_neg (by omega)]
    exact made_j0 a0 a1 a2 l (by omega) (by omega) hk n0 n1 (fun h => absurd h h5) (by omega) (isB_take _ hB) k hK
end Go.Proofs.Ytbclejgljegfmaa.Plain
