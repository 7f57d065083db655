/-
  WireKnown: the plain law: each of its calls answers true.
-/
import Derived.Test.YtbclejgljegfmaaAp
import Derived.Test.YtbclejgljegfmaaLKnown
namespace Go.Proofs.Ytbclejgljegfmaa.Pure
open Go.RowKit Go.Proofs.Ytbclejgljegfmaa.PAll Go.Proofs.YtbclejgljegfmaaW.PrintWords Go.Proofs.YtbclejgljegfmaaW.PrintLast Go.Proofs.YtbclejgljegfmaaW.PrintMore Go.Proofs.Ytbclejgljegfmaa.Hand
set_option linter.unusedVariables false
set_option linter.unusedSimpArgs false
set_option linter.unusedSectionVars false

theorem kw_wrap {x : Int} (h0 : -9223372036854775808 ≤ x) (h1 : x ≤ 9223372036854775807) : wrap64 x = x := p236z
theorem rd_all (p : Int → Bool) (h0 : p 0 = true) {l : List Int} (hl : l.all p = true) (i : Int) : p (rd l i) = true := by
 unfold rd
 rw [List.getD_eq_getElem?_getD]
 rcases h : l[i.toNat]? with _ | x
 ·exact h0
 ·exact List.all_eq_true.1 hl x (List.mem_of_getElem? h)
theorem kn_reads {l : List Int} (h : isB l = true) (hz : l.length ≤ 1000) : kReads.f l = some true := if_pos ⟨h, hz⟩
theorem kZ {l : List Int} {a b : Int} (h : isB l = true) (hz : l.length ≤ 1000) (ha : kU a = true) (hb : kI b = true) : kNumbers.f l a b = some true := if_pos ⟨h, hz, ha, hb⟩
theorem kn_zigs {a b c : Int} (ha : kI a = true) (hb : kI b = true) (hc : kU c = true) : kZigs.f a b c = some true := if_pos ⟨ha, hb, hc⟩
theorem kn_makes {a b c : Int} {l : List Int} (h : isB l = true) (hc : kU c = true) : kMakes.f a b c l = some true := if_pos ⟨h, hc⟩
theorem byte_isB {c : Nat} {l : List Int} (h : isB l = true) : isB (((c : Int) % 256) :: l) = true := by
  unfold isB at h ⊢
  rw [List.all_cons, h, Bool.and_true, Bool.and_eq_true, decide_eq_true_eq, decide_eq_true_eq]
  omega
theorem ar1 {n K q C D : Nat} (h : K + D ≤ q + 1) (hn : n ≤ 100) (hD : C + 102 ≤ D) : n + 1 + (K + C) ≤ q := by omega
theorem ar2 {n K k : Nat} (h : K + 1300 ≤ k) (hn : n ≤ 100) : n * 12 + 1 + K ≤ k := by omega
theorem l5 (k : Nat) (hk : 2100000 ≤ k) : a6.l4 (k + 1) 256 = some true := by
  rw [a6.l4, if_neg (by decide)]
theorem known_l4 : ∀ (d i k : Nat), i + d = 256 → d + 2100001 ≤ k → a6.l4 k (i : Int) = some true := by
  intro d
  induction d with
  | zero =>
    intro i k hi hk
    obtain ⟨q, rfl⟩ : ∃ q, k = q + 1 := ⟨k - 1, by omega⟩
    obtain rfl : i = 256 := by omega
    exact l5 q (by omega)
  | succ d ih =>
    intro i k hi hk
    obtain ⟨q, rfl⟩ : ∃ q, k = q + 1 := ⟨k - 1, by omega⟩
    have hw : wrap64 ((i : Int) + 1) = ((i + 1 : Nat) : Int) := by rw [kw_wrap (by omega) (by omega)]; omega
    have b1 : ∀ (p : List Int), isB p = true → isB (((i : Int) % 256) :: p) = true := fun p hp => byte_isB hp
    have b2 : ∀ (c : Int) (p : List Int), decide (0 ≤ c) = true → decide (c ≤ 255) = true → isB p = true → isB (c :: p) = true := by
      intro c p h0 h1 hp
      unfold isB at hp ⊢
      rw [List.all_cons, hp, h0, h1]
      rfl
    rw [a6.l4, if_pos (by omega), kn_reads (b1 _ (by decide)) (by simp), Option.bind_some, if_pos rfl,
      kn_reads (b2 _ _ rfl rfl (b1 _ rfl)) (by simp), Option.bind_some, if_pos rfl, kn_reads (b2 _ _ rfl rfl (b1 _ (by decide))) (by simp), Option.bind_some, if_pos rfl,
      kn_reads (b1 _ (by decide)) (by simp), Option.bind_some, if_pos rfl,
      kn_reads (b2 _ _ rfl rfl (b2 _ _ rfl rfl (b2 _ _ rfl rfl (b2 _ _ rfl rfl (b2 _ _ rfl rfl (b2 _ _ rfl rfl (b2 _ _ rfl rfl (b2 _ _ rfl rfl (b2 _ _ rfl rfl (b2 _ _ rfl rfl (b1 _ rfl))))))))))) (by simp), Option.bind_some, if_pos rfl, hw]
    exact ih (i + 1) q (by omega) (by omega)
section
variable (x1 x2 x3 : List Int) (h1 : x1.all kU = true) (h2 : x2.all kI = true) (h3 : x3.all kI = true) (l1 : x1.length ≤ 100) (l2 : x2.length ≤ 100) (l2p : 0 < x2.length) (l3 : x3.length ≤ 100)
include h1 l1 l3 in
theorem known_l3 (i j K : Nat) (hi : i < x1.length) (hj : j < x3.length) (hfin : ∀ k, K ≤ k → a6.l2 k x1 x2 x3 (i : Int) (wrap64 ((j : Int) + 1)) = some true) :
    ∀ (d : Nat) (m : Int) (k : Nat), m + d = 9 → -1 ≤ m → d + 1 + K ≤ k → a6.l3 k x1 x2 x3 (i : Int) (j : Int) m = some true := by
  intro d
  induction d with
  | zero =>
    intro m k hm h0 hk
    obtain ⟨q, rfl⟩ : ∃ q, k = q + 1 := ⟨k - 1, by omega⟩
    rw [a6.l3, if_neg (by omega)]
    exact hfin q (by omega)
  | succ d ih =>
    intro m k hm h0 hk
    obtain ⟨q, rfl⟩ : ∃ q, k = q + 1 := ⟨k - 1, by omega⟩
    have hw : wrap64 (m + 1) = m + 1 := kw_wrap (by omega) (by omega)
    have hu := rd_all kU rfl h1 (i : Int)
    rw [a6.l3, if_pos (by omega), if_pos (by omega), if_pos (by omega), if_pos (by omega), if_pos (by omega), kn_makes rfl hu, Option.bind_some, if_pos rfl, kn_makes rfl hu, Option.bind_some, if_pos rfl, hw]
    exact ih (m + 1) q (by omega) (by omega) (by omega)
include h1 l1 l3 in
theorem known_l2 (i K : Nat) (hi : i < x1.length) (hfin : ∀ k, K ≤ k → a6.l0 k x1 x2 x3 (wrap64 ((i : Int) + 1)) = some true) :
    ∀ (d j k : Nat), j + d = x3.length → d * 12 + 1 + K ≤ k → a6.l2 k x1 x2 x3 (i : Int) (j : Int) = some true := by
  intro d
  induction d with
  | zero =>
    intro j k hj hk
    obtain ⟨q, rfl⟩ : ∃ q, k = q + 1 := ⟨k - 1, by omega⟩
    rw [a6.l2, if_neg (by omega)]
    exact hfin q (by omega)
  | succ d ih =>
    intro j k hj hk
    obtain ⟨q, rfl⟩ : ∃ q, k = q + 1 := ⟨k - 1, by omega⟩
    have hw : wrap64 ((j : Int) + 1) = ((j + 1 : Nat) : Int) := by rw [kw_wrap (by omega) (by omega)]; omega
    rw [a6.l2, if_pos (by omega)]
    exact known_l3 x1 x2 x3 h1 l1 l3 i j (d * 12 + 1 + K) hi (by omega) (fun k hk => by rw [hw]; exact ih (j + 1) k (by omega) hk) 10 (-1) q (by omega) (by omega) (by omega)
include h1 h2 l1 l2 l2p l3 in
theorem known_l1 (i K : Nat) (hi : i < x1.length) (hfin : ∀ k, K ≤ k → a6.l2 k x1 x2 x3 (i : Int) 0 = some true) :
    ∀ (d j k : Nat), j + d = x2.length → d + 1 + K ≤ k → a6.l1 k x1 x2 x3 (i : Int) (j : Int) = some true := by
  intro d
  induction d with
  | zero =>
    intro j k hj hk
    obtain ⟨q, rfl⟩ : ∃ q, k = q + 1 := ⟨k - 1, by omega⟩
    rw [a6.l1, if_neg (by omega)]
    exact hfin q (by omega)
  | succ d ih =>
    intro j k hj hk
    obtain ⟨q, rfl⟩ : ∃ q, k = q + 1 := ⟨k - 1, by omega⟩
    have hw : wrap64 ((j : Int) + 1) = ((j + 1 : Nat) : Int) := by rw [kw_wrap (by omega) (by omega)]; omega
    have hu := rd_all kU rfl h1 (i : Int)
    have hI := fun x => rd_all kI rfl h2 x
    have t0 : 0 ≤ Int.tmod (i : Int) (x2.length : Int) := Int.tmod_nonneg _ (by omega)
    have t1 : Int.tmod (i : Int) (x2.length : Int) < (x2.length : Int) := Int.tmod_lt_of_pos _ (by omega)
    rw [a6.l1, if_pos (by omega), if_pos (by omega), if_pos (by omega), if_pos (by omega), kZ rfl (by decide) hu (hI _), Option.bind_some, if_pos rfl, if_neg (by omega), if_pos t0, if_pos t1, kn_zigs (hI _) (hI _) hu, Option.bind_some, if_pos rfl, hw]
    exact ih (j + 1) q (by omega) (by omega)
include h1 h2 l1 l2 l2p l3 in
theorem known_l0 (M : Nat) (hM : ∀ k, M ≤ k → a6.l4 k 0 = some true) : ∀ (d i k : Nat), i + d = x1.length → d * 2000 + M + 1 ≤ k → a6.l0 k x1 x2 x3 (i : Int) = some true := by
  intro d
  induction d with
  | zero =>
    intro i k hi hk
    obtain ⟨q, rfl⟩ : ∃ q, k = q + 1 := ⟨k - 1, by omega⟩
    rw [a6.l0, if_neg (by omega)]
    exact hM q (by omega)
  | succ d ih =>
    intro i k hi hk
    obtain ⟨q, rfl⟩ : ∃ q, k = q + 1 := ⟨k - 1, by omega⟩
    have hw : wrap64 ((i : Int) + 1) = ((i + 1 : Nat) : Int) := by rw [kw_wrap (by omega) (by omega)]; omega
    obtain ⟨K, hK⟩ : ∃ K, K = d * 2000 + M + 1 := ⟨_, rfl⟩
    have hq : K + 2000 ≤ q + 1 := by rw [hK]; omega
    have ih2 : ∀ k, K ≤ k → a6.l0 k x1 x2 x3 (wrap64 ((i : Int) + 1)) = some true := fun k hk => by rw [hw]; exact ih (i + 1) k (by omega) (Nat.le_trans (Nat.le_of_eq hK.symm) hk)
    clear ih hk hK
    rw [a6.l0, if_pos (by omega)]
    refine known_l1 x1 x2 x3 h1 h2 l1 l2 l2p l3 i (K + 1300) (by omega) (fun k hk => ?_) x2.length 0 q (Nat.zero_add _) (ar1 hq l2 (by decide))
    exact known_l2 x1 x2 x3 h1 l1 l3 i K (by omega) ih2 x3.length 0 k (Nat.zero_add _) (ar2 hk l3)
end
theorem WireKnown : a6.Pure := by
  refine ⟨3000000, ?_⟩
  unfold a6.f
  exact known_l0 _ _ _ p162z p162z p162z p162z p162z p162z 2100300 (fun k hk => known_l4 256 0 k rfl (Nat.le_trans p162z hk)) 9 0 3000000 p162z p162z
end Go.Proofs.Ytbclejgljegfmaa.Pure
