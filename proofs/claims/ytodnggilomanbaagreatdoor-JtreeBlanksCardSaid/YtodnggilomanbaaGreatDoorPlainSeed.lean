/-
  What a seed of numbers makes is small: no walk.
-/
import Derived.Test.YtodnggilomanbaaGreatDoorHandSeedN
import Derived.Test.YtodnggilomanbaaGreatDoorPlainTree
namespace Go.Proofs.YtodnggilomanbaaGreatDoor.Pure
open Go.RowKit Go.Lib Go.Proofs.YtodnggilomanbaaGreatDoor.PAll Go.Proofs.YtodnggilomanbaaGreatDoorW.PrintWords Go.Proofs.YtodnggilomanbaaGreatDoorW.PrintLast Go.Proofs.YtodnggilomanbaaGreatDoorW.PrintMore Go.Proofs.YtodnggilomanbaaGreatDoor.Hand
set_option linter.unusedVariables false
set_option linter.unusedSimpArgs false

theorem nextF_len (l : List Int) (n : Int) : (nextF l n).2.length ≤ l.length := by
  cases l with
  | nil => exact Nat.le_refl _
  | cons x t => exact Nat.le_succ _
theorem nextF_pos {l : List Int} {n : Int} (h : (nextF l n).2 ≠ []) : (nextF l n).2.length + 1 = l.length := by
  cases l with
  | nil => exact absurd rfl h
  | cons x t => rfl
theorem wordR_len : ∀ (i : Nat) (l : List Int) (o : ByteArray), (wordR i l o).2.length ≤ l.length
  | 0, l, o => Nat.le_refl _
  | i + 1, l, o => by
    rw [wordR]
    exact Nat.le_trans (wordR_len i _ _) (nextF_len l 12)
theorem sdWord_len (l : List Int) : (sdWord l).2.length ≤ l.length := Nat.le_trans (wordR_len _ _ _) (nextF_len l 4)
theorem numB_sz {j : Int} (h0 : 0 ≤ j) (h1 : j < 6) : (numB j).size ≤ 20 := by
  have h : j = 0 ∨ j = 1 ∨ j = 2 ∨ j = 3 ∨ j = 4 ∨ j = 5 := by omega
  rcases h with rfl | rfl | rfl | rfl | rfl | rfl <;> decide
theorem keyS_sz (w : ByteArray) (i : Nat) (h : w.size ≤ 12) : (keyS w i).size ≤ 13 := by
  unfold keyS
  rw [ByteArray.size_append, ByteArray.size_extract]
  omega
/-- A small node. -/
structure Sml (n : S28) : Prop where
  ok1 : okM n = true
  ok2 : okN n = true
  len : ∀ b : List Int, b.length ≤ 2 → (spc b n).length + 100 ≤ 200 * cnt n
theorem cm_small {b : List Int} (hb : b.length ≤ 2) : ∀ L : List S28, (∀ x ∈ L, Sml x) → (cm (spcL b L)).length ≤ 200 * cntL L
  | [], _ => by simp [spcL, cm]
  | x :: l, h => by
    rw [spcL, cntL]
    have h1 := cm_le (b ++ (spc b x ++ b)) (spcL b l)
    have h2 := cm_small hb l (fun y hy => h y (List.mem_cons_of_mem _ hy))
    have h3 := (h x (by simp)).len b hb
    simp only [List.length_append] at h1
    omega
theorem zip_small {b : List Int} (hb : b.length ≤ 2) : ∀ (L : List S28) (ks : List ByteArray), (∀ x ∈ L, Sml x) → (∀ q ∈ ks, q.size ≤ 13) → (cm (List.zipWith (kv b) ks (spcL b L))).length ≤ 200 * cntL L
  | [], ks, _, _ => by cases ks <;> simp [spcL, cm]
  | x :: l, [], _, _ => by simp [cm]
  | x :: l, q :: ks, h, hk => by
    rw [spcL, cntL, List.zipWith_cons_cons]
    have h1 := cm_le (kv b q (b ++ (spc b x ++ b))) (List.zipWith (kv b) ks (spcL b l))
    have h2 := zip_small hb l ks (fun y hy => h y (List.mem_cons_of_mem _ hy)) (fun y hy => hk y (List.mem_cons_of_mem _ hy))
    have h3 := (h x (by simp)).len b hb
    have h4 := quo_len q
    have h5 := hk q (by simp)
    have h6 : (kv b q (b ++ (spc b x ++ b))).length = b.length + ((quoL q).length + (b.length + (b.length + ((spc b x).length + b.length) + 1))) := by simp only [kv, List.length_append, List.length_cons]
    omega
theorem ok_small : ∀ L : List S28, (∀ x ∈ L, Sml x) → okML L = true ∧ okL L = true
  | [], _ => ⟨rfl, rfl⟩
  | x :: l, h => by
    obtain ⟨a, b⟩ := ok_small l (fun y hy => h y (List.mem_cons_of_mem _ hy))
    have hx := h x (by simp)
    exact ⟨by rw [okML, hx.ok1, a]; rfl, by rw [okL, hx.ok2, b]; rfl⟩
theorem sml_mk {k : Int} {s : ByteArray} {ks : List ByteArray} {L : List S28} (h1 : s.size ≤ 20) (hk5 : k = 5 → s.size ≤ 12) (h2 : ∀ q ∈ ks, q.size ≤ 13) (h3 : ks.length ≤ 3) (h4 : L.length ≤ 3) (h5 : ∀ x ∈ L, Sml x) : Sml ⟨k, s, ks, L⟩ := by
  obtain ⟨a, b⟩ := ok_small L h5
  have hall : ks.all (fun x => decide (x.size ≤ 1073741824)) = true := List.all_eq_true.2 fun q hq => decide_eq_true (by have := h2 q hq; omega)
  refine ⟨?_, ?_, fun b hb => ?_⟩
  · rw [okM, a, hall]
    simp only [Bool.and_eq_true, decide_eq_true_eq]
    exact ⟨⟨⟨⟨by omega, trivial⟩, by omega⟩, by omega⟩, trivial⟩
  · rw [okN, b]
    simp only [Bool.and_eq_true, decide_eq_true_eq]
    exact ⟨⟨by omega, by omega⟩, trivial⟩
  · rw [spc, cnt]
    by_cases k4 : k = 4
    · rw [if_pos k4, bytesOf_length]
      omega
    rw [if_neg k4]
    by_cases k5 : k = 5
    · rw [if_pos k5]
      have := quo_len s
      have := hk5 k5
      omega
    rw [if_neg k5]
    by_cases k6 : k = 6
    · rw [if_pos k6]
      have := cm_small hb L h5
      simp only [List.length_cons, List.length_append, List.length_nil]
      omega
    rw [if_neg k6]
    by_cases k7 : k = 7
    · rw [if_pos k7]
      have := zip_small hb L ks h5 h2
      simp only [List.length_cons, List.length_append, List.length_nil]
      omega
    rw [if_neg k7]
    have : (wordL k).length ≤ 5 := by
      unfold wordL
      split
      · decide
      · split
        · decide
        · split <;> decide
    omega
/-- What a maker of nodes makes is small, and few. -/
def Smalls (NF : SeedFn) : Prop := ∀ l, Sml (NF l).1 ∧ (NF l).2.length ≤ l.length ∧ cnt (NF l).1 + 3 * (NF l).2.length ≤ 1 + 3 * l.length
theorem leaf_smalls (k : Int) (l : List Int) : Sml (leafS k l).1 ∧ (leafS k l).2.length ≤ l.length ∧ cnt (leafS k l).1 = 1 := by
  have hz : (⟨#[]⟩ : ByteArray).size = 0 := rfl
  unfold leafS
  split
  · have := nextF_bd l 6 (by decide)
    exact ⟨sml_mk (numB_sz this.1 this.2) (fun h => absurd h (by decide)) (fun q hq => by cases hq) (by decide) (by decide) (fun x hx => by cases hx), nextF_len l 6, rfl⟩
  · split
    · have := sdWord_sz l
      exact ⟨sml_mk (by omega) (fun _ => this) (fun q hq => by cases hq) (by decide) (by decide) (fun x hx => by cases hx), sdWord_len l, rfl⟩
    · exact ⟨sml_mk (by omega) (fun _ => by omega) (fun q hq => by cases hq) (by decide) (by decide) (fun x hx => by cases hx), Nat.le_refl _, rfl⟩
theorem cntL_one (L : List S28) (x : S28) : cntL (L ++ [x]) = cntL L + cnt x := by
  induction L with
  | nil => simp [cntL]
  | cons y l ih => rw [List.cons_append, cntL, ih, cntL]; omega
theorem kids_smalls {NF : SeedFn} (hN : Smalls NF) (k : Int) : ∀ (i : Nat) (keys : List ByteArray) (L : List S28) (l : List Int), (∀ q ∈ keys, q.size ≤ 13) → (∀ x ∈ L, Sml x) →
    (∀ q ∈ (kids NF k i keys L l).1, q.size ≤ 13) ∧ (∀ x ∈ (kids NF k i keys L l).2.1, Sml x) ∧ (kids NF k i keys L l).1.length ≤ keys.length + i ∧ (kids NF k i keys L l).2.1.length = L.length + i ∧ (kids NF k i keys L l).2.2.length ≤ l.length ∧ cntL (kids NF k i keys L l).2.1 + 3 * (kids NF k i keys L l).2.2.length ≤ cntL L + i + 3 * l.length
  | 0, keys, L, l, h1, h2 => ⟨h1, h2, Nat.le_refl _, rfl, Nat.le_refl _, Nat.le_refl _⟩
  | i + 1, keys, L, l, h1, h2 => by
    rw [kids_at]
    have hs : (∀ q ∈ (stepS k i keys l).1, q.size ≤ 13) ∧ (stepS k i keys l).1.length ≤ keys.length + 1 ∧ (stepS k i keys l).2.length ≤ l.length := by
      unfold stepS
      split
      · refine ⟨fun q hq => ?_, by simp, sdWord_len l⟩
        rcases List.mem_append.1 hq with hq | hq
        · exact h1 q hq
        · rw [List.mem_singleton.1 hq]
          exact keyS_sz _ _ (sdWord_sz l)
      · exact ⟨h1, Nat.le_succ _, Nat.le_refl _⟩
    obtain ⟨s1, s2, s3⟩ := hs
    obtain ⟨n1, n2, n3⟩ := hN (stepS k i keys l).2
    obtain ⟨a1, a2, a3, a4, a5, a6⟩ := kids_smalls hN k i (stepS k i keys l).1 (L ++ [(NF (stepS k i keys l).2).1]) (NF (stepS k i keys l).2).2 s1 (fun x hx => by
      rcases List.mem_append.1 hx with hx | hx
      · exact h2 x hx
      · rw [List.mem_singleton.1 hx]
        exact n1)
    rw [cntL_one] at a6
    rw [List.length_append] at a4
    exact ⟨a1, a2, by omega, by rw [a4]; simp; omega, by omega, by omega⟩
theorem many_smalls {NF : SeedFn} (hN : Smalls NF) (k : Int) (l : List Int) : Sml (manyS NF k l).1 ∧ (manyS NF k l).2.length ≤ l.length ∧ cnt (manyS NF k l).1 + 3 * (manyS NF k l).2.length ≤ 4 + 3 * l.length := by
  have hb := nextF_bd l 4 (by decide)
  have hl := nextF_len l 4
  have hz : (⟨#[]⟩ : ByteArray).size = 0 := rfl
  obtain ⟨a1, a2, a3, a4, a5, a6⟩ := kids_smalls hN k (nextF l 4).1.toNat [] [] (nextF l 4).2 (fun q hq => by cases hq) (fun q hq => by cases hq)
  have h0 : cntL [] = 0 := rfl
  rw [List.length_nil] at a3 a4
  unfold manyS
  refine ⟨sml_mk (by omega) (fun _ => by omega) a1 (by omega) (by omega) a2, (by simp only; omega), ?_⟩
  rw [cnt]
  simp only
  omega
theorem seed_smalls : ∀ m : Nat, Smalls (seedF m)
  | 0, l => by
    rw [seedF]
    obtain ⟨a, b, c⟩ := leaf_smalls (sdK 0 l) (nextF l 7).2
    have := nextF_len l 7
    exact ⟨a, by omega, by omega⟩
  | m + 1, l => by
    rw [seedF]
    have := nextF_len l 7
    by_cases h : sdK (m + 1) l < 5
    · rw [if_pos h]
      obtain ⟨a, b, c⟩ := leaf_smalls (sdK (m + 1) l) (nextF l 7).2
      exact ⟨a, by omega, by omega⟩
    · rw [if_neg h]
      obtain ⟨a, b, c⟩ := many_smalls (seed_smalls m) (sdK (m + 1) l) (nextF l 7).2
      have hne : (nextF l 7).2 ≠ [] := fun e => h (by
        unfold sdK
        rw [if_pos (Or.inr e)]
        exact Int.tmod_lt_of_pos _ (by decide))
      have := nextF_pos hne
      exact ⟨a, by omega, by omega⟩
/-- A node out of 200 numbers at most. -/
theorem seed_small {l : List Int} (h : l.length ≤ 200) : Sml (seedF 6 l).1 ∧ cnt (seedF 6 l).1 ≤ 601 := by
  obtain ⟨a, b, c⟩ := seed_smalls 6 l
  exact ⟨a, by omega⟩
end Go.Proofs.YtodnggilomanbaaGreatDoor.Pure
