/-
  What is read has short lists; own makes the reference's node of it, and that is the same as itself: no walk.
-/
import Derived.Test.YtodnggilomanbaaGreatDoorHandRz
import Derived.Test.YtodnggilomanbaaGreatDoorGRo
import Derived.Test.YtodnggilomanbaaGreatDoorGRq
namespace Go.Proofs.YtodnggilomanbaaGreatDoor.Pure
open Go.RowKit Go.Lib Go.Proofs.YtodnggilomanbaaGreatDoor.PAll Go.Proofs.YtodnggilomanbaaGreatDoorW.PrintWords Go.Proofs.YtodnggilomanbaaGreatDoorW.PrintLast Go.Proofs.YtodnggilomanbaaGreatDoorW.PrintMore Go.Proofs.YtodnggilomanbaaGreatDoor.Hand
set_option linter.unusedVariables false
set_option linter.unusedSimpArgs false

def Bd : Nat → S28 → Prop
  | 0, _ => False
  | k + 1, n => n.f2.length ≤ 1001 ∧ n.f3.length ≤ 1001 ∧ ∀ x ∈ n.f3, Bd k x
theorem Bd.nil {k : Nat} {a : Int} {b : ByteArray} : Bd (k + 1) ⟨a, b, [], []⟩ := ⟨by simp, by simp, fun x hx => by cases hx⟩
theorem stepK_len {s : ByteArray} {kind x y : Int} {keys keys' : List ByteArray} (h : stepK s kind keys x = .ok (keys', y)) : keys'.length ≤ keys.length + 1 := by
 unfold stepK at h
 split at h
 ·split at h
  ·cases h
   simp
  ·cases h
 ·cases h
  omega
theorem partsL_len {NF : NodeFn} {s : ByteArray} {kind : Int} {P : S28 → Prop} (hN : ∀ x m d nd z m' d', NF x m d = .ok (nd, z, m', d') → P nd) :
 ∀ (n : Nat) {keys keys' : List ByteArray} {L L' : List S28} {x z many many' deep deep' : Int}, partsL NF s kind n keys L x many deep = .ok (keys', L', z, many', deep') → (∀ y ∈ L, P y) →
  keys'.length ≤ keys.length + n ∧ L'.length ≤ L.length + n ∧ ∀ y ∈ L', P y
 | 0, _, _, _, _, _, _, _, _, _, _, h, _ => by rw [partsL] at h; cases h
 | n + 1, keys, keys', L, L', x, z, many, many', deep, deep', h, hL => by
  rw [partsL] at h
  split at h
  ·cases h
  ·rename_i k1 y hk
   have h1 := stepK_len hk
   split at h
   ·cases h
   ·rename_i nd v m d hv
    have h2 : ∀ y ∈ L ++ [nd], P y := by
     intro y hy
     rcases List.mem_append.1 hy with hy | hy
     ·exact hL y hy
     ·rw [List.mem_singleton] at hy
      rw [hy]
      exact hN _ _ _ _ _ _ _ hv
    split at h
    ·obtain ⟨g1, g2, g3⟩ := partsL_len hN n h h2
     rw [List.length_append, List.length_singleton] at g2
     exact ⟨by omega, by omega, g3⟩
    ·cases h
     rw [List.length_append, List.length_singleton]
     exact ⟨by omega, by omega, h2⟩
theorem partsF_len {NF : NodeFn} {s : ByteArray} {k : Nat} {kind last : Int} (hs : s.size ≤ 1000) (hN : ∀ x m d nd z m' d', NF x m d = .ok (nd, z, m', d') → Bd k nd) {x many deep : Int} {nd : S28} {z m d : Int} (h : partsF NF s kind last x many deep = .ok (nd, z, m, d)) : Bd (k + 1) nd := by
 unfold partsF at h
 split at h
 ·cases h
  exact Bd.nil
 ·split at h
  ·cases h
  ·rename_i keys L v m1 d1 hp
   obtain ⟨g1, g2, g3⟩ := partsL_len hN _ hp (fun y hy => by cases hy)
   split at h
   ·cases h
    simp only [List.length_nil] at g1 g2
    exact ⟨by show keys.length ≤ 1001; omega, by show L.length ≤ 1001; omega, g3⟩
   ·cases h
theorem nodeF_len {s : ByteArray} (hs : s.size ≤ 1000) : ∀ (k : Nat) x m d nd z m' d', nodeF s k x m d = .ok (nd, z, m', d') → Bd k nd
 | 0, x, m, d, nd, z, m', d', h => by rw [nodeF] at h; cases h
 | k + 1, x, m, d, nd, z, m', d', h => by
  rw [nodeF] at h
  simp only at h
  split at h
  ·split at h
   ·cases h
   ·split at h
    ·cases h
    ·rename_i nd' z' m1 d1 hv
     cases h
     have hl : ∀ {t : List Int} {kind y mm dd zz m2 d2 : Int} {n2 : S28}, leafF s t kind y mm dd = .ok (n2, zz, m2, d2) → Bd (k + 1) n2 := by
      intro t kind y mm dd zz m2 d2 n2 h2
      unfold leafF at h2
      split at h2
      ·cases h2
       exact Bd.nil
      ·cases h2
     unfold wayF at hv
     split at hv
     ·exact hl hv
     ·split at hv
      ·exact hl hv
      ·split at hv
       ·exact hl hv
       ·split at hv
        ·unfold strN at hv
         split at hv
         ·cases hv
          exact Bd.nil
         ·cases hv
        ·split at hv
         ·exact partsF_len hs (nodeF_len hs k) hv
         ·split at hv
          ·exact partsF_len hs (nodeF_len hs k) hv
          ·unfold numberF at hv
           repeat' split at hv
           all_goals first | (cases hv; done) | (cases hv; exact Bd.nil)
  ·cases h
theorem parseF_len {s : ByteArray} (hs : s.size ≤ 1000) : Bd 61 (parseF s).1 := by
 unfold parseF
 rw [if_neg (by omega)]
 split
 ·exact Bd.nil
 ·rename_i nd x m d h
  split
  ·exact Bd.nil
  ·exact nodeF_len hs _ _ _ _ _ _ _ _ h

theorem s37_eta (x : S37) : (⟨x.f0, x.f1, x.f2, x.f3⟩ : S37) = x := by cases x; rfl
theorem wrap_nat {i : Nat} (h : i ≤ 1001) : wrap64 ((i : Int) + 1) = ((i + 1 : Nat) : Int) := by
  unfold wrap64
  omega
theorem toRL_len (l : List S28) : (toRL l).length = l.length := by
  induction l with
  | nil => rfl
  | cons x l ih => rw [toRL, List.length_cons, List.length_cons, ih]
theorem toRL_get : ∀ (l : List S28) (i : Nat) (h : i < l.length), (toRL l).getD i z37 = toR (l.getD i z28)
  | x :: l, 0, _ => by rw [toRL]; rfl
  | x :: l, i + 1, h => by
    rw [toRL]
    exact toRL_get l i (by simpa using h)
theorem rd37_at (l : List S28) (i : Nat) (h : i < l.length) : rd_T37 (toRL l) (i : Int) = toR (rd_T28 l (i : Int)) := by
  unfold rd_T37 rd_T28
  exact toRL_get l i h
theorem rd28_mem {l : List S28} {i : Nat} (h : i < l.length) : rd_T28 l (i : Int) ∈ l := by
  unfold rd_T28
  rw [Int.toNat_natCast, List.getD_eq_getElem?_getD, List.getElem?_eq_getElem h]
  exact List.getElem_mem h
theorem toRL_take (l : List S28) (i : Nat) (h : i < l.length) : toRL (l.take i) ++ [toR (rd_T28 l (i : Int))] = toRL (l.take (i + 1)) := by
  have e : l.take (i + 1) = l.take i ++ [rd_T28 l (i : Int)] := by
    rw [List.take_add_one, List.getElem?_eq_getElem h]
    unfold rd_T28
    rw [Int.toNat_natCast, List.getD_eq_getElem?_getD, List.getElem?_eq_getElem h]
    rfl
  rw [e, toRL_app]
  rfl
theorem own_l {k : Nat} (hk : ∀ n : S28, Bd k n → ∀ K, 1100 * k ≤ K → signetrylaw14_own.f K n.f0 n.f1 n.f2 n.f3 = some ((toR n).f0, (toR n).f1, (toR n).f2, (toR n).f3)) (d : List S28) (hd : ∀ x ∈ d, Bd k x) (hl : d.length ≤ 1001) (a : Int) (b : ByteArray) (q : List ByteArray) (a' : Int) (b' : ByteArray) (q' : List ByteArray) :
    ∀ (m i : Nat), i + m = d.length → ∀ K, 1100 * k + m + 1 ≤ K → signetrylaw14_own.l0 K (i : Int) a b q d a' b' q' (toRL (d.take i)) = some (a', b', q', toRL d)
  | m, i, hm, 0, hK => by omega
  | 0, i, hm, K + 1, hK => by
    rw [signetrylaw14_own.l0, if_neg (by omega), List.take_of_length_le (by omega)]
  | m + 1, i, hm, K + 1, hK => by
    have hi : i < d.length := by omega
    rw [signetrylaw14_own.l0, if_pos (by omega), if_pos (by omega), hk _ (hd _ (rd28_mem hi)) K (by omega), Option.bind_some, if_pos (by rw [toRL_len, List.length_take]; omega), wrap_nat (by omega)]
    have e : (⟨(toR (rd_T28 d (i : Int))).f0, (toR (rd_T28 d (i : Int))).f1, (toR (rd_T28 d (i : Int))).f2, (toR (rd_T28 d (i : Int))).f3⟩ : S37) = toR (rd_T28 d (i : Int)) := s37_eta _
    simp only
    rw [e, toRL_take d i hi]
    exact own_l hk d hd hl a b q a' b' q' m (i + 1) (by omega) K (by omega)
theorem own_at : ∀ (k : Nat) (n : S28), Bd k n → ∀ K, 1100 * k ≤ K → signetrylaw14_own.f K n.f0 n.f1 n.f2 n.f3 = some ((toR n).f0, (toR n).f1, (toR n).f2, (toR n).f3)
  | 0, n, h, K, hK => by unfold Bd at h; exact h.elim
  | k + 1, n, h, 0, hK => by omega
  | k + 1, n, h, K + 1, hK => by
    unfold Bd at h
    obtain ⟨h1, h2, h3⟩ := h
    rw [signetrylaw14_own.f, toR_at]
    exact own_l (own_at k) n.f3 h3 h2 _ _ _ _ _ _ n.f3.length 0 (by omega) K (by omega)
theorem eq_texts_l (q : List ByteArray) (hl : q.length ≤ 1001) : ∀ (m i : Nat), i + m = q.length → ∀ K, m + 1 ≤ K → signetryref00_EqTexts.l0 K q q (i : Int) = some true
  | m, i, hm, 0, hK => by omega
  | 0, i, hm, K + 1, hK => by rw [signetryref00_EqTexts.l0, if_neg (by omega)]
  | m + 1, i, hm, K + 1, hK => by
    rw [signetryref00_EqTexts.l0, if_pos (by omega), if_pos (by omega), if_pos (by omega), if_pos rfl, wrap_nat (by omega)]
    exact eq_texts_l q hl m (i + 1) (by omega) K (by omega)
theorem eq_texts (q : List ByteArray) (hl : q.length ≤ 1001) {K : Nat} (hK : 1002 ≤ K) : signetryref00_EqTexts.f K q q = some true := by
  unfold signetryref00_EqTexts.f
  rw [if_pos rfl]
  exact eq_texts_l q hl q.length 0 (by omega) K (by omega)
theorem rsame_l {k : Nat} (hk : ∀ n : S28, Bd k n → ∀ K, 1100 * k ≤ K → signetryref14_Same.f K (toR n).f0 (toR n).f1 (toR n).f2 (toR n).f3 (toR n).f0 (toR n).f1 (toR n).f2 (toR n).f3 = some true) (d : List S28) (hd : ∀ x ∈ d, Bd k x) (hl : d.length ≤ 1001) (a : Int) (b : ByteArray) (q : List ByteArray) (a' : Int) (b' : ByteArray) (q' : List ByteArray) :
    ∀ (m i : Nat), i + m = d.length → ∀ K, 1100 * k + m + 1 ≤ K → signetryref14_Same.l0 K (i : Int) a b q (toRL d) a' b' q' (toRL d) = some true
  | m, i, hm, 0, hK => by omega
  | 0, i, hm, K + 1, hK => by
    rw [signetryref14_Same.l0, if_neg (by rw [toRL_len]; omega)]
  | m + 1, i, hm, K + 1, hK => by
    have hi : i < d.length := by omega
    rw [signetryref14_Same.l0, if_pos (by rw [toRL_len]; omega), if_pos (by omega), if_pos (by rw [toRL_len]; omega), rd37_at d i hi, hk _ (hd _ (rd28_mem hi)) K (by omega), Option.bind_some, if_pos rfl, wrap_nat (by omega)]
    exact rsame_l hk d hd hl a b q a' b' q' m (i + 1) (by omega) K (by omega)
theorem rsame_at : ∀ (k : Nat) (n : S28), Bd k n → ∀ K, 1100 * k ≤ K → signetryref14_Same.f K (toR n).f0 (toR n).f1 (toR n).f2 (toR n).f3 (toR n).f0 (toR n).f1 (toR n).f2 (toR n).f3 = some true
  | 0, n, h, K, hK => by unfold Bd at h; exact h.elim
  | k + 1, n, h, 0, hK => by omega
  | k + 1, n, h, 1, hK => by omega
  | k + 1, n, h, K + 2, hK => by
    unfold Bd at h
    obtain ⟨h1, h2, h3⟩ := h
    rw [signetryref14_Same.f, toR_at, if_pos rfl, if_pos rfl, eq_texts n.f2 h1 (by omega), Option.bind_some, if_pos rfl, signetryref14_Same.j0, if_neg (by simp)]
    exact rsame_l (rsame_at k) n.f3 h3 h2 _ _ _ _ _ _ n.f3.length 0 (by omega) K (by omega)
end Go.Proofs.YtodnggilomanbaaGreatDoor.Pure
